/- The facts of a world, as a set: plain law. -/
import Derived.Test.YtnaiflokmihmeaaActI
import Derived.Test.YtnaiflokmihmeaaMgH
namespace Go.Proofs.Ytnaiflokmihmeaa
open Go.RowKit
set_option linter.unusedVariables false
set_option linter.unusedSimpArgs false

/-- the facts told of i1 slots, i2 arms, the places of j parts, the looks at j5 parts -/
def stF (d : Wd) (i1 i2 j j5 : Nat) (f : Ft) : Prop :=
  (f.k = 4 ∧ f.b = 0 ∧ 0 ≤ f.a ∧ f.a < (i1 : Int) ∧ f.a ∉ d.pl.take j) ∨
  (f.k = 3 ∧ f.b = 0 ∧ 0 ≤ f.a ∧ f.a < (i2 : Int) ∧ (-2 - f.a) ∉ d.pl.take j) ∨
  (f.k = 6 ∧ 0 ≤ f.b ∧ ∃ q : Nat, f.a = (q : Int) ∧ q < i2 ∧ d.sp[q]? = some f.b) ∨
  (f.k = 1 ∧ 0 ≤ f.b ∧ ∃ q : Nat, f.a = (q : Int) ∧ q < j ∧ d.pl[q]? = some f.b) ∨
  (f.k = 2 ∧ 0 ≤ f.a ∧ ∃ q : Nat, f.b = (q : Int) ∧ q < j ∧ d.pl[q]? = some (-2 - f.a)) ∨
  (f.k = 5 ∧ f.b = 0 ∧ ∃ q : Nat, f.a = (q : Int) ∧ q < j5 ∧ d.se[q]? = some true)
theorem ex_succ {P : Nat → Prop} {j : Nat} : (∃ q, q < j + 1 ∧ P q) ↔ (∃ q, q < j ∧ P q) ∨ P j := by
  constructor
  · rintro ⟨q, h1, h2⟩
    by_cases h : q < j
    · exact .inl ⟨q, h, h2⟩
    · exact .inr ((show q = j by omega) ▸ h2)
  · rintro (⟨q, h1, h2⟩ | h)
    · exact ⟨q, by omega, h2⟩
    · exact ⟨j, by omega, h⟩
theorem st_slot (d : Wd) (i : Nat) (f : Ft) : stF d (i + 1) 0 0 0 f ↔ stF d i 0 0 0 f ∨ f = ⟨4, (i : Int), 0⟩ := by
  obtain ⟨k, a, b⟩ := f
  simp only [stF, List.take_zero, List.not_mem_nil, not_false_eq_true, Ft.mk.injEq]
  constructor
  · rintro (h | h | ⟨_, _, q, _, h, _⟩ | ⟨_, _, q, _, h, _⟩ | ⟨_, _, q, _, h, _⟩ | ⟨_, _, q, _, h, _⟩)
    · by_cases h2 : a < (i : Int)
      · exact .inl (.inl ⟨h.1, h.2.1, h.2.2.1, h2, trivial⟩)
      · exact .inr ⟨h.1, by omega, h.2.1⟩
    · exact .inl (.inr (.inl h))
    all_goals omega
  · rintro ((h | h | ⟨_, _, q, _, h, _⟩ | ⟨_, _, q, _, h, _⟩ | ⟨_, _, q, _, h, _⟩ | ⟨_, _, q, _, h, _⟩) | h)
    · exact .inl ⟨h.1, h.2.1, h.2.2.1, by omega, trivial⟩
    · exact .inr (.inl h)
    · omega
    · omega
    · omega
    · omega
    · exact .inl ⟨h.1, h.2.2, by omega, by omega, trivial⟩
theorem st_arm (d : Wd) (n i : Nat) (x : Int) (hx : d.sp[i]? = some x) (f : Ft) : stF d n (i + 1) 0 0 f ↔ (stF d n i 0 0 f ∨ f = ⟨3, (i : Int), 0⟩) ∨ (0 ≤ x ∧ f = ⟨6, (i : Int), x⟩) := by
  obtain ⟨k, a, b⟩ := f
  simp only [stF, List.take_zero, List.not_mem_nil, not_false_eq_true, Ft.mk.injEq]
  constructor
  · rintro (h | h | ⟨h1, h2, q, h3, h4, h5⟩ | ⟨_, _, q, _, h, _⟩ | ⟨_, _, q, _, h, _⟩ | ⟨_, _, q, _, h, _⟩)
    · exact .inl (.inl (.inl h))
    · by_cases h2 : a < (i : Int)
      · exact .inl (.inl (.inr (.inl ⟨h.1, h.2.1, h.2.2.1, h2, trivial⟩)))
      · exact .inl (.inr ⟨h.1, by omega, h.2.1⟩)
    · by_cases hq : q < i
      · exact .inl (.inl (.inr (.inr (.inl ⟨h1, h2, q, h3, hq, h5⟩))))
      · obtain rfl : q = i := by omega
        rw [hx] at h5
        injection h5 with h5
        subst h5
        exact .inr ⟨h2, h1, h3, rfl⟩
    all_goals omega
  · rintro (((h | h | ⟨h1, h2, q, h3, h4, h5⟩ | ⟨_, _, q, _, h, _⟩ | ⟨_, _, q, _, h, _⟩ | ⟨_, _, q, _, h, _⟩) | h) | ⟨h1, h2, h3, h4⟩)
    · exact .inl h
    · exact .inr (.inl ⟨h.1, h.2.1, h.2.2.1, by omega, trivial⟩)
    · exact .inr (.inr (.inl ⟨h1, h2, q, h3, by omega, h5⟩))
    · omega
    · omega
    · omega
    · exact .inr (.inl ⟨h.1, h.2.2, by omega, by omega, trivial⟩)
    · exact .inr (.inr (.inl ⟨h2, by omega, i, h3, by omega, by rw [hx, h4]⟩))
theorem st_part (d : Wd) (n m j : Nat) (x : Int) (hx : d.pl[j]? = some x) (hu : x ≠ -1 → x ∉ d.pl.take j) (f : Ft) : stF d n m (j + 1) j f ↔
    if 0 ≤ x then (stF d n m j j f ∧ f ≠ ⟨4, x, 0⟩) ∨ f = ⟨1, (j : Int), x⟩ else if x < -1 then (stF d n m j j f ∧ f ≠ ⟨3, -2 - x, 0⟩) ∨ f = ⟨2, -2 - x, (j : Int)⟩ else stF d n m j j f := by
  obtain ⟨k, a, b⟩ := f
  have hm := mem_take_succ hx
  have hq1 : (∃ q : Nat, a = (q : Int) ∧ q < j + 1 ∧ d.pl[q]? = some b) ↔ (∃ q : Nat, a = (q : Int) ∧ q < j ∧ d.pl[q]? = some b) ∨ (a = (j : Int) ∧ x = b) := by
    constructor
    · rintro ⟨q, h1, h2, h3⟩
      by_cases h : q < j
      · exact .inl ⟨q, h1, h, h3⟩
      · obtain rfl : q = j := by omega
        rw [hx] at h3; exact .inr ⟨h1, Option.some.inj h3⟩
    · rintro (⟨q, h1, h2, h3⟩ | ⟨h1, h2⟩)
      · exact ⟨q, h1, by omega, h3⟩
      · exact ⟨j, h1, by omega, by rw [hx, h2]⟩
  have hq2 : (∃ q : Nat, b = (q : Int) ∧ q < j + 1 ∧ d.pl[q]? = some (-2 - a)) ↔ (∃ q : Nat, b = (q : Int) ∧ q < j ∧ d.pl[q]? = some (-2 - a)) ∨ (b = (j : Int) ∧ x = -2 - a) := by
    constructor
    · rintro ⟨q, h1, h2, h3⟩
      by_cases h : q < j
      · exact .inl ⟨q, h1, h, h3⟩
      · obtain rfl : q = j := by omega
        rw [hx] at h3; exact .inr ⟨h1, Option.some.inj h3⟩
    · rintro (⟨q, h1, h2, h3⟩ | ⟨h1, h2⟩)
      · exact ⟨q, h1, by omega, h3⟩
      · exact ⟨j, h1, by omega, by rw [hx, h2]⟩
  simp only [stF, hm, hq1, hq2, Ft.mk.injEq]
  generalize (∃ q : Nat, a = (q : Int) ∧ q < j ∧ d.pl[q]? = some b) = P1
  generalize (∃ q : Nat, b = (q : Int) ∧ q < j ∧ d.pl[q]? = some (-2 - a)) = P2
  generalize (∃ q : Nat, a = (q : Int) ∧ q < m ∧ d.sp[q]? = some b) = P3
  generalize (∃ q : Nat, a = (q : Int) ∧ q < j ∧ d.se[q]? = some true) = P4
  generalize (a ∈ d.pl.take j) = M1
  generalize (-2 - a ∈ d.pl.take j) = M2
  clear hq1 hq2 hm hx hu
  split
  · grind (splits := 60)
  · split
    · grind (splits := 60)
    · grind (splits := 60)
theorem st_seen (d : Wd) (n m j : Nat) (x : Bool) (hx : d.se[j]? = some x) (f : Ft) : stF d n m (j + 1) (j + 1) f ↔ stF d n m (j + 1) j f ∨ (x = true ∧ f = ⟨5, (j : Int), 0⟩) := by
  obtain ⟨k, a, b⟩ := f
  have hq1 : (∃ q : Nat, a = (q : Int) ∧ q < j + 1 ∧ d.se[q]? = some true) ↔ (∃ q : Nat, a = (q : Int) ∧ q < j ∧ d.se[q]? = some true) ∨ (a = (j : Int) ∧ x = true) := by
    constructor
    · rintro ⟨q, h1, h2, h3⟩
      by_cases h : q < j
      · exact .inl ⟨q, h1, h, h3⟩
      · obtain rfl : q = j := by omega
        rw [hx] at h3; exact .inr ⟨h1, Option.some.inj h3⟩
    · rintro (⟨q, h1, h2, h3⟩ | ⟨h1, h2⟩)
      · exact ⟨q, h1, by omega, h3⟩
      · exact ⟨j, h1, by omega, by rw [hx, h2]⟩
  simp only [stF, hq1, Ft.mk.injEq]
  generalize (∃ q : Nat, a = (q : Int) ∧ q < j ∧ d.se[q]? = some true) = P4
  generalize (∃ q : Nat, a = (q : Int) ∧ q < j + 1 ∧ d.pl[q]? = some b) = P1
  generalize (∃ q : Nat, b = (q : Int) ∧ q < j + 1 ∧ d.pl[q]? = some (-2 - a)) = P2
  generalize (∃ q : Nat, a = (q : Int) ∧ q < m ∧ d.sp[q]? = some b) = P3
  generalize (a ∈ d.pl.take (j + 1)) = M1
  generalize (-2 - a ∈ d.pl.take (j + 1)) = M2
  clear hq1 hx
  grind (splits := 60)
/-- all facts of a world -/
def inS (d : Wd) (f : Ft) : Prop := stF d d.sl.toNat d.sp.length d.pl.length d.pl.length f
/-- the set in block b holds the facts of d -/
def StAt (d : Wd) (b : Nat) (w : World) : Prop := ∃ s, SetN valF w b s ∧ s.Nodup ∧ ∀ f, f ∈ s ↔ inS d f
end Go.Proofs.Ytnaiflokmihmeaa
