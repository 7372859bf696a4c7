/- What a step changes in the facts of a world: plain law. -/
import Derived.Test.YtnaiflokmihmeaaActL
namespace Go.Proofs.Ytnaiflokmihmeaa
open Go.RowKit
set_option linter.unusedVariables false
set_option linter.unusedSimpArgs false

/-- place a of the list holds b -/
def AtI (l : List Int) (a b : Int) : Prop := ∃ q : Nat, a = (q : Int) ∧ l[q]? = some b
def AtB (l : List Bool) (a : Int) : Prop := ∃ q : Nat, a = (q : Int) ∧ l[q]? = some true
theorem AtI.fn {l : List Int} {a b c : Int} (h : AtI l a b) (h2 : AtI l a c) : b = c := by
  obtain ⟨q, h1, h3⟩ := h
  obtain ⟨q', h4, h5⟩ := h2
  have : q = q' := by omega
  subst this
  rw [h3] at h5
  exact Option.some.inj h5
theorem atI_set {l : List Int} {k : Nat} {v a b : Int} (hk : k < l.length) : AtI (l.set k v) a b ↔ (a = (k : Int) ∧ b = v) ∨ (a ≠ (k : Int) ∧ AtI l a b) := by
  unfold AtI
  constructor
  · rintro ⟨q, h1, h2⟩
    rw [List.getElem?_set] at h2
    by_cases h : k = q
    · subst h; rw [if_pos rfl, if_pos hk] at h2; exact .inl ⟨h1, (Option.some.inj h2).symm⟩
    · rw [if_neg h] at h2; exact .inr ⟨by omega, q, h1, h2⟩
  · rintro (⟨h1, h2⟩ | ⟨h1, q, h2, h3⟩)
    · exact ⟨k, h1, by rw [List.getElem?_set, if_pos rfl, if_pos hk, h2]⟩
    · exact ⟨q, h2, by rw [List.getElem?_set, if_neg (by omega)]; exact h3⟩
theorem atB_set {l : List Bool} {k : Nat} {v : Bool} {a : Int} (hk : k < l.length) : AtB (l.set k v) a ↔ (a = (k : Int) ∧ v = true) ∨ (a ≠ (k : Int) ∧ AtB l a) := by
  unfold AtB
  constructor
  · rintro ⟨q, h1, h2⟩
    rw [List.getElem?_set] at h2
    by_cases h : k = q
    · subst h; rw [if_pos rfl, if_pos hk] at h2; exact .inl ⟨h1, Option.some.inj h2⟩
    · rw [if_neg h] at h2; exact .inr ⟨by omega, q, h1, h2⟩
  · rintro (⟨h1, h2⟩ | ⟨h1, q, h2, h3⟩)
    · exact ⟨k, h1, by rw [List.getElem?_set, if_pos rfl, if_pos hk, h2]⟩
    · exact ⟨q, h2, by rw [List.getElem?_set, if_neg (by omega)]; exact h3⟩
theorem mem_atI {l : List Int} {y : Int} : y ∈ l ↔ ∃ i, AtI l i y := by
  constructor
  · intro h
    obtain ⟨q, hq⟩ := List.mem_iff_getElem?.1 h
    exact ⟨q, q, rfl, hq⟩
  · rintro ⟨i, q, h1, h2⟩
    exact List.mem_of_getElem? h2
theorem inS_iff {d : Wd} (hse : d.se.length = d.pl.length) (h0 : 0 ≤ d.sl) (f : Ft) : inS d f ↔
    (f.k = 4 ∧ f.b = 0 ∧ 0 ≤ f.a ∧ f.a < d.sl ∧ f.a ∉ d.pl) ∨ (f.k = 3 ∧ f.b = 0 ∧ 0 ≤ f.a ∧ f.a < (d.sp.length : Int) ∧ (-2 - f.a) ∉ d.pl) ∨ (f.k = 6 ∧ 0 ≤ f.b ∧ AtI d.sp f.a f.b) ∨
    (f.k = 1 ∧ 0 ≤ f.b ∧ AtI d.pl f.a f.b) ∨ (f.k = 2 ∧ 0 ≤ f.a ∧ AtI d.pl f.b (-2 - f.a)) ∨ (f.k = 5 ∧ f.b = 0 ∧ AtB d.se f.a) := by
  obtain ⟨k, a, b⟩ := f
  dsimp only
  constructor
  · rintro (⟨rfl, rfl, h⟩ | ⟨rfl, rfl, h⟩ | ⟨rfl, h⟩ | ⟨rfl, h⟩ | ⟨rfl, h⟩ | ⟨rfl, rfl, h⟩)
    · have := (inS_empty (d := d) (a := a) h0).1 (.inl ⟨rfl, rfl, h⟩)
      exact .inl ⟨rfl, rfl, this⟩
    · have := (inS_free (d := d) (a := a)).1 (.inr (.inl ⟨rfl, rfl, h⟩))
      exact .inr (.inl ⟨rfl, rfl, this⟩)
    · have := (inS_at (d := d) (a := a) (b := b)).1 (.inr (.inr (.inl ⟨rfl, h⟩)))
      exact .inr (.inr (.inl ⟨rfl, this⟩))
    · have := (inS_in (d := d) (a := a) (b := b)).1 (.inr (.inr (.inr (.inl ⟨rfl, h⟩))))
      exact .inr (.inr (.inr (.inl ⟨rfl, this⟩)))
    · have := (inS_holds (d := d) (a := a) (b := b)).1 (.inr (.inr (.inr (.inr (.inl ⟨rfl, h⟩)))))
      exact .inr (.inr (.inr (.inr (.inl ⟨rfl, this⟩))))
    · have := (inS_seen (d := d) (a := a) hse).1 (.inr (.inr (.inr (.inr (.inr ⟨rfl, rfl, h⟩)))))
      exact .inr (.inr (.inr (.inr (.inr ⟨rfl, rfl, this⟩))))
  · rintro (⟨rfl, rfl, h⟩ | ⟨rfl, rfl, h⟩ | ⟨rfl, h⟩ | ⟨rfl, h⟩ | ⟨rfl, h⟩ | ⟨rfl, rfl, h⟩)
    · exact (inS_empty h0).2 h
    · exact inS_free.2 h
    · exact inS_at.2 h
    · exact inS_in.2 h
    · exact inS_holds.2 h
    · exact (inS_seen hse).2 h

theorem chg_go {d : Wd} (hv : Vd d) {ka : Nat} {spot : Int} (hk : ka < d.sp.length) (h0 : 0 ≤ spot) (f : Ft) :
    inS { d with sp := d.sp.set ka spot } f ↔ (inS d f ∧ ¬ (f.k = 6 ∧ f.a = (ka : Int) ∧ f.b < 14)) ∨ f = ⟨6, (ka : Int), spot⟩ := by
  have hlt : ∀ a b, AtI d.sp a b → b < 14 := fun a b ⟨q, _, h⟩ => by have := hv.slo q b h; have := hv.p6; omega
  rw [inS_iff (d := { d with sp := d.sp.set ka spot }) hv.se hv.sl0, inS_iff hv.se hv.sl0]
  obtain ⟨k, a, b⟩ := f
  simp only [List.length_set, atI_set hk, Ft.mk.injEq]
  have := hlt a b
  generalize AtI d.sp a b = P1 at *
  generalize AtI d.pl a b = P2
  generalize AtI d.pl b (-2 - a) = P3
  generalize AtB d.se a = P4
  generalize (a ∈ d.pl) = M1
  generalize (-2 - a ∈ d.pl) = M2
  clear hlt
  grind (splits := 60)
theorem chg_look {d : Wd} (hv : Vd d) {kp : Nat} (hk : kp < d.pl.length) (f : Ft) : inS { d with se := d.se.set kp true } f ↔ inS d f ∨ f = ⟨5, (kp : Int), 0⟩ := by
  rw [inS_iff (d := { d with se := d.se.set kp true }) (by simpa using hv.se) hv.sl0, inS_iff hv.se hv.sl0]
  obtain ⟨k, a, b⟩ := f
  simp only [atB_set (show kp < d.se.length by rw [hv.se]; exact hk), Ft.mk.injEq]
  generalize AtI d.sp a b = P1 at *
  generalize AtI d.pl a b = P2
  generalize AtI d.pl b (-2 - a) = P3
  generalize AtB d.se a = P4
  generalize (a ∈ d.pl) = M1
  generalize (-2 - a ∈ d.pl) = M2
  grind (splits := 60)
/-- which numbers stand in the list after one place is set -/
theorem mem_setI {l : List Int} {k : Nat} {v x y : Int} (hx : l[k]? = some x) (hu : ∀ i j : Int, AtI l i y → AtI l j y → i = j) : y ∈ l.set k v ↔ y = v ∨ (y ∈ l ∧ y ≠ x) := by
  have hk := (List.getElem?_eq_some_iff.1 hx).1
  have hkx : AtI l (k : Int) x := ⟨k, rfl, hx⟩
  rw [mem_atI, mem_atI]
  constructor
  · rintro ⟨i, hi⟩
    rcases (atI_set hk).1 hi with ⟨h1, h2⟩ | ⟨h1, h2⟩
    · exact .inl h2
    · exact .inr ⟨⟨i, h2⟩, fun e => h1 (hu i k h2 (e ▸ hkx))⟩
  · rintro (h | ⟨⟨i, h⟩, h2⟩)
    · exact ⟨k, (atI_set hk).2 (.inl ⟨rfl, h⟩)⟩
    · refine ⟨i, (atI_set hk).2 (.inr ⟨fun e => ?_, h⟩)⟩
      subst e
      exact h2 (h.fn hkx)
theorem Vd.un {d : Wd} (hv : Vd d) {y : Int} (hy : y ≠ -1) : ∀ i j : Int, AtI d.pl i y → AtI d.pl j y → i = j := by
  rintro i j ⟨q, h1, h2⟩ ⟨q', h3, h4⟩
  have := hv.pun q q' y h2 h4 hy
  omega
set_option maxHeartbeats 4000000 in
theorem chg_take {d : Wd} (hv : Vd d) {ka kp : Nat} {x : Int} (hk : ka < d.sp.length) (hx : d.pl[kp]? = some x) (hx1 : -1 ≤ x) (hn : (-2 - (ka : Int)) ∉ d.pl) (f : Ft) :
    inS { d with pl := d.pl.set kp (-2 - (ka : Int)) } f ↔ (if 0 ≤ x then ((inS d f ∧ f ≠ ⟨3, (ka : Int), 0⟩) ∧ f ≠ ⟨1, (kp : Int), x⟩) ∨ f = ⟨4, x, 0⟩ else inS d f ∧ f ≠ ⟨3, (ka : Int), 0⟩) ∨ f = ⟨2, (ka : Int), (kp : Int)⟩ := by
  have hkp := (List.getElem?_eq_some_iff.1 hx).1
  have hkx : AtI d.pl (kp : Int) x := ⟨kp, rfl, hx⟩
  have hsl := (hv.plo kp x hx).1
  rw [inS_iff (d := { d with pl := d.pl.set kp (-2 - (ka : Int)) }) (by simpa using hv.se) hv.sl0, inS_iff hv.se hv.sl0]
  obtain ⟨k, a, b⟩ := f
  have hf1 : AtI d.pl (kp : Int) b → b = x := fun h => h.fn hkx
  have hf2 : AtI d.pl (kp : Int) (-2 - a) → -2 - a = x := fun h => h.fn hkx
  have hM1 : 0 ≤ a → (a ∈ d.pl.set kp (-2 - (ka : Int)) ↔ a = -2 - (ka : Int) ∨ (a ∈ d.pl ∧ a ≠ x)) := fun h => mem_setI hx (hv.un (by omega))
  have hM2 : 0 ≤ a → (-2 - a ∈ d.pl.set kp (-2 - (ka : Int)) ↔ -2 - a = -2 - (ka : Int) ∨ (-2 - a ∈ d.pl ∧ -2 - a ≠ x)) := fun h => mem_setI hx (hv.un (by omega))
  have hxm : x ∈ d.pl := List.mem_of_getElem? hx
  have hh : ∀ i, AtI d.pl i (-2 - (ka : Int)) → False := fun i h => hn (mem_atI.2 ⟨i, h⟩)
  simp only [atI_set hkp, Ft.mk.injEq]
  by_cases hak : a = (ka : Int)
  · subst hak
    have h1 := hh b
    clear hh
    by_cases hbk : b = (kp : Int) <;> by_cases hkk : ((ka : Int)) = (kp : Int) <;> by_cases hx0 : 0 ≤ x <;> simp only [hx0, if_true, if_false] <;> grind (splits := 80)
  · clear hh
    by_cases hbk : b = (kp : Int) <;> by_cases hkk : a = (kp : Int) <;> by_cases hx0 : 0 ≤ x <;> simp only [hx0, if_true, if_false] <;> grind (splits := 80)
set_option maxHeartbeats 4000000 in
theorem chg_put {d : Wd} (hv : Vd d) {ka kh ks : Nat} (hk : ka < d.sp.length) (hx : d.pl[kh]? = some (-2 - (ka : Int))) (hs : (ks : Int) < d.sl) (hn : (ks : Int) ∉ d.pl) (f : Ft) :
    inS { d with pl := d.pl.set kh (ks : Int), se := d.se.set kh false } f ↔ ((((inS d f ∧ f ≠ ⟨2, (ka : Int), (kh : Int)⟩) ∧ f ≠ ⟨5, (kh : Int), 0⟩) ∨ f = ⟨1, (kh : Int), (ks : Int)⟩) ∧ f ≠ ⟨4, (ks : Int), 0⟩) ∨ f = ⟨3, (ka : Int), 0⟩ := by
  have hkp := (List.getElem?_eq_some_iff.1 hx).1
  have hks : kh < d.se.length := by rw [hv.se]; exact hkp
  have hkx : AtI d.pl (kh : Int) (-2 - (ka : Int)) := ⟨kh, rfl, hx⟩
  rw [inS_iff (d := { d with pl := d.pl.set kh (ks : Int), se := d.se.set kh false }) (by simpa using hv.se) hv.sl0, inS_iff hv.se hv.sl0]
  obtain ⟨k, a, b⟩ := f
  have hf1 : AtI d.pl (kh : Int) b → b = -2 - (ka : Int) := fun h => h.fn hkx
  have hf2 : AtI d.pl (kh : Int) (-2 - a) → -2 - a = -2 - (ka : Int) := fun h => h.fn hkx
  have hM1 : 0 ≤ a → (a ∈ d.pl.set kh (ks : Int) ↔ a = (ks : Int) ∨ (a ∈ d.pl ∧ a ≠ -2 - (ka : Int))) := fun h => mem_setI hx (hv.un (by omega))
  have hM2 : 0 ≤ a → (-2 - a ∈ d.pl.set kh (ks : Int) ↔ -2 - a = (ks : Int) ∨ (-2 - a ∈ d.pl ∧ -2 - a ≠ -2 - (ka : Int))) := fun h => mem_setI hx (hv.un (by omega))
  have hxm : (-2 - (ka : Int)) ∈ d.pl := List.mem_of_getElem? hx
  have hu : AtI d.pl b (-2 - (ka : Int)) → b = (kh : Int) := fun h => hv.un (by omega) _ _ h hkx
  simp only [atI_set hkp, atB_set hks, Ft.mk.injEq]
  by_cases hak : a = (ka : Int)
  · subst hak
    by_cases hbk : b = (kh : Int) <;> by_cases hkk : ((ka : Int)) = (kh : Int) <;> grind (splits := 80)
  · by_cases hbk : b = (kh : Int) <;> by_cases hkk : a = (kh : Int) <;> grind (splits := 80)
end Go.Proofs.Ytnaiflokmihmeaa
