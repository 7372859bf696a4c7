/- Plain laws: the things of a step. -/
import Derived.Test.YtnaiflokmihmeaaActRuns
import Derived.Test.YtnaiflokmihmeaaActS
import Derived.Test.YtnaiflokmihmeaaMgO
import Derived.Test.YtnaiflokmihmeaaMgC
import Derived.Lib.SlicesCompact
namespace Go.Proofs.Ytnaiflokmihmeaa
open Go.RowKit
set_option linter.unusedVariables false
set_option linter.unusedSimpArgs false

/-! ### ascending lists -/
abbrev AscI (l : List Int) : Prop := l.Pairwise (· < ·)
theorem ascI_ext {l m : List Int} (h1 : AscI l) (h2 : AscI m) (h : ∀ x, x ∈ l ↔ x ∈ m) : l = m := by
  have n1 : l.Nodup := h1.imp (fun h => Int.ne_of_lt h)
  have n2 : m.Nodup := h2.imp (fun h => Int.ne_of_lt h)
  have hp : l.Perm m := (List.perm_ext_iff_of_nodup n1 n2).2 h
  exact hp.eq_of_pairwise (fun a b _ _ hab hba => absurd hab (by omega)) h1 h2
theorem sorted_ascI {l : List Int} (hn : l.Nodup) : AscI (l.mergeSort fun x y => decide (x ≤ y)) := by
  have h1 := List.pairwise_mergeSort (le := fun x y : Int => decide (x ≤ y)) (fun a b c h1 h2 => by simp at *; omega) (fun a b => by simp; omega) l
  have h2 : (l.mergeSort fun x y => decide (x ≤ y)).Nodup := (List.mergeSort_perm l _).nodup_iff.2 hn
  exact h1.imp₂ (fun a b h3 h4 => by simp at h3; omega) h2
theorem sorted_leI (l : List Int) : (l.mergeSort fun x y => decide (x ≤ y)).Pairwise (· ≤ ·) := by
  have h1 := List.pairwise_mergeSort (le := fun x y : Int => decide (x ≤ y)) (fun a b c h1 h2 => by simp at *; omega) (fun a b => by simp; omega) l
  exact h1.imp (fun h => by simpa using h)
theorem compact_asc {zs : List Int} (h : zs.Pairwise (· ≤ ·)) : AscI (Go.Lib.compact zs) ∧ ∀ x, x ∈ Go.Lib.compact zs ↔ x ∈ zs := by
  have key : ∀ m, m ≤ zs.length → AscI (Go.Lib.compactUpTo zs.toArray m) ∧ (∀ x, x ∈ Go.Lib.compactUpTo zs.toArray m ↔ x ∈ zs.take m) := by
    intro m
    induction m with
    | zero => intro _; exact ⟨by simp [Go.Lib.compactUpTo], fun x => by simp [Go.Lib.compactUpTo]⟩
    | succ m ih =>
      intro hm
      obtain ⟨i1, i2⟩ := ih (by omega)
      have hlt : m < zs.length := by omega
      have he : zs.toArray[m]! = zs[m] := by rw [getElem!_pos zs.toArray m (by simpa using hlt)]; simp
      have htk : zs.take (m + 1) = zs.take m ++ [zs[m]] := by rw [List.take_add_one, List.getElem?_eq_getElem hlt]; rfl
      have hle : ∀ y ∈ zs.take m, y ≤ zs[m] := fun y hy => by
        have h3 : (zs.take (m + 1)).Pairwise (· ≤ ·) := h.sublist (List.take_sublist _ _)
        rw [htk, List.pairwise_append] at h3
        exact h3.2.2 y hy _ (List.mem_singleton.2 rfl)
      rw [Go.Lib.compactUpTo_succ, he, htk]
      by_cases hk : Go.Lib.keeps zs.toArray m = true
      · rw [if_pos hk]
        have hne : ∀ y ∈ zs.take m, y ≠ zs[m] := by
          intro y hy hyz
          simp only [Go.Lib.keeps, decide_eq_true_eq] at hk
          rcases hk with hk | hk
          · subst hk; simp at hy
          · have hm1 : m - 1 < zs.length := by omega
            have hm0 : 0 < m := by
              rcases Nat.eq_zero_or_pos m with h0 | h0
              · subst h0; simp at hy
              · exact h0
            rw [he, getElem!_pos zs.toArray (m-1) (by simpa using hm1)] at hk
            simp at hk
            obtain ⟨i, hi⟩ := List.mem_iff_getElem?.1 hy
            rw [List.getElem?_take] at hi
            split at hi
            · rename_i him
              have hil : i < zs.length := by omega
              rw [List.getElem?_eq_getElem hil] at hi
              have hi' : zs[i] = y := Option.some.inj hi
              have hpw := List.pairwise_iff_getElem.1 h
              have a1 : zs[i] ≤ zs[m-1] := by
                rcases Nat.lt_or_ge i (m-1) with h5 | h5
                · exact hpw i (m-1) hil hm1 h5
                · have : i = m - 1 := by omega
                  subst this; exact Int.le_refl _
              have a2 : zs[m-1] ≤ zs[m] := hpw (m-1) m hm1 hlt (by omega)
              omega
            · cases hi
        refine ⟨List.pairwise_append.2 ⟨i1, by simp, fun a ha b hb => ?_⟩, fun x => by rw [List.mem_append, List.mem_append, i2]⟩
        rw [List.mem_singleton] at hb
        subst hb
        have h6 := (i2 a).1 ha
        have h7 := hle a h6
        have h8 := hne a h6
        omega
      · rw [if_neg hk]
        have hk2 : Go.Lib.keeps zs.toArray m = false := by simpa using hk
        simp only [Go.Lib.keeps, decide_eq_false_iff_not, not_or, Decidable.not_not] at hk2
        obtain ⟨hm0, hk2⟩ := hk2
        have hm1 : m - 1 < zs.length := by omega
        rw [he, getElem!_pos zs.toArray (m-1) (by simpa using hm1)] at hk2
        simp at hk2
        refine ⟨by simpa using i1, fun x => ?_⟩
        rw [List.append_nil, i2, List.mem_append, List.mem_singleton]
        refine ⟨.inl, fun h9 => h9.elim id fun h9 => ?_⟩
        rw [h9, hk2]
        refine List.mem_iff_getElem?.2 ⟨m - 1, ?_⟩
        rw [List.getElem?_take, if_pos (by omega), List.getElem?_eq_getElem hm1]
  obtain ⟨k1, k2⟩ := key zs.length (Nat.le_refl _)
  refine ⟨k1, fun x => ?_⟩
  have := k2 x
  rwa [List.take_length] at this
/-! ### the things of a step -/
def spL (x : Int) : List Int := if x = -1 then [] else [20 + x]
def toA (d : Wd) (s : Stp) : List Int := [s.a] ++ (if 0 ≤ s.p then [10 + s.p] ++ spL (whr d s.p) else [])
def toB (d : Wd) (s : Stp) : List Int := toA d s ++ (if 0 ≤ s.s then spL s.s else [])
def toC (d : Wd) (s : Stp) : List Int := toB d s ++ (if s.k = 0 then spL (nthI d.sp s.a.toNat) else [])
def toL (d : Wd) (s : Stp) : List Int := toC d s ++ (if s.k = 2 then [10 + hold d s.a] else [])
/-- the same, in ascending order -/
def cL (d : Wd) (s : Stp) : List Int := (((List.range 64).map fun (n : Nat) => (n : Int)).filter fun c => decide (c ∈ toL d s))
theorem cL_asc (d : Wd) (s : Stp) : AscI (cL d s) := by
  unfold cL AscI
  refine List.Pairwise.filter _ ?_
  rw [List.pairwise_map]
  exact List.pairwise_lt_range.imp (fun h => by omega)
theorem spL_mem {x c : Int} : c ∈ spL x ↔ x ≠ -1 ∧ c = 20 + x := by
  unfold spL
  split <;> simp [*]
theorem toL_mem {d : Wd} {s : Stp} {c : Int} : c ∈ toL d s ↔ c = s.a ∨ (0 ≤ s.p ∧ (c = 10 + s.p ∨ (whr d s.p ≠ -1 ∧ c = 20 + whr d s.p))) ∨ (0 ≤ s.s ∧ c = 20 + s.s) ∨ (s.k = 0 ∧ nthI d.sp s.a.toNat ≠ -1 ∧ c = 20 + nthI d.sp s.a.toNat) ∨ (s.k = 2 ∧ c = 10 + hold d s.a) := by
  unfold toL toC toB toA
  by_cases h1 : 0 ≤ s.p <;> by_cases h2 : 0 ≤ s.s <;> by_cases h3 : s.k = 0 <;> by_cases h4 : s.k = 2 <;> simp only [h1, h2, h3, h4, if_true, if_false, List.mem_append, List.mem_singleton, spL_mem, List.not_mem_nil] <;> grind
/-- what is known of a step that can be done -/
structure Okd (d : Wd) (s : Stp) : Prop where
  v : Vd d
  a0 : 0 ≤ s.a
  a1 : s.a < (d.sp.length : Int)
  p1 : s.p < (d.pl.length : Int)
  s1 : s.s < d.sl
  h : s.k = 2 → 0 ≤ hold d s.a ∧ d.pl[(hold d s.a).toNat]? = some (-2 - s.a)
theorem Okd.spot {d : Wd} {s : Stp} (h : Okd d s) : d.sp[s.a.toNat]? = some (nthI d.sp s.a.toNat) := by
  have h0 := h.a0
  have h1 := h.a1
  have hl : s.a.toNat < d.sp.length := by omega
  rw [List.getElem?_eq_getElem hl, nthI_get (List.getElem?_eq_getElem hl)]
theorem Okd.place {d : Wd} {s : Stp} (h : Okd d s) (hp : 0 ≤ s.p) : d.pl[s.p.toNat]? = some (nthI d.pl s.p.toNat) := by
  have h1 := h.p1
  have hl : s.p.toNat < d.pl.length := by omega
  rw [List.getElem?_eq_getElem hl, nthI_get (List.getElem?_eq_getElem hl)]
theorem Okd.hlt {d : Wd} {s : Stp} (h : Okd d s) (hk : s.k = 2) : hold d s.a < (d.pl.length : Int) := by
  obtain ⟨h1, h2⟩ := h.h hk
  have := (List.getElem?_eq_some_iff.1 h2).1
  omega
theorem toL_lo {d : Wd} {s : Stp} (h : Okd d s) {c : Int} (hc : c ∈ toL d s) : 0 ≤ c ∧ c < 64 := by
  have v := h.v
  have v1 := v.sl8; have v2 := v.p6; have v3 := v.s4; have v4 := v.sl0
  have a0 := h.a0; have a1 := h.a1; have p1 := h.p1; have s1 := h.s1
  have w1 := v.slo _ _ h.spot
  rcases toL_mem.1 hc with rfl | ⟨hp, rfl | ⟨hw, rfl⟩⟩ | ⟨hs, rfl⟩ | ⟨hk, hn, rfl⟩ | ⟨hk, rfl⟩
  · omega
  · omega
  · have w2 := v.plo _ _ (h.place hp)
    unfold whr at hw ⊢
    rw [if_neg (by omega)] at hw ⊢
    split at hw
    · exact absurd rfl hw
    · rename_i h5
      rw [if_neg h5]
      split <;> omega
  · omega
  · omega
  · have w3 := h.hlt hk
    have w4 := (h.h hk).1
    omega
theorem cL_mem {d : Wd} {s : Stp} (h : Okd d s) {c : Int} : c ∈ cL d s ↔ c ∈ toL d s := by
  unfold cL
  rw [List.mem_filter]
  simp only [decide_eq_true_eq]
  refine ⟨fun h1 => h1.2, fun h1 => ⟨?_, h1⟩⟩
  obtain ⟨h2, h3⟩ := toL_lo h h1
  exact List.mem_map.2 ⟨c.toNat, List.mem_range.2 (by omega), by omega⟩
theorem cL_len (d : Wd) (s : Stp) : (cL d s).length ≤ 64 := by
  unfold cL
  refine Nat.le_trans (List.length_filter_le _ _) ?_
  simp
theorem touch_eq {d : Wd} {s : Stp} (h : Okd d s) : Go.Lib.compact ((toL d s).mergeSort fun x y => decide (x ≤ y)) = cL d s := by
  obtain ⟨h1, h2⟩ := compact_asc (sorted_leI (toL d s))
  refine ascI_ext h1 (cL_asc d s) fun x => ?_
  rw [h2, List.mem_mergeSort, cL_mem h]
theorem toL_len (d : Wd) (s : Stp) : (toL d s).length ≤ 6 := by
  unfold toL toC toB toA spL
  by_cases h1 : 0 ≤ s.p <;> by_cases h2 : 0 ≤ s.s <;> by_cases h3 : s.k = 0 <;> by_cases h4 : s.k = 2 <;> by_cases h5 : whr d s.p = -1 <;> by_cases h6 : s.s = -1 <;> by_cases h7 : nthI d.sp s.a.toNat = -1 <;> simp [*] <;> omega
/-! ### the reference: pairs -/
def kyA (d : Wd) (s : Stp) (n : Nat) (q : Int × Int) : Prop := q = (0, s.a) ∨ ∃ (i : Nat) (x : Int), i < n ∧ (i : Int) = s.a ∧ s.k = 0 ∧ d.sp[i]? = some x ∧ 0 ≤ x ∧ q = (2, x)
def kyB (d : Wd) (s : Stp) (na n : Nat) (q : Int × Int) : Prop := kyA d s na q ∨ ∃ (i : Nat) (x : Int), i < n ∧ d.pl[i]? = some x ∧ (((i : Int) = s.p ∧ (q = (1, (i : Int)) ∨ (x = -1 ∧ q = (2, 8 + (i : Int))) ∨ (0 ≤ x ∧ q = (2, x)))) ∨ (s.k = 2 ∧ x = -2 - s.a ∧ q = (1, (i : Int))))
def kyC (d : Wd) (s : Stp) (q : Int × Int) : Prop := kyB d s d.sp.length d.pl.length q ∨ (0 ≤ s.s ∧ q = (2, s.s))
def cdI (q : Int × Int) : Int := (if q.1 = 0 then 0 else if q.1 = 1 then 10 else 20) + q.2
theorem kyC_mem {d : Wd} {s : Stp} (h : Okd d s) {c : Int} : (∃ q, kyC d s q ∧ cdI q = c) ↔ c ∈ toL d s := by
  have v := h.v
  have a0 := h.a0; have a1 := h.a1; have p1 := h.p1
  have hsp := h.spot
  rw [toL_mem]
  constructor
  · rintro ⟨q, ((rfl | ⟨i, x, h1, h2, h3, h4, h5, rfl⟩) | ⟨i, x, h1, h4, ⟨h2, rfl | ⟨h5, rfl⟩ | ⟨h5, rfl⟩⟩ | ⟨h2, h5, rfl⟩⟩) | ⟨h1, rfl⟩, rfl⟩
    · left; simp [cdI]
    · have : i = s.a.toNat := by omega
      subst this
      rw [hsp] at h4
      have h6 := Option.some.inj h4
      right; right; right; left
      simp only [cdI]
      refine ⟨h3, by omega, by simp; omega⟩
    · right; left
      refine ⟨by omega, .inl (by simp [cdI]; omega)⟩
    · right; left
      refine ⟨by omega, .inr ?_⟩
      have hi : i = s.p.toNat := by omega
      subst hi
      rw [h.place (by omega)] at h4
      have h6 := Option.some.inj h4
      unfold whr
      rw [if_neg (by omega), if_neg (by omega), if_pos (by omega)]
      refine ⟨by omega, by simp [cdI]; omega⟩
    · right; left
      refine ⟨by omega, .inr ?_⟩
      have hi : i = s.p.toNat := by omega
      subst hi
      rw [h.place (by omega)] at h4
      have h6 := Option.some.inj h4
      unfold whr
      rw [if_neg (by omega), if_neg (by omega), if_neg (by omega)]
      refine ⟨by omega, by simp [cdI]; omega⟩
    · right; right; right; right
      obtain ⟨g1, g2⟩ := h.h h2
      have := v.pun _ _ _ h4 (by rw [h5]; exact g2) (by omega)
      refine ⟨h2, by simp [cdI]; omega⟩
    · right; right; left
      refine ⟨h1, by simp [cdI]⟩
  · rintro (rfl | ⟨hp, rfl | ⟨hw, rfl⟩⟩ | ⟨hs, rfl⟩ | ⟨hk, hn, rfl⟩ | ⟨hk, rfl⟩)
    · exact ⟨(0, s.a), .inl (.inl (.inl rfl)), by simp [cdI]⟩
    · exact ⟨(1, s.p), .inl (.inr ⟨s.p.toNat, _, by omega, h.place hp, .inl ⟨by omega, .inl (by simp; omega)⟩⟩), by simp [cdI]⟩
    · unfold whr at hw ⊢
      rw [if_neg (by omega)] at hw ⊢
      split at hw
      · exact absurd rfl hw
      · rename_i h5
        rw [if_neg h5]
        split at hw
        · rename_i h6
          rw [if_pos h6]
          exact ⟨(2, 8 + s.p), .inl (.inr ⟨s.p.toNat, _, by omega, h.place hp, .inl ⟨by omega, .inr (.inl ⟨h6, by simp; omega⟩)⟩⟩), by simp [cdI]⟩
        · rename_i h6
          rw [if_neg h6]
          exact ⟨(2, nthI d.pl s.p.toNat), .inl (.inr ⟨s.p.toNat, _, by omega, h.place hp, .inl ⟨by omega, .inr (.inr ⟨by omega, rfl⟩)⟩⟩), by simp [cdI]⟩
    · exact ⟨(2, s.s), .inr ⟨hs, rfl⟩, by simp [cdI]⟩
    · have := v.slo _ _ hsp
      exact ⟨(2, nthI d.sp s.a.toNat), .inl (.inl (.inr ⟨s.a.toNat, _, by omega, by omega, hk, hsp, by omega, rfl⟩)), by simp [cdI]⟩
    · obtain ⟨g1, g2⟩ := h.h hk
      have := h.hlt hk
      exact ⟨(1, hold d s.a), .inl (.inr ⟨(hold d s.a).toNat, _, by omega, g2, .inr ⟨hk, rfl, by simp; omega⟩⟩), by simp [cdI]⟩
theorem kyC_rng {d : Wd} {s : Stp} (h : Okd d s) {q : Int × Int} (hq : kyC d s q) : (q.1 = 0 ∧ 0 ≤ q.2 ∧ q.2 < 4) ∨ (q.1 = 1 ∧ 0 ≤ q.2 ∧ q.2 < 6) ∨ (q.1 = 2 ∧ 0 ≤ q.2 ∧ q.2 < 14) := by
  have v := h.v
  have v1 := v.sl8; have v2 := v.p6; have v3 := v.s4; have v4 := v.sl0
  have a0 := h.a0; have a1 := h.a1; have p1 := h.p1; have s1 := h.s1
  rcases hq with ((rfl | ⟨i, x, h1, h2, h3, h4, h5, rfl⟩) | ⟨i, x, h1, h4, ⟨h2, rfl | ⟨h5, rfl⟩ | ⟨h5, rfl⟩⟩ | ⟨h2, h5, rfl⟩⟩) | ⟨h1, rfl⟩
  · left; simp; omega
  · have := v.slo _ _ h4; right; right; simp; omega
  · right; left; simp; omega
  · right; right; simp; omega
  · have := v.plo _ _ h4; right; right; simp; omega
  · right; left; simp; omega
  · right; right; simp; omega
theorem cdI_inj {d : Wd} {s : Stp} (h : Okd d s) {q r : Int × Int} (hq : kyC d s q) (hr : kyC d s r) (e : cdI q = cdI r) : q = r := by
  obtain ⟨q1, q2⟩ := q
  obtain ⟨r1, r2⟩ := r
  have := kyC_rng h hq
  have := kyC_rng h hr
  unfold cdI at e
  simp only [Prod.mk.injEq]
  dsimp only at *
  rcases ‹(q1 = 0 ∧ _) ∨ _› with ⟨rfl, _⟩ | ⟨rfl, _⟩ | ⟨rfl, _⟩ <;> rcases ‹(r1 = 0 ∧ _) ∨ _› with ⟨rfl, _⟩ | ⟨rfl, _⟩ | ⟨rfl, _⟩ <;> simp at e ⊢ <;> omega
theorem codes_eq {d : Wd} {s : Stp} (h : Okd d s) {l : List (Int × Int)} (hn : l.Nodup) (hm : ∀ q, q ∈ l ↔ kyC d s q) {cs : List Int} (hp : cs.Perm (l.map cdI)) : (cs.mergeSort fun x y => decide (x ≤ y)) = cL d s := by
  have hnd : (l.map cdI).Nodup := by
    unfold List.Nodup
    rw [List.pairwise_map]
    exact hn.imp_of_mem (fun {a b} ha hb hab e => hab (cdI_inj h ((hm a).1 ha) ((hm b).1 hb) e))
  refine ascI_ext (sorted_ascI (hp.nodup_iff.2 hnd)) (cL_asc d s) fun x => ?_
  rw [List.mem_mergeSort, hp.mem_iff, cL_mem h, ← kyC_mem h, List.mem_map]
  constructor
  · rintro ⟨q, h1, h2⟩; exact ⟨q, (hm q).1 h1, h2⟩
  · rintro ⟨q, h1, h2⟩; exact ⟨q, (hm q).2 h1, h2⟩
/-! ### the pairs, one after the other -/
theorem kyA_zero {d : Wd} {s : Stp} {q : Int × Int} : kyA d s 0 q ↔ q = (0, s.a) := by
  unfold kyA
  exact ⟨fun h => h.elim id (fun ⟨i, x, h1, _⟩ => by omega), .inl⟩
theorem kyA_yes {d : Wd} {s : Stp} {n : Nat} {x : Int} (hx : d.sp[n]? = some x) (h : (n : Int) = s.a ∧ s.k = 0 ∧ 0 ≤ x) (q : Int × Int) : kyA d s (n + 1) q ↔ kyA d s n q ∨ q = (2, x) := by
  unfold kyA
  constructor
  · rintro (h1 | ⟨i, y, h1, h2, h3, h4, h5, h6⟩)
    · exact .inl (.inl h1)
    · by_cases hi : i = n
      · subst hi; rw [hx] at h4; have := Option.some.inj h4; subst this; exact .inr h6
      · exact .inl (.inr ⟨i, y, by omega, h2, h3, h4, h5, h6⟩)
  · rintro ((h1 | ⟨i, y, h1, h2⟩) | h1)
    · exact .inl h1
    · exact .inr ⟨i, y, by omega, h2⟩
    · exact .inr ⟨n, x, by omega, h.1, h.2.1, hx, h.2.2, h1⟩
theorem kyA_no {d : Wd} {s : Stp} {n : Nat} {x : Int} (hx : d.sp[n]? = some x) (h : ¬ ((n : Int) = s.a ∧ s.k = 0 ∧ 0 ≤ x)) (q : Int × Int) : kyA d s (n + 1) q ↔ kyA d s n q := by
  unfold kyA
  constructor
  · rintro (h1 | ⟨i, y, h1, h2, h3, h4, h5, h6⟩)
    · exact .inl h1
    · by_cases hi : i = n
      · subst hi; rw [hx] at h4; have := Option.some.inj h4; subst this; exact absurd ⟨h2, h3, h5⟩ h
      · exact .inr ⟨i, y, by omega, h2, h3, h4, h5, h6⟩
  · rintro (h1 | ⟨i, y, h1, h2⟩)
    · exact .inl h1
    · exact .inr ⟨i, y, by omega, h2⟩
/-- what part n adds -/
def kyN (s : Stp) (n : Nat) (x : Int) (q : Int × Int) : Prop := ((n : Int) = s.p ∧ (q = (1, (n : Int)) ∨ (x = -1 ∧ q = (2, 8 + (n : Int))) ∨ (0 ≤ x ∧ q = (2, x)))) ∨ (s.k = 2 ∧ x = -2 - s.a ∧ q = (1, (n : Int)))
theorem kyB_zero {d : Wd} {s : Stp} {na : Nat} {q : Int × Int} : kyB d s na 0 q ↔ kyA d s na q := by
  unfold kyB
  exact ⟨fun h => h.elim id (fun ⟨i, x, h1, _⟩ => by omega), .inl⟩
theorem kyB_succ {d : Wd} {s : Stp} {na n : Nat} {x : Int} (hx : d.pl[n]? = some x) (q : Int × Int) : kyB d s na (n + 1) q ↔ kyB d s na n q ∨ kyN s n x q := by
  unfold kyB kyN
  constructor
  · rintro (h1 | ⟨i, y, h1, h2, h3⟩)
    · exact .inl (.inl h1)
    · by_cases hi : i = n
      · subst hi; rw [hx] at h2; have := Option.some.inj h2; subst this; exact .inr h3
      · exact .inl (.inr ⟨i, y, by omega, h2, h3⟩)
  · rintro ((h1 | ⟨i, y, h1, h2⟩) | h1)
    · exact .inl h1
    · exact .inr ⟨i, y, by omega, h2⟩
    · exact .inr ⟨n, x, by omega, hx, h1⟩
theorem okd_of {d : Wd} {s : Stp} (h : canE d s = 0) : Okd d s := by
  obtain ⟨hv, hf, ha, hp, hs, hm⟩ := canE_inv h
  obtain ⟨f1, f2, f3, f4⟩ := formB_inv hf
  refine ⟨hv, f3, ha, hp, hs, fun hk => ?_⟩
  have hh : 0 ≤ hold d s.a := by
    unfold mayE at hm
    rw [if_neg (by omega), if_neg (by omega), if_pos hk] at hm
    by_cases h9 : full d s = true
    · unfold full at h9
      simpa using h9
    · rw [if_pos (.inl (by simpa using h9))] at hm
      cases hm
  obtain ⟨k, e1, e2, e3⟩ := hold_spec hh
  refine ⟨hh, ?_⟩
  rw [e1, Int.toNat_natCast]
  exact e3
/-! ### plans -/
def longN (s : Stp) : Int := if s.k = 0 then 40 else if s.k = 1 then 10 else if s.k = 2 then 10 else if s.k = 3 then 20 else if s.k = 4 then min (max s.t 0) 2000 else 0
/-- the things of the steps of a plan -/
def thL : Wd → List Stp → List (List Int)
  | _, [] => []
  | d, s :: l => cL d s :: thL (stepN d s) l
theorem thL_len : ∀ (d : Wd) (l : List Stp), (thL d l).length = l.length
  | _, [] => rfl
  | d, s :: l => by simp [thL, thL_len (stepN d s) l]
/-- j steps are done, and all of them can be done -/
structure Thj (d : Wd) (ss : List Stp) (j : Nat) (dj : Wd) : Prop where
  run : runF 0 d ss = runF j dj (ss.drop j)
  ok : (runF 0 d ss).2.2 = 0
  ths : thL d ss = (thL d ss).take j ++ thL dj (ss.drop j)
theorem Thj.start {d : Wd} {ss : List Stp} (hw : wErr d = 0) (h : (runE d ss).2.2 = 0) : Thj d ss 0 d := by
  unfold runE at h
  rw [if_pos hw] at h
  exact ⟨by simp, h, by simp⟩
theorem Thj.can {d dj : Wd} {ss : List Stp} {j : Nat} {s : Stp} (h : Thj d ss j dj) (hs : ss[j]? = some s) : canE dj s = 0 := by
  have h1 := h.ok
  rw [h.run, drop_of_get hs] at h1
  by_cases h2 : canE dj s = 0
  · exact h2
  · rw [runF_no h2] at h1; exact h1
theorem Thj.next {d dj : Wd} {ss : List Stp} {j : Nat} {s : Stp} (h : Thj d ss j dj) (hs : ss[j]? = some s) : Thj d ss (j + 1) (stepN dj s) ∧ (thL d ss).take (j + 1) = (thL d ss).take j ++ [cL dj s] := by
  have hc := h.can hs
  have hj : j < ss.length := (List.getElem?_eq_some_iff.1 hs).1
  have h3 := h.ths
  rw [drop_of_get hs] at h3
  have h4 : (thL d ss)[j]? = some (cL dj s) := by
    rw [h3, List.getElem?_append_right (by rw [List.length_take]; omega), List.length_take, thL_len, show j - min j ss.length = 0 by omega]
    rfl
  have h5 : (thL d ss).take (j + 1) = (thL d ss).take j ++ [cL dj s] := by rw [List.take_add_one, h4]; rfl
  refine ⟨⟨run_more h.run hs hc, h.ok, ?_⟩, h5⟩
  rw [h5, List.append_assoc]
  exact h3
/-- the answer of Things -/
def thE (d : Wd) (ss : List Stp) : Int := if 40 < ss.length then 2 else (runE d ss).2.2
def thR (d : Wd) (ss : List Stp) : List (List Int) := if thE d ss = 0 then thL d ss else []
/-- the earlier steps with which a step shares a thing -/
def befK (ts : List (List Int)) (k : Nat) (i : Nat) : Bool := ((ts[i]?).getD []).any fun x => decide (x ∈ (ts[k]?).getD [])
def befR (ts : List (List Int)) (k m : Nat) : List Int := ((List.range m).filter (befK ts k)).map fun (n : Nat) => (n : Int)
theorem befR_zero (ts : List (List Int)) (k : Nat) : befR ts k 0 = [] := rfl
theorem befR_yes {ts : List (List Int)} {k m : Nat} (h : befK ts k m = true) : befR ts k (m + 1) = befR ts k m ++ [(m : Int)] := by
  unfold befR
  rw [List.range_succ, List.filter_append, List.map_append]
  simp [h]
theorem befR_no {ts : List (List Int)} {k m : Nat} (h : befK ts k m = false) : befR ts k (m + 1) = befR ts k m := by
  unfold befR
  rw [List.range_succ, List.filter_append, List.map_append]
  simp [h]
theorem befR_len (ts : List (List Int)) (k m : Nat) : (befR ts k m).length ≤ m := by
  unfold befR
  rw [List.length_map]
  exact Nat.le_trans (List.length_filter_le _ _) (by simp)
/-- when k rows are done and row k has come to m -/
def befT (ts : List (List Int)) (n k m : Nat) : List (List Int) := (List.range n).map fun i => if i < k then befR ts i i else if i = k then befR ts k m else []
theorem befT_len (ts : List (List Int)) (n k m : Nat) : (befT ts n k m).length = n := by simp [befT]
theorem befT_get {ts : List (List Int)} {n k m i : Nat} (h : i < n) : (befT ts n k m)[i]? = some (if i < k then befR ts i i else if i = k then befR ts k m else []) := by
  unfold befT
  rw [List.getElem?_map, List.getElem?_range h]; rfl
theorem befT_zero (ts : List (List Int)) (n : Nat) : befT ts n 0 0 = List.replicate n [] := by
  refine List.ext_getElem? fun i => ?_
  by_cases h : i < n
  · rw [befT_get h, List.getElem?_replicate, if_pos h, if_neg (by omega)]
    split
    · rename_i h1; rfl
    · rfl
  · rw [List.getElem?_eq_none (by rw [befT_len]; omega), List.getElem?_eq_none (by simp; omega)]
theorem befT_row (ts : List (List Int)) (n k : Nat) : befT ts n (k + 1) 0 = befT ts n k k := by
  refine List.ext_getElem? fun i => ?_
  by_cases h : i < n
  · rw [befT_get h, befT_get h]
    congr 1
    by_cases h1 : i < k
    · rw [if_pos (by omega), if_pos h1]
    · by_cases h2 : i = k
      · subst h2; rw [if_pos (by omega), if_neg h1, if_pos rfl]
      · rw [if_neg (by omega), if_neg h1, if_neg h2]
        split
        · rfl
        · rfl
  · rw [List.getElem?_eq_none (by rw [befT_len]; omega), List.getElem?_eq_none (by rw [befT_len]; omega)]
theorem befT_step {ts : List (List Int)} {n k m : Nat} (hk : k < n) : befT ts n k (m + 1) = (befT ts n k m).set k (befR ts k (m + 1)) := by
  refine List.ext_getElem? fun i => ?_
  rw [List.getElem?_set]
  by_cases h : i < n
  · rw [befT_get h]
    by_cases h1 : k = i
    · subst h1
      simp [befT_len, hk]
    · rw [if_neg h1, befT_get h]
      congr 1
      split
      · rfl
      · rw [if_neg (by omega), if_neg (by omega)]
  · rw [if_neg (by omega), List.getElem?_eq_none (by rw [befT_len]; omega), List.getElem?_eq_none (by rw [befT_len]; omega)]
theorem befT_stay {ts : List (List Int)} {n k m : Nat} (h : befK ts k m = false) : befT ts n k (m + 1) = befT ts n k m := by
  unfold befT
  rw [befR_no h]
end Go.Proofs.Ytnaiflokmihmeaa
