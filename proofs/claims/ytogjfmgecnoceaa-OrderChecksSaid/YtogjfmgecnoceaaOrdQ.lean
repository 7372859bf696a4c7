/- The other direction: the lists behind, and that both directions agree; no program in sight. -/
import Derived.Test.YtogjfmgecnoceaaOrdR
namespace Go.Proofs.Ytogjfmgecnoceaa
open Go.RowKit
set_option linter.unusedVariables false

theorem Back.uniq {rs : List (List Int)} {ts : List Int} {L L' : Nat → Int} (hl : Low rs) (h : Back rs ts L) (h' : Back rs ts L') : ∀ m j, j < rs.length → rs.length - j ≤ m → L j = L' j := by
  intro m
  induction m with
  | zero => intro j hj hm; omega
  | succ m ih =>
    intro j hj hm
    refine (h.max j hj).uniq ((h'.max j hj).congr fun v => ?_)
    constructor
    · rintro ⟨k, xs, h1, h2, h3⟩
      have e1 := hl k xs h1 _ h2
      have e2 := (List.getElem?_eq_some_iff.1 h1).1
      exact ⟨k, xs, h1, h2, by rw [h3, ih k e2 (by omega)]⟩
    · rintro ⟨k, xs, h1, h2, h3⟩
      have e1 := hl k xs h1 _ h2
      have e2 := (List.getElem?_eq_some_iff.1 h1).1
      exact ⟨k, xs, h1, h2, by rw [h3, ih k e2 (by omega)]⟩
theorem late_uniq {rs : List (List Int)} {ts : List Int} {L L' : Nat → Int} {E : Int} (hl : Low rs) (h : Back rs ts L) (h' : Back rs ts L') : lateOf rs.length ts E L = lateOf rs.length ts E L' := by
  unfold lateOf
  refine List.map_congr_left fun x hx => ?_
  rw [h.uniq hl h' rs.length x (by simpa using hx) (by omega)]
theorem Back.bd {rs : List (List Int)} {ts : List Int} {L : Nat → Int} (h : Back rs ts L) (hl : Low rs) (ht : ∀ t ∈ ts, 0 ≤ t ∧ t ≤ 2000) {k : Nat} (hk : k < rs.length) : 0 ≤ L k ∧ nth ts k + L k ≤ endB rs ts rs.length := by
  have h1 := h.le hl rs.length k hk (by omega)
  have h2 := (S_bd hl ht k).1
  exact ⟨(h.max k hk).1, by omega⟩
theorem LI.bd {rs : List (List Int)} {ts : List Int} {L : Nat → Int} {Q : Nat → Nat → Prop} {out : List Int} (h : LI rs.length ts (endB rs ts rs.length) L Q out) (hB : Back rs ts L) (hl : Low rs) (ht : ∀ t ∈ ts, 0 ≤ t ∧ t ≤ 2000) (hQ : ∀ k x, Q k x → Edge rs k x) {x : Nat} (hx : x < rs.length) {a : Int} (ha : out[x]? = some a) : 0 ≤ a ∧ a ≤ endB rs ts rs.length := by
  obtain ⟨M, hM, ho⟩ := h.at_ x hx
  rw [ha] at ho
  injection ho with ho
  have hML : M ≤ L x := by
    rcases hM.2.2 with e | ⟨k, hk, e⟩
    · have := (hB.max x hx).1; omega
    · obtain ⟨xs, h1, h2⟩ := hQ _ _ hk
      exact (hB.max x hx).2.1 _ ⟨k, xs, h1, h2, e⟩
  have h1 := hB.bd hl ht hx
  have h2 := nth_bd ht x
  have h3 := hM.1
  omega
/-- the lists behind, as LatestOf makes them, when the edges of Q have been looked at -/
structure BI (n : Nat) (Q : Nat → Nat → Prop) (B : List (List Int)) : Prop where
  len : B.length = n
  at_ : ∀ j, j < n → ∃ ys, B[n - 1 - j]? = some ys ∧ ∀ y, y ∈ ys ↔ ∃ k, Q k j ∧ y = ((n - 1 - k : Nat) : Int)
theorem BI.step {n : Nat} {Q Q' : Nat → Nat → Prop} {B : List (List Int)} (h : BI n Q B) {k x : Nat} (hx : x < n) {ys : List Int} (hy : B[n - 1 - x]? = some ys) (hQ : ∀ k' x', Q' k' x' ↔ Q k' x' ∨ (k' = k ∧ x' = x)) :
    BI n Q' (B.set (n - 1 - x) (ys ++ [((n - 1 - k : Nat) : Int)])) := by
  refine ⟨by rw [List.length_set, h.len], fun j hj => ?_⟩
  obtain ⟨zs, hz, hm⟩ := h.at_ j hj
  by_cases he : j = x
  · subst he
    rw [hy] at hz
    injection hz with hz
    subst hz
    refine ⟨_, List.getElem?_set_self (by rw [h.len]; omega), fun y => ?_⟩
    rw [List.mem_append, hm, List.mem_singleton]
    constructor
    · rintro (⟨k', h1, h2⟩ | h1)
      · exact ⟨k', (hQ _ _).2 (.inl h1), h2⟩
      · exact ⟨k, (hQ _ _).2 (.inr ⟨rfl, rfl⟩), h1⟩
    · rintro ⟨k', h1, h2⟩
      rcases (hQ _ _).1 h1 with h1 | ⟨rfl, _⟩
      · exact .inl ⟨k', h1, h2⟩
      · exact .inr h2
  · refine ⟨zs, by rw [List.getElem?_set_ne (by omega)]; exact hz, fun y => ?_⟩
    rw [hm]
    constructor
    · rintro ⟨k', h1, h2⟩; exact ⟨k', (hQ _ _).2 (.inl h1), h2⟩
    · rintro ⟨k', h1, h2⟩
      rcases (hQ _ _).1 h1 with h1 | ⟨_, h3⟩
      · exact ⟨k', h1, h2⟩
      · exact absurd h3 he
theorem BI.congr {n : Nat} {Q Q' : Nat → Nat → Prop} {B : List (List Int)} (h : BI n Q B) (hQ : ∀ k x, Q' k x ↔ Q k x) : BI n Q' B :=
  ⟨h.len, fun j hj => by
    obtain ⟨ys, h1, h2⟩ := h.at_ j hj
    exact ⟨ys, h1, fun y => by rw [h2]; exact ⟨fun ⟨k, a, b⟩ => ⟨k, (hQ _ _).2 a, b⟩, fun ⟨k, a, b⟩ => ⟨k, (hQ _ _).1 a, b⟩⟩⟩⟩
section
variable {rs B : List (List Int)} {ts own : List Int}
theorem BI.low (h : BI rs.length (Edge rs) B) (hl : Low rs) : Low B := by
  intro j ys hj y hy
  have hjn : j < rs.length := by rw [← h.len]; exact (List.getElem?_eq_some_iff.1 hj).1
  obtain ⟨zs, hz, hm⟩ := h.at_ (rs.length - 1 - j) (by omega)
  rw [show rs.length - 1 - (rs.length - 1 - j) = j by omega, hj] at hz
  injection hz with hz
  subst hz
  obtain ⟨k, ⟨xs, h1, h2⟩, h3⟩ := (hm y).1 hy
  have e1 := hl k xs h1 _ h2
  have e2 := (List.getElem?_eq_some_iff.1 h1).1
  omega
theorem BI.back (h : BI rs.length (Edge rs) B) (hl : Low rs) (ho : ∀ k, k < rs.length → nth own ((rs.length - 1 - k : Nat) : Int) = nth ts k) : Back rs ts (fun j => S B own (rs.length - 1 - j)) := by
  refine ⟨fun j hj => ?_⟩
  obtain ⟨ys, hy, hm⟩ := h.at_ j hj
  refine (S_max (ts := own) (h.low hl) hy).congr fun v => ?_
  constructor
  · rintro ⟨i, hi, rfl⟩
    obtain ⟨k, ⟨xs, h1, h2⟩, h3⟩ := (hm _).1 hi
    have e2 := (List.getElem?_eq_some_iff.1 h1).1
    have e3 : i = rs.length - 1 - k := by omega
    subst e3
    exact ⟨k, xs, h1, h2, by rw [ho k e2]⟩
  · rintro ⟨k, xs, h1, h2, rfl⟩
    have e2 := (List.getElem?_eq_some_iff.1 h1).1
    exact ⟨rs.length - 1 - k, (hm _).2 ⟨k, ⟨xs, h1, h2⟩, rfl⟩, by rw [ho k e2]⟩
theorem BI.end_ (h : BI rs.length (Edge rs) B) (hl : Low rs) (ho : ∀ k, k < rs.length → nth own ((rs.length - 1 - k : Nat) : Int) = nth ts k) (ht : ∀ t ∈ ts, 0 ≤ t ∧ t ≤ 2000) : endB B own rs.length = endB rs ts rs.length := by
  have hB := h.back hl ho
  have hm := endB_max B own rs.length
  have h1 : endB rs ts rs.length ≤ endB B own rs.length := by
    refine hB.ge hl (fun k hk => ?_) hm.1
    have := hm.2.1 _ ⟨rs.length - 1 - k, by omega, rfl⟩
    rw [ho k hk] at this
    exact this
  have h2 : endB B own rs.length ≤ endB rs ts rs.length := by
    rcases hm.2.2 with e | ⟨i, hi, e⟩
    · have := (endB_max rs ts rs.length).1; omega
    · have h3 := hB.bd hl ht (show rs.length - 1 - i < rs.length by omega)
      have h4 := ho (rs.length - 1 - i) (by omega)
      rw [show rs.length - 1 - (rs.length - 1 - i) = i by omega] at h4 h3
      rw [h4] at e
      omega
  omega
end
/-- there is such a list -/
theorem back_ex (rs : List (List Int)) (ts : List Int) (hl : Low rs) : ∃ L, Back rs ts L := by
  have hB : BI rs.length (Edge rs) ((List.range rs.length).map fun i => ((List.range rs.length).filter fun k => decide (((rs.length - 1 - i : Nat) : Int) ∈ (rs[k]?).getD [])).map fun k => ((rs.length - 1 - k : Nat) : Int)) := by
    refine ⟨by simp, fun j hj => ⟨_, by rw [List.getElem?_map, List.getElem?_range (by omega)]; rfl, fun y => ?_⟩⟩
    simp only [List.mem_map, List.mem_filter, List.mem_range, decide_eq_true_eq]
    rw [show rs.length - 1 - (rs.length - 1 - j) = j by omega]
    constructor
    · rintro ⟨k, ⟨hk, hm⟩, rfl⟩
      rw [List.getElem?_eq_getElem hk] at hm
      exact ⟨k, ⟨_, List.getElem?_eq_getElem hk, hm⟩, rfl⟩
    · rintro ⟨k, ⟨xs, h1, h2⟩, rfl⟩
      exact ⟨k, ⟨(List.getElem?_eq_some_iff.1 h1).1, by rw [h1]; exact h2⟩, rfl⟩
  refine ⟨_, hB.back (own := (List.range rs.length).map fun i => nth ts ((rs.length - 1 - i : Nat) : Int)) hl fun k hk => ?_⟩
  unfold nth
  rw [Int.toNat_natCast, List.getElem?_map, List.getElem?_range (by omega)]
  simp only [Option.map_some, Option.getD_some, Int.toNat_natCast]
  rw [show rs.length - 1 - (rs.length - 1 - k) = k by omega]
end Go.Proofs.Ytogjfmgecnoceaa
