/- Uses of tools as plain data, and what Check, First, Busy compute of them; no program in sight. -/
import Derived.Test.YtogjfmgecnoceaaLib
namespace Go.Proofs.Ytogjfmgecnoceaa
open Go.RowKit

structure U where
  t : Int
  f : Int
  l : Int
abbrev U.v (u : U) : Value := .agg #[.int .i64 u.t, .int .i64 u.f, .int .i64 u.l]

/-- a use is possible -/
def okU (u : U) : Bool := decide (0 ≤ u.t ∧ u.t ≤ 5 ∧ 0 ≤ u.f ∧ 1 ≤ u.l ∧ u.l ≤ 2000 ∧ u.f ≤ 2000 - u.l)
theorem okU_iff {u : U} : okU u = true ↔ (0 ≤ u.t ∧ u.t ≤ 5 ∧ 0 ≤ u.f ∧ 1 ≤ u.l ∧ u.l ≤ 2000 ∧ u.f ≤ 2000 - u.l) := by simp [okU]

def clashU (a b : U) : Bool := okU a && okU b && decide (a.t = b.t ∧ a.f < b.f + b.l ∧ b.f < a.f + a.l)
theorem clashU_iff {a b : U} (ha : okU a = true) (hb : okU b = true) : clashU a b = true ↔ (a.t = b.t ∧ a.f < b.f + b.l ∧ b.f < a.f + a.l) := by simp [clashU, ha, hb]

def UsesAt (w : World) (B : Nat) (A : Option Addr) (us : List U) : Prop :=
  ∀ k u, us[k]? = some u → ∃ b off, A = some ⟨b, off, none⟩ ∧ b < B ∧ w.cell? ⟨b, off + k*3, none⟩ = some (.int .i64 u.t) ∧ w.cell? ⟨b, off + k*3+1, none⟩ = some (.int .i64 u.f) ∧ w.cell? ⟨b, off + k*3+2, none⟩ = some (.int .i64 u.l)
theorem UsesAt.below {w w' : World} {B B' : Nat} {A : Option Addr} {us : List U} (h : UsesAt w B A us) (hb : Below B' w w') (hB : B ≤ B') : UsesAt w' B A us := by
  intro k u hu
  obtain ⟨b, off, hA, hlt, h0, h1, h2⟩ := h k u hu
  exact ⟨b, off, hA, hlt, (hb.cell (p := ⟨b, _, none⟩) (Nat.lt_of_lt_of_le hlt hB)).trans h0, (hb.cell (p := ⟨b, _, none⟩) (Nat.lt_of_lt_of_le hlt hB)).trans h1, (hb.cell (p := ⟨b, _, none⟩) (Nat.lt_of_lt_of_le hlt hB)).trans h2⟩
theorem UsesAt.more {w : World} {B B' : Nat} {A : Option Addr} {us : List U} (h : UsesAt w B A us) (hB : B ≤ B') : UsesAt w B' A us := by
  intro k u hu
  obtain ⟨b, off, hA, hlt, h0, h1, h2⟩ := h k u hu
  exact ⟨b, off, hA, Nat.lt_of_lt_of_le hlt hB, h0, h1, h2⟩

/-- the first fault at place i -/
def chkAt (us : List U) (i : Nat) : Option Int :=
  match us[i]? with
  | none => none
  | some u => if okU u then (if (us.take i).any (clashU u) then some 10 else none) else some 1
def chk (us : List U) : Int := if 60 < us.length then 2 else (firstOf (chkAt us) us.length).getD 0

theorem chk_large {us : List U} (h : 60 < us.length) : chk us = 2 := by simp [chk, h]
theorem chk_none {us : List U} (h : ¬ 60 < us.length) (ha : ∀ j < us.length, chkAt us j = none) : chk us = 0 := by
  unfold chk; rw [if_neg h, firstOf_none _ _ ha]; rfl
theorem chk_some {us : List U} (h : ¬ 60 < us.length) {k : Nat} (hk : k < us.length) (ha : ∀ j < k, chkAt us j = none) {x : Int} (hx : chkAt us k = some x) : chk us = x := by
  unfold chk; rw [if_neg h, firstOf_some _ _ k hk ha hx]; rfl
theorem chkAt_bad {us : List U} {k : Nat} {u : U} (hu : us[k]? = some u) (h : okU u = false) : chkAt us k = some 1 := by simp [chkAt, hu, h]
theorem chkAt_clash {us : List U} {k j : Nat} {u v : U} (hu : us[k]? = some u) (h : okU u = true) (hv : us[j]? = some v) (hj : j < k) (hc : clashU u v = true) : chkAt us k = some 10 := by
  unfold chkAt; rw [hu]; simp only [h, if_true]
  rw [if_pos]
  rw [List.any_eq_true]
  exact ⟨v, List.mem_of_getElem? (i := j) (by rw [List.getElem?_take, if_pos hj]; exact hv), hc⟩
theorem chkAt_ok {us : List U} {k : Nat} {u : U} (hu : us[k]? = some u) (h : okU u = true) (hc : ∀ j < k, ∀ v, us[j]? = some v → clashU u v = false) : chkAt us k = none := by
  unfold chkAt; rw [hu]; simp only [h, if_true]
  rw [if_neg]
  rw [List.any_eq_true]
  rintro ⟨v, hv, hcv⟩
  obtain ⟨j, hjv⟩ := List.mem_iff_getElem?.1 hv
  rw [List.getElem?_take] at hjv
  split at hjv
  · rename_i hj; rw [hc j hj v hjv] at hcv; cases hcv
  · cases hjv
theorem chkAt_inv {us : List U} {k : Nat} {u : U} (hu : us[k]? = some u) (h : chkAt us k = none) : okU u = true ∧ ∀ j < k, ∀ v, us[j]? = some v → clashU u v = false := by
  unfold chkAt at h; rw [hu] at h
  cases hok : okU u with
  | false => simp [hok] at h
  | true =>
    simp only [hok, if_true] at h
    refine ⟨rfl, fun j hj v hv => ?_⟩
    by_cases ha : (us.take k).any (clashU u) = true
    · rw [if_pos ha] at h; cases h
    · cases hc : clashU u v with
      | false => rfl
      | true => exact absurd (List.any_eq_true.2 ⟨v, List.mem_of_getElem? (i := j) (by rw [List.getElem?_take, if_pos hj]; exact hv), hc⟩) ha
theorem chk_zero {us : List U} (h : chk us = 0) : us.length ≤ 60 ∧ ∀ j < us.length, chkAt us j = none := by
  by_cases h60 : 60 < us.length
  · rw [chk_large h60] at h; cases h
  · refine ⟨by omega, ?_⟩
    refine Classical.byContradiction fun hn => ?_
    have key : ∀ n, n ≤ us.length → (∀ j < n, chkAt us j = none) := by
      intro n
      induction n with
      | zero => intro _; exact forall_lt_zero
      | succ n ih =>
        intro hle
        have hb := ih (by omega)
        refine forall_lt_succ hb ?_
        cases hx : chkAt us n with
        | none => rfl
        | some x =>
          have := chk_some h60 (by omega : n < us.length) hb hx
          rw [this] at h; subst h
          obtain ⟨u, hu⟩ := get_of_lt rfl (by omega : n < us.length)
          unfold chkAt at hx; rw [hu] at hx; simp only [] at hx
          split at hx
          · split at hx <;> simp at hx
          · simp at hx
    exact hn (key _ (Nat.le_refl _))

/-- tool a is used at tick t by one of us -/
def usedBy (us : List U) (a t : Int) : Bool := us.any fun u => decide (u.t = a ∧ u.f ≤ t ∧ t < u.f + u.l)
theorem usedBy_iff {us : List U} {a t : Int} : usedBy us a t = true ↔ ∃ u ∈ us, u.t = a ∧ u.f ≤ t ∧ t < u.f + u.l := by simp [usedBy]
theorem usedBy_snoc (us : List U) (u : U) (a t : Int) : usedBy (us ++ [u]) a t = (usedBy us a t || decide (u.t = a ∧ u.f ≤ t ∧ t < u.f + u.l)) := by simp [usedBy]
theorem take_succ_of {us : List U} {k : Nat} {u : U} (hu : us[k]? = some u) : us.take (k+1) = us.take k ++ [u] := by
  obtain ⟨h, rfl⟩ := List.getElem?_eq_some_iff.1 hu
  rw [List.take_succ_eq_append_getElem h]
/-- a use that meets a tick that is used clashes -/
theorem chkAt_busy {us : List U} {k : Nat} {u : U} (hu : us[k]? = some u) (h : okU u = true) (hall : ∀ j < k, chkAt us j = none) {t : Int} (h1 : u.f ≤ t) (h2 : t < u.f + u.l) (hb : usedBy (us.take k) u.t t = true) : chkAt us k = some 10 := by
  obtain ⟨v, hv, ht, hf, hl⟩ := usedBy_iff.1 hb
  obtain ⟨j, hjv⟩ := List.mem_iff_getElem?.1 hv
  rw [List.getElem?_take] at hjv
  split at hjv
  · rename_i hj
    refine chkAt_clash hu h hjv hj ?_
    exact (clashU_iff h (chkAt_inv hjv (hall j hj)).1).2 ⟨ht.symm, by omega, by omega⟩
  · cases hjv
theorem chkAt_free {us : List U} {k : Nat} {u : U} (hu : us[k]? = some u) (h : okU u = true) (hall : ∀ j < k, chkAt us j = none) (hb : ∀ t, u.f ≤ t → t < u.f + u.l → usedBy (us.take k) u.t t = false) : chkAt us k = none := by
  refine chkAt_ok hu h fun j hj v hv => ?_
  cases hc : clashU u v with
  | false => rfl
  | true =>
    have hok := (chkAt_inv hv (hall j hj)).1
    obtain ⟨c1, c2, c3⟩ := (clashU_iff h hok).1 hc
    obtain ⟨_, _, _, _, _, _⟩ := okU_iff.1 h
    obtain ⟨_, _, _, _, _, _⟩ := okU_iff.1 hok
    have hm : v ∈ us.take k := List.mem_of_getElem? (i := j) (by rw [List.getElem?_take, if_pos hj]; exact hv)
    have := hb (max u.f v.f) (by omega) (by omega)
    rw [← Bool.not_eq_true, usedBy_iff] at this
    exact absurd ⟨v, hm, c1.symm, by omega, by omega⟩ this
end Go.Proofs.Ytogjfmgecnoceaa
