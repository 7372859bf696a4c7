/- The first free tick, as plain data. -/
import Derived.Test.YtogjfmgecnoceaaToolsP
namespace Go.Proofs.Ytogjfmgecnoceaa
open Go.RowKit

/-- tool a is free at all l ticks from x on -/
def freeAt (us : List U) (a l x : Int) : Bool := (List.range l.toNat).all fun i => !usedBy us a (x + i)
theorem freeAt_iff {us : List U} {a l x : Int} : freeAt us a l x = true ↔ ∀ t, x ≤ t → t < x + l → usedBy us a t = false := by
  simp only [freeAt, List.all_eq_true, List.mem_range, Bool.not_eq_true']
  constructor
  · intro h t h1 h2
    have := h (t - x).toNat (by omega)
    rwa [show x + ((t - x).toNat : Int) = t by omega] at this
  · intro h i hi
    exact h _ (by omega) (by omega)
theorem freeAt_false {us : List U} {a l x t : Int} (h1 : x ≤ t) (h2 : t < x + l) (h : usedBy us a t = true) : freeAt us a l x = false := by
  rw [← Bool.not_eq_true, freeAt_iff]
  intro hh; rw [hh t h1 h2] at h; cases h

/-- the first tick from f on at which the tool is free for l ticks; -1: there is none -/
def ff (us : List U) (a f l : Int) : Int :=
  match (List.range (2001 - f - l).toNat).find? (fun i : Nat => freeAt us a l (f + (i : Int))) with
  | some i => f + i
  | none => -1
theorem ff_found {us : List U} {a f l r : Int} (h1 : f ≤ r) (h2 : r + l ≤ 2000) (h3 : freeAt us a l r = true) (h4 : ∀ x, f ≤ x → x < r → freeAt us a l x = false) : ff us a f l = r := by
  unfold ff
  rw [show (List.range (2001 - f - l).toNat).find? (fun i : Nat => freeAt us a l (f + (i : Int))) = some (r - f).toNat from ?_]
  · simp only []; omega
  · rw [List.find?_range_eq_some]
    refine ⟨?_, by simp; omega, fun j hj => ?_⟩
    · rw [show f + ((r - f).toNat : Int) = r by omega]; exact h3
    · simp only [Bool.not_eq_true']; exact h4 _ (by omega) (by omega)
theorem ff_none {us : List U} {a f l : Int} (h4 : ∀ x, f ≤ x → x + l ≤ 2000 → freeAt us a l x = false) : ff us a f l = -1 := by
  unfold ff
  rw [show (List.range (2001 - f - l).toNat).find? (fun i : Nat => freeAt us a l (f + (i : Int))) = none from ?_]
  rw [List.find?_range_eq_none]
  intro i hi
  rw [h4 _ (by omega) (by omega)]; rfl
/-- what ff answers -/
theorem ff_cases (us : List U) (a f l : Int) : (ff us a f l = -1 ∧ ∀ x, f ≤ x → x + l ≤ 2000 → freeAt us a l x = false) ∨ ∃ r, ff us a f l = r ∧ f ≤ r ∧ r + l ≤ 2000 ∧ freeAt us a l r = true ∧ ∀ x, f ≤ x → x < r → freeAt us a l x = false := by
  unfold ff
  cases h : (List.range (2001 - f - l).toNat).find? (fun i : Nat => freeAt us a l (f + (i : Int))) with
  | none =>
    left
    rw [List.find?_range_eq_none] at h
    refine ⟨rfl, fun x h1 h2 => ?_⟩
    have := h (x - f).toNat (by omega)
    rw [show f + ((x - f).toNat : Int) = x by omega] at this
    simpa using this
  | some i =>
    right
    rw [List.find?_range_eq_some] at h
    obtain ⟨h1, h2, h3⟩ := h
    simp at h2
    refine ⟨f + i, rfl, by omega, by omega, h1, fun x hx1 hx2 => ?_⟩
    have := h3 (x - f).toNat (by omega)
    rw [show f + ((x - f).toNat : Int) = x by omega] at this
    simpa using this

/-- a use that is possible clashes with one of us exactly if its tool is not free -/
theorem free_of_noclash {us : List U} (hall : ∀ u ∈ us, okU u = true) {u : U} (hu : okU u = true) (h : ∀ v ∈ us, clashU u v = false) : freeAt us u.t u.l u.f = true := by
  rw [freeAt_iff]
  intro t h1 h2
  rw [← Bool.not_eq_true, usedBy_iff]
  rintro ⟨v, hv, e1, e2, e3⟩
  have := h v hv
  rw [← Bool.not_eq_true, clashU_iff hu (hall v hv)] at this
  exact this ⟨e1.symm, by omega, by omega⟩
theorem busy_of_clash {us : List U} (hall : ∀ u ∈ us, okU u = true) {u v : U} (hu : okU u = true) (hv : v ∈ us) (h : clashU u v = true) :
    u.f < v.f + v.l ∧ 0 ≤ v.f + v.l ∧ v.f + v.l ≤ 2000 ∧ ∀ x, u.f ≤ x → x < v.f + v.l → freeAt us u.t u.l x = false := by
  have hok := hall v hv
  obtain ⟨c1, c2, c3⟩ := (clashU_iff hu hok).1 h
  obtain ⟨_, _, _, _, _, _⟩ := okU_iff.1 hu
  obtain ⟨_, _, _, _, _, _⟩ := okU_iff.1 hok
  refine ⟨c2, by omega, by omega, fun x h1 h2 => ?_⟩
  exact freeAt_false (t := max x v.f) (by omega) (by omega) (usedBy_iff.2 ⟨v, hv, c1.symm, by omega, by omega⟩)
theorem all_ok {us : List U} (h : chk us = 0) : ∀ u ∈ us, okU u = true := by
  intro u hu
  obtain ⟨j, hj⟩ := List.mem_iff_getElem?.1 hu
  have hl : j < us.length := by
    rcases Nat.lt_or_ge j us.length with h | h
    · exact h
    · rw [List.getElem?_eq_none h] at hj; cases hj
  exact (chkAt_inv hj ((chk_zero h).2 j hl)).1

/-- what First answers: the tick and the error -/
def firstU (us : List U) (u : U) : Int × Int :=
  if chk us ≠ 0 then (0, chk us) else if okU u = false then (0, 1) else if ff us u.t u.f u.l < 0 then (0, 19) else (ff us u.t u.f u.l, 0)
theorem firstU_bad {us : List U} {u : U} (h : chk us ≠ 0) : firstU us u = (0, chk us) := by simp [firstU, h]
theorem firstU_arg {us : List U} {u : U} (h : chk us = 0) (hu : okU u = false) : firstU us u = (0, 1) := by simp [firstU, h, hu]
theorem firstU_late {us : List U} {u : U} (h : chk us = 0) (hu : okU u = true) {F : Int} (hlate : 2000 < F + u.l) (hbusy : ∀ x, u.f ≤ x → x < F → freeAt us u.t u.l x = false) : firstU us u = (0, 19) := by
  have : ff us u.t u.f u.l = -1 := ff_none fun x h1 h2 => hbusy x h1 (by omega)
  simp [firstU, h, hu, this]
theorem firstU_at {us : List U} {u : U} (h : chk us = 0) (hu : okU u = true) {F : Int} (hF : u.f ≤ F) (hok : okU ⟨u.t, F, u.l⟩ = true) (hbusy : ∀ x, u.f ≤ x → x < F → freeAt us u.t u.l x = false)
    (hno : ∀ v ∈ us, clashU ⟨u.t, F, u.l⟩ v = false) : firstU us u = (F, 0) := by
  obtain ⟨_, _, h0, _, _, _⟩ := okU_iff.1 hok
  dsimp only at *
  have : ff us u.t u.f u.l = F := ff_found hF (by omega) (free_of_noclash (all_ok h) hok hno) hbusy
  have h2 : ¬ F < 0 := by omega
  simp [firstU, h, hu, this, h2]
end Go.Proofs.Ytogjfmgecnoceaa
