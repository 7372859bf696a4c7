/- StepOf (reference): plain facts. -/
import Derived.Test.YtnaiflokmihmeaaActP
namespace Go.Proofs.Ytnaiflokmihmeaa
open Go.RowKit
set_option linter.unusedVariables false
set_option linter.unusedSimpArgs false

section
variable {d : Wd} {s : Stp} {S : List Ft}
theorem tFree (hin : ∀ f, f ∈ S ↔ inS d f) (h0 : 0 ≤ s.a) (h1 : s.a < (d.sp.length : Int)) : decide ((⟨3, s.a, 0⟩ : Ft) ∈ S) = !full d s := by
  have h2 := (hin ⟨3, s.a, 0⟩).trans (inS_free (d := d) (a := s.a))
  have h3 := ixI_any (fun y => (-2 - s.a) == y) d.pl
  rw [← hold_in h0 h1] at h3
  unfold full
  cases hc : decide (0 ≤ hold d s.a) with
  | true =>
    rw [hc] at h3
    obtain ⟨x, hx, hx2⟩ := List.any_eq_true.1 h3.symm
    refine decide_eq_false fun hm => (h2.1 hm).2.2 ?_
    have e : -2 - s.a = x := by simpa using hx2
    rw [e]; exact hx
  | false =>
    rw [hc] at h3
    refine decide_eq_true (h2.2 ⟨h0, h1, fun hm => ?_⟩)
    have h4 := List.any_eq_false.1 h3.symm _ hm
    simp at h4
theorem tHere (hin : ∀ f, f ∈ S ↔ inS d f) (h0 : 0 ≤ s.a) (h1 : s.a < (d.sp.length : Int)) (ht : 0 ≤ targ d s) : decide ((⟨6, s.a, targ d s⟩ : Ft) ∈ S) = here d s := by
  have h2 := (hin ⟨6, s.a, targ d s⟩).trans (inS_at (d := d) (a := s.a))
  unfold here
  refine decide_eq_decide.2 (h2.trans ?_)
  constructor
  · rintro ⟨h3, q, h4, h5⟩
    refine ⟨by omega, ?_⟩
    rw [h4]
    exact nthI_get h5
  · rintro ⟨h3, h4⟩
    refine ⟨ht, s.a.toNat, by omega, ?_⟩
    obtain ⟨x, hx⟩ : ∃ x, d.sp[s.a.toNat]? = some x := ⟨_, List.getElem?_eq_getElem (by omega)⟩
    rw [nthI_get hx] at h4
    rw [hx, h4]
theorem here_neg (ht : targ d s = -1) : here d s = false := by unfold here; simp [ht]
theorem tSeen (hin : ∀ f, f ∈ S ↔ inS d f) (hse : d.se.length = d.pl.length) (h0 : 0 ≤ s.p) (h1 : s.p < (d.pl.length : Int)) : decide ((⟨5, s.p, 0⟩ : Ft) ∈ S) = nthB d.se s.p.toNat := by
  have h2 := (hin ⟨5, s.p, 0⟩).trans (inS_seen (d := d) (a := s.p) hse)
  obtain ⟨x, hx⟩ : ∃ x, d.se[s.p.toNat]? = some x := ⟨_, List.getElem?_eq_getElem (by omega)⟩
  rw [nthB_get hx]
  cases x with
  | true => exact decide_eq_true (h2.2 ⟨_, by omega, hx⟩)
  | false =>
    refine decide_eq_false fun hm => ?_
    obtain ⟨q, h4, h5⟩ := h2.1 hm
    have : q = s.p.toNat := by omega
    subst this
    rw [hx] at h5; cases h5
theorem tEmpty (hin : ∀ f, f ∈ S ↔ inS d f) (hsl : 0 ≤ d.sl) (h0 : 0 ≤ s.s) (h1 : s.s < d.sl) : decide ((⟨4, s.s, 0⟩ : Ft) ∈ S) = !decide (0 ≤ inn d s.s) := by
  have h2 := (hin ⟨4, s.s, 0⟩).trans (inS_empty (d := d) (a := s.s) hsl)
  have h3 := ixI_any (fun y => s.s == y) d.pl
  rw [← inn_ge h0] at h3
  cases hc : decide (0 ≤ inn d s.s) with
  | true =>
    rw [hc] at h3
    obtain ⟨x, hx, hx2⟩ := List.any_eq_true.1 h3.symm
    refine decide_eq_false fun hm => (h2.1 hm).2.2 ?_
    have e : s.s = x := by simpa using hx2
    rw [e]; exact hx
  | false =>
    rw [hc] at h3
    refine decide_eq_true (h2.2 ⟨h0, h1, fun hm => ?_⟩)
    have h4 := List.any_eq_false.1 h3.symm _ hm
    simp at h4
theorem may_goes (hk : s.k = 0) (ht : -1 ≤ targ d s) : mayE d s = goesV s.p (targ d s) (!full d s) (here d s) (decide (targ d s ∈ d.sp)) := by
  unfold mayE goesV
  rw [if_pos hk]
  cases full d s <;> cases here d s <;> simp
  all_goals
    have : (targ d s < 0) ↔ (targ d s = -1) := by omega
    simp only [this]
theorem may_look (hk : s.k = 1) : mayE d s = if (!full d s) = false then 6 else if here d s = false then 7 else if nthB d.se s.p.toNat = false then 18 else 0 := by
  unfold mayE
  rw [if_neg (by omega), if_pos (by omega)]
  cases full d s <;> cases here d s <;> simp [hk]
theorem may_see (hk : s.k = 3) : mayE d s = if (!full d s) = false then 6 else if here d s = false then 7 else if nthB d.se s.p.toNat = true then 5 else 0 := by
  unfold mayE
  rw [if_neg (by omega), if_pos (by omega)]
  cases full d s <;> cases here d s <;> simp [hk]
theorem may_put (hk : s.k = 2) : mayE d s = if (!full d s) = true then 7 else if here d s = false then 7 else if (!decide (0 ≤ inn d s.s)) = false then 5 else 0 := by
  unfold mayE
  rw [if_neg (by omega), if_neg (by omega), if_pos hk]
  cases full d s <;> cases here d s <;> simp
theorem may_wait (hk : s.k = 4) : mayE d s = 0 := by
  unfold mayE
  rw [if_neg (by omega), if_neg (by omega), if_neg (by omega)]
theorem can_of (hw : wErr d = 0) (hf : formB s = true) (hr : ¬ ((d.sp.length : Int) ≤ s.a ∨ (d.pl.length : Int) ≤ s.p ∨ d.sl ≤ s.s)) : canE d s = mayE d s := by
  unfold canE
  rw [if_neg (by simp [hw]), if_neg (by simp [hf]), if_neg hr]
/-- what a step leaves is still a world of the same size -/
theorem stepN_len : (stepN d s).sl = d.sl ∧ (stepN d s).pl.length = d.pl.length ∧ (stepN d s).se.length = d.se.length ∧ (stepN d s).sp.length = d.sp.length := by
  unfold stepN
  split
  · simp
  · split
    · simp
    · split
      · simp
      · split <;> simp
theorem mem_set_or {α : Type} {xs : List α} {i : Nat} {a x : α} (h : x ∈ xs.set i a) : x = a ∨ x ∈ xs := by
  rcases List.mem_or_eq_of_mem_set h with h | h
  · exact .inr h
  · exact .inl h
theorem stepN_lo (hc : canE d s = 0) : (∀ x ∈ (stepN d s).pl, -100 ≤ x) ∧ ∀ x ∈ (stepN d s).sp, -1 ≤ x := by
  obtain ⟨hv, hf, ha, hp, hs, hm⟩ := canE_inv hc
  obtain ⟨f1, f2, f3, f4⟩ := formB_inv hf
  have h1 : ∀ x ∈ d.pl, -100 ≤ x := by
    intro x hx
    obtain ⟨i, hi⟩ := List.mem_iff_getElem?.1 hx
    have := (hv.plo i x hi).2
    have := hv.s4
    omega
  have h2 : ∀ x ∈ d.sp, -1 ≤ x := by
    intro x hx
    obtain ⟨i, hi⟩ := List.mem_iff_getElem?.1 hx
    exact (hv.slo i x hi).1
  have h3 := targ_lo (d := d) f2
  have h4 := hv.s4
  unfold stepN
  split
  · refine ⟨h1, fun x hx => ?_⟩
    rcases mem_set_or hx with e | e
    · omega
    · exact h2 x e
  · split
    · refine ⟨fun x hx => ?_, h2⟩
      rcases mem_set_or hx with e | e
      · omega
      · exact h1 x e
    · split
      · exact ⟨h1, h2⟩
      · split
        · refine ⟨fun x hx => ?_, h2⟩
          rcases mem_set_or hx with e | e
          · omega
          · exact h1 x e
        · exact ⟨h1, h2⟩
end
end Go.Proofs.Ytnaiflokmihmeaa
