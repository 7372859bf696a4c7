/- Facts: both ways of telling a clash are one. -/
import Derived.Test.YtogjfmgecnoceaaFacE
namespace Go.Proofs.Ytogjfmgecnoceaa
open Go.RowKit
set_option linter.unusedVariables false
set_option linter.unusedSimpArgs false

theorem okF_kind {k a b : Int} (h : okF ⟨k, a, b⟩ = true) : (k = 1 ∨ k = 2 ∨ (k = 3 ∧ b = 0) ∨ (k = 4 ∧ b = 0) ∨ (k = 5 ∧ b = 0) ∨ k = 6) := by
  have h' : 0 ≤ a ∧ a < mA k ∧ 0 ≤ b ∧ b < mB k := by simpa [okF] using h
  obtain ⟨h1, h2, h3, h4⟩ := h'
  rcases kinds k with rfl | rfl | rfl | rfl | rfl | rfl | ⟨e1, e2, e3, e4, e5, e6⟩
  · exact .inl rfl
  · exact .inr (.inl rfl)
  · exact .inr (.inr (.inl ⟨rfl, by simp [mB] at h4; omega⟩))
  · exact .inr (.inr (.inr (.inl ⟨rfl, by simp [mB] at h4; omega⟩)))
  · exact .inr (.inr (.inr (.inr (.inl ⟨rfl, by simp [mB] at h4; omega⟩))))
  · exact .inr (.inr (.inr (.inr (.inr rfl))))
  · have := m_other e1 e2 e3 e4 e5 e6
    omega
set_option maxHeartbeats 2000000 in
theorem clash_same (f g : Ft) : clashR f g = clashF f g := by
  unfold clashR clashF
  by_cases hbad : okF f = false ∨ okF g = false ∨ f = g
  · rw [if_pos hbad, if_pos hbad]
  · rw [if_neg hbad, if_neg hbad]
    obtain ⟨k, a, b⟩ := f
    obtain ⟨kk, aa, bb⟩ := g
    have hf : okF ⟨k, a, b⟩ = true := by
      cases h : okF ⟨k, a, b⟩ with
      | false => exact absurd (.inl h) hbad
      | true => rfl
    have hg : okF ⟨kk, aa, bb⟩ = true := by
      cases h : okF ⟨kk, aa, bb⟩ with
      | false => exact absurd (.inr (.inl h)) hbad
      | true => rfl
    have hne : ¬ (k = kk ∧ a = aa ∧ b = bb) := fun h => hbad (.inr (.inr (by rw [h.1, h.2.1, h.2.2])))
    clear hbad
    have h1 := okF_kind hf
    have h2 := okF_kind hg
    clear hf hg
    rcases h1 with rfl | rfl | ⟨rfl, rfl⟩ | ⟨rfl, rfl⟩ | ⟨rfl, rfl⟩ | rfl <;> rcases h2 with rfl | rfl | ⟨rfl, rfl⟩ | ⟨rfl, rfl⟩ | ⟨rfl, rfl⟩ | rfl
    all_goals
      first
        | (simp [clashO, takeL]; done)
        | (rw [Bool.eq_iff_iff]; simp [clashO, takeL]; done)
        | (rw [Bool.eq_iff_iff]; simp [clashO, takeL]; omega)
        | (simp [clashO, takeL]; omega)
end Go.Proofs.Ytogjfmgecnoceaa
