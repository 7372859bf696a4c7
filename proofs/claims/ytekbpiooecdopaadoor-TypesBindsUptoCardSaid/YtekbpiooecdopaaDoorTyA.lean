/- The words that cannot be names: strings.Contains in the reference's text of all of them, and the program's list (plain). -/
import Derived.Test.YtekbpiooecdopaaDoorWnL
import Derived.Lib.IndexMore

namespace Go.Proofs.YtekbpiooecdopaaDoor
open Go.RowKit
set_option linter.unusedVariables false
set_option linter.unusedSimpArgs false

/-! ### the words that cannot be names -/
def kwT : List UInt8 := [32, 106, 111, 98, 32, 112, 117, 116, 32, 105, 110, 32, 119, 105, 116, 104, 105, 110, 32, 104, 111, 108, 100, 32, 119, 105, 116, 104, 32, 102, 114, 101, 101, 32, 115, 101, 101, 32, 119, 97, 105, 116, 32, 100, 111, 32, 114, 101, 112, 101, 97, 116, 32, 97, 110, 121, 32, 111, 114, 32, 116, 114, 121, 32, 101, 108, 115, 101, 32]
def kws : List (List UInt8) := [[106, 111, 98], [112, 117, 116], [105, 110], [119, 105, 116, 104, 105, 110], [104, 111, 108, 100], [119, 105, 116, 104], [102, 114, 101, 101], [115, 101, 101], [119, 97, 105, 116], [100, 111], [114, 101, 112, 101, 97, 116], [97, 110, 121], [111, 114], [116, 114, 121], [101, 108, 115, 101]]
theorem pre_run {P : Nat → Bool} (h32 : P 32 = false) : ∀ {l r : List UInt8}, (∀ b ∈ l, P b.toNat = true) → (l ++ [32]).isPrefixOf r = true → l = r.takeWhile (fun b => P b.toNat) ∧ r[l.length]? = some 32
  | [], r, _, h => by
    cases r with
    | nil => simp at h
    | cons c r =>
      have hc : (32 : UInt8) = c := by simpa using h
      subst hc
      have h3 : P (32 : UInt8).toNat = false := h32
      rw [List.takeWhile_cons, h3]
      exact ⟨rfl, rfl⟩
  | b :: l, [], _, h => by simp at h
  | b :: l, c :: r, hl, h => by
    have h2 : b = c ∧ (l ++ [32]).isPrefixOf r = true := by simpa using h
    obtain ⟨rfl, h3⟩ := h2
    have ih := pre_run h32 (fun x hx => hl x (List.mem_cons_of_mem _ hx)) h3
    have hb := hl b List.mem_cons_self
    rw [List.takeWhile_cons, if_pos hb, ← ih.1]
    exact ⟨rfl, by simpa using ih.2⟩
theorem kw_at : ∀ k ∈ kws, ∃ j, j ≤ 69 ∧ Lib.occAt kwT (32 :: (k ++ [32])) j = true := by
  have h : (kws.all fun k => (List.range 70).any fun j => Lib.occAt kwT (32 :: (k ++ [32])) j) = true := by decide +kernel
  intro k hk
  have h2 := List.all_eq_true.1 h k hk
  obtain ⟨j, h3, h4⟩ := List.any_eq_true.1 h2
  exact ⟨j, by have := List.mem_range.1 h3; omega, h4⟩
theorem kw_no : ∀ i, i < 73 → (kwT.drop i)[0]? = some 32 → ((kwT.drop (i + 1))[((kwT.drop (i + 1)).takeWhile (fun b => isL b.toNat)).length]? = some 32) → kws.contains ((kwT.drop (i + 1)).takeWhile (fun b => isL b.toNat)) = true := by
  have h : ((List.range 73).all fun i => !((kwT.drop i)[0]? == some 32 && (kwT.drop (i + 1))[((kwT.drop (i + 1)).takeWhile (fun b => isL b.toNat)).length]? == some 32) || kws.contains ((kwT.drop (i + 1)).takeWhile (fun b => isL b.toNat))) = true := by decide +kernel
  intro i hi h1 h2
  have h3 := List.all_eq_true.1 h i (List.mem_range.2 hi)
  simpa [h1, h2] using h3
theorem kw_law {l : List UInt8} (hl : ∀ b ∈ l, isL b.toNat = true) : Lib.contains kwT (32 :: (l ++ [32])) = kws.contains l := by
  have len : kwT.length = 69 := rfl
  unfold Lib.contains
  rcases Lib.index_spec kwT (32 :: (l ++ [32])) with ⟨h1, h2⟩ | ⟨i, h1, h2, h3, -⟩
  · rw [h1]
    have : kws.contains l = false := by
      cases hc : kws.contains l with
      | false => rfl
      | true =>
        obtain ⟨j, hj, ho⟩ := kw_at l (List.contains_iff_mem.1 hc)
        rw [h2 j (by rw [len]; omega)] at ho
        cases ho
    rw [this]; rfl
  · rw [h1]
    have hi : decide ((0 : Int) ≤ (i : Int)) = true := decide_eq_true (by omega)
    rw [hi]
    unfold Lib.occAt at h3
    rw [len] at h2
    cases hd : kwT.drop i with
    | nil => rw [hd] at h3; simp at h3
    | cons c r =>
      rw [hd] at h3
      have h4 : (32 : UInt8) = c ∧ (l ++ [32]).isPrefixOf r = true := by simpa using h3
      obtain ⟨rfl, h5⟩ := h4
      have h6 : kwT.drop (i + 1) = r := by
        rw [← List.drop_drop, hd]; rfl
      obtain ⟨h7, h8⟩ := pre_run (P := isL) (by decide) hl h5
      rw [h7, ← h6]
      symm
      rcases Nat.lt_or_ge i 73 with h | h
      · refine kw_no i h (by rw [hd]; rfl) ?_
        rw [h6, ← h7]
        exact h8
      · exfalso
        have : (kwT.drop i).length = 0 := by rw [List.length_drop, len]; omega
        rw [hd] at this; simp at this
end Go.Proofs.YtekbpiooecdopaaDoor
