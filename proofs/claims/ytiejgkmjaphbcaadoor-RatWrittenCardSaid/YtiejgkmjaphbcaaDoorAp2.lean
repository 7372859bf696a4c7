/- Joined texts. -/
import Derived.Test.YtiejgkmjaphbcaaDoorAp1
import Derived.Deep.LoopGhost

/- package apart: beyond, both, Meet (printed by lawvec.py). -/
namespace Go.Proofs.YtiejgkmjaphbcaaDoor
open Go.RowKit
set_option linter.unusedVariables false
set_option linter.unusedSimpArgs false

def farF (a b : Pts) (i : Nat) : Nat → Bool
  | 0 => true
  | j + 1 => farF a b i j && decide (0 < dt a b i j)
theorem farF_all (a b : Pts) (i n : Nat) : farF a b i n = (List.range n).all fun j => decide (0 < dt a b i j) := by
  induction n with
  | zero => rfl
  | succ n ih => rw [List.range_succ, List.all_append, ← ih]; simp [farF]
theorem farF_sep (a b : Pts) (i : Nat) : farF a b i b.length = sepB a b i := farF_all _ _ _ _
def bydI (a b : Pts) : Option Nat := (List.range a.length).find? (sepB a b)
def nrx (a : Pts) (i : Nat) : Rat := py a ((i + 1) % a.length) - py a i
def nry (a : Pts) (i : Nat) : Rat := -(px a ((i + 1) % a.length) - px a i)
def bydC (a b : Pts) : Array Value := match bydI a b with | some i => VC (nrx a i) (nry a i) | none => #[.bool false, .string ⟨#[]⟩, .string ⟨#[]⟩, .bool false, .string ⟨#[]⟩, .string ⟨#[]⟩]
theorem bydI_at {a b : Pts} {i : Nat} (hi : i < a.length) (h : sepB a b i = true) (hn : ∀ q, q < i → sepB a b q = false) : bydI a b = some i := by
  unfold bydI
  rw [List.find?_range_eq_some]
  exact ⟨h, List.mem_range.2 hi, fun j hj => by rw [hn j hj]; rfl⟩
theorem bydI_no {a b : Pts} (hn : ∀ q, q < a.length → sepB a b q = false) : bydI a b = none := by
  unfold bydI
  rw [List.find?_range_eq_none]
  exact fun j hj => by rw [hn j hj]; rfl
theorem bydB_at {a b : Pts} {i : Nat} (hi : i < a.length) (h : sepB a b i = true) : bydB a b = true := by
  unfold bydB; rw [List.any_eq_true]; exact ⟨i, List.mem_range.2 hi, h⟩
theorem bydB_no {a b : Pts} (hn : ∀ q, q < a.length → sepB a b q = false) : bydB a b = false := by
  rw [← Bool.not_eq_true]
  intro h
  unfold bydB at h
  rw [List.any_eq_true] at h
  obtain ⟨i, hi, h⟩ := h
  rw [hn i (List.mem_range.1 hi)] at h; cases h
theorem bydC_size (a b : Pts) : (bydC a b).size = 6 := by unfold bydC; split <;> rfl
theorem bydC_one (a b : Pts) : ∀ u ∈ bydC a b, u.oneCell' = true := by
  unfold bydC
  split
  · exact VC_one _ _
  · intro u hu
    simp only [List.mem_toArray, List.mem_cons, List.not_mem_nil, or_false] at hu
    rcases hu with rfl | rfl | rfl | rfl | rfl | rfl <;> rfl
theorem sgn_dec {a : Rat} : decide (0 < sgnQ a) = decide (0 < a) := by
  rw [Bool.eq_iff_iff, decide_eq_true_eq, decide_eq_true_eq]
  unfold sgnQ cmpQ
  split
  · constructor
    · intro h; omega
    · intro h; grind
  · split
    · constructor
      · intro h; assumption
      · intro h; omega
    · constructor
      · intro h; omega
      · intro h; exact absurd h (by assumption)
end Go.Proofs.YtiejgkmjaphbcaaDoor
