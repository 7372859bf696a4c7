/- Joined texts. -/
import Derived.Test.YtiejgkmjaphbcaaDoorPoL
import Derived.Deep.LoopGhost

/- package poly: Convex, Check, Has, Support, Area, Box (printed by lawvec.py). -/
namespace Go.Proofs.YtiejgkmjaphbcaaDoor
open Go.RowKit
set_option linter.unusedVariables false
set_option linter.unusedSimpArgs false

def hasAt (ps : Pts) (x y : Rat) (i : Nat) : Bool := decide (0 ≤ lf (px ps i) (py ps i) (px ps ((i + 1) % ps.length)) (py ps ((i + 1) % ps.length)) x y)
theorem hasB_at {ps : Pts} {x y : Rat} : hasB ps x y = true ↔ ∀ i, i < ps.length → hasAt ps x y i = true := by
  unfold hasB
  rw [List.all_eq_true]
  exact ⟨fun h i hi => h i (List.mem_range.2 hi), fun h i hi => h i (List.mem_range.1 hi)⟩
def fz (k : Nat) : Nat → Nat
  | 0 => 2
  | i + 1 => 2 * fz k i + 16 * k + 100
theorem fz_mono (k : Nat) {i j : Nat} (h : i ≤ j) : fz k i ≤ fz k j := by
  induction h with
  | refl => exact Nat.le_refl _
  | step h ih => simp only [fz]; omega
theorem fz_le {k i : Nat} (hk : k ≤ 100000) (hi : i ≤ 16) : fz k i ≤ 1000000000000 := by
  have h := fz_mono k hi
  have e : fz k 16 ≤ 1000000000000 := by simp only [fz]; omega
  omega
end Go.Proofs.YtiejgkmjaphbcaaDoor
