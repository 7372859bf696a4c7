/- Joined texts. -/
import Derived.Test.YtahmajbgfjinbaaDoorBunNatC
import Derived.Test.YtahmajbgfjinbaaDoorBunSeq
import Derived.Test.YtahmajbgfjinbaaDoorRep
import Derived.Deep.LoopGhost

/- nat.Root: Newton's steps from above. -/
namespace Go.Proofs.YtahmajbgfjinbaaDoor
open Go.RowKit
set_option linter.unusedVariables false
set_option linter.unusedSimpArgs false

theorem rep_val (k : Nat) : bval (1 :: Lib.repeatL [0] k) = 256 ^ k ∧ (Lib.repeatL [(0 : UInt8)] k).length = k := by
  induction k with
  | zero => exact ⟨rfl, rfl⟩
  | succ k ih =>
    obtain ⟨h1, h2⟩ := ih
    have e : Lib.repeatL [(0 : UInt8)] (k + 1) = 0 :: Lib.repeatL [0] k := rfl
    rw [bval_cons, h2] at h1
    rw [e, bval_cons, bval_zero_cons, List.length_cons, h2]
    refine ⟨?_, rfl⟩
    have h3 : (1 : UInt8).toNat = 1 := rfl
    rw [h3] at h1 ⊢
    have : bval (Lib.repeatL [0] k) = 0 := by omega
    rw [this]; omega
section
variable {W : World} {l : List Own}
end
end Go.Proofs.YtahmajbgfjinbaaDoor
