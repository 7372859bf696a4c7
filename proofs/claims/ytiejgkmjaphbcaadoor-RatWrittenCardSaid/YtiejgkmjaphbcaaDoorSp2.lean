/- Joined texts. -/
import Derived.Test.YtiejgkmjaphbcaaDoorSp1

/- turned, vector, num, turnBegun, vecBegun of package gantkeep1 (printed by lawvec.py). -/
namespace Go.Proofs.YtiejgkmjaphbcaaDoor
open Go.RowKit
set_option linter.unusedVariables false
set_option linter.unusedSimpArgs false

theorem num_s (m n : Int) (hm : m.natAbs < 65536) (hn : n.natAbs < 65536) (h0 : n ≠ 0) : Rz 4 ((m : Rat) / (n : Rat)) :=
  (Rz.lit (z := m) rfl hm).div (Rz.lit (z := n) rfl hn) (fun h => h0 (by
    have h2 : ((n : Int) : Rat) = ((0 : Int) : Rat) := h
    exact Rat.intCast_inj.1 h2))
def tdH (x : Int) : Bool := decide (belowN x 5 = 0)
def tdT (x : Int) : Rat := if belowN x 5 = 0 then 0 else ratMq x
theorem td_good (x : Int) : GoodT (tdH x) (tdT x) := by
  intro h
  unfold tdH at h
  unfold tdT
  rw [if_pos (by simpa using h)]
theorem td_rz (x : Int) : Rz 2 (tdT x) := by
  unfold tdT
  split
  · exact Rz.zero2
  · exact (ratMq_small x).rz.more (by omega)
end Go.Proofs.YtiejgkmjaphbcaaDoor
