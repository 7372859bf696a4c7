/- Joined texts. -/
import Derived.Test.YtdhhbpnnahdofaaDoorThL

/- span.Div, Out, Sq; part (printed by lawvec.py). -/
namespace Go.Proofs.YtdhhbpnnahdofaaDoor
open Go.RowKit
set_option linter.unusedVariables false
set_option linter.unusedSimpArgs false

theorem ssq_q {k : Nat} {al ah z0 z1 : Rat} {W : World} {l : List Own} (hT : Tab W) (Zal : Rz k al) (Zah : Rz k ah) (hlea : al ≤ ah) (hz0 : sqLo al ah = z0) (hz1 : maxQ (al * al) (ah * ah) = z1) (hk : k ≤ 100000000000) (w : World) (h : St W l w) :
    Calls Tryd.prog 144 #[.agg (VC al ah)] w fun e w' => e = .returned (.agg (VC z0 z1)) ∧ Below w.heap.size w w' := by
  unfold sqLo at hz0
  by_cases hin : al ≤ 0 ∧ 0 ≤ ah
  · rw [if_pos hin] at hz0; exact ssq0_q hT Zal Zah hlea hin hz0 hz1 hk w h
  · rw [if_neg hin] at hz0; exact ssq1_q hT Zal Zah hlea hin hz0 hz1 hk w h
theorem Rz.sqLo {k : Nat} {l h : Rat} (hl : Rz k l) (hh : Rz k h) : Rz (k + k + 2) (sqLo l h) := by
  unfold Go.Proofs.YtdhhbpnnahdofaaDoor.sqLo
  split
  · exact Rz.zero2.more (by omega)
  · exact ((hl.mul hl).min (hh.mul hh)).more (by omega)
end Go.Proofs.YtdhhbpnnahdofaaDoor
