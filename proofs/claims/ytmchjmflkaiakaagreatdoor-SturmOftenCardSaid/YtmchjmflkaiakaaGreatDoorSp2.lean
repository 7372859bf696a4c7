/- Joined texts: Sp0 SpL Sp1 Sp2. -/
import Derived.Test.YtmchjmflkaiakaaGreatDoorSpQ
/- Turns: what the functions compute, and how large it is. -/
set_option maxRecDepth 20000
namespace Go.Proofs.YtmchjmflkaiakaaGreatDoor
open Go.RowKit
set_option linter.unusedVariables false
set_option linter.unusedSimpArgs false
theorem Rz.one2 : Rz 2 (1 : Rat) := Rz.lit (z := 1) rfl (by decide)
theorem Rz.zero2 : Rz 2 (0 : Rat) := Rz.lit (z := 0) rfl (by decide)
theorem num_s (m n : Int) (hm : m.natAbs < 65536) (hn : n.natAbs < 65536) (h0 : n ≠ 0) : Rz 4 ((m : Rat) / (n : Rat)) :=
 (Rz.lit (z := m) rfl hm).div (Rz.lit (z := n) rfl hn) (fun h => h0 (by
  have h2 : ((n : Int) : Rat) = ((0 : Int) : Rat) := h
  exact Rat.intCast_inj.1 h2))
theorem num_q {m n : Int} {z0 : Rat} {W : World} {l : List Own} (hT : Tab W) (hm : m.natAbs < 65536) (hn : n.natAbs < 65536) (h0 : n ≠ 0) (hz0 : (m : Rat) / (n : Rat) = z0) (w : World) (h : St W l w) : Rt 17 #[.int .i64 m, .int .i64 n] w (.agg (RC z0)) := by
 subst hz0
 have HT := yh (tabS hT h); clear hT h
 have HI := yh (show (-9223372036854775808 ≤ m ∧ m ≤ 9223372036854775807 ∧ -9223372036854775808 ≤ n ∧ n ≤ 9223372036854775807 ∧ n ≠ 0) from ⟨by omega, by omega, by omega, by omega, h0⟩); clear hm hn h0
 go_enter Tryz.func17, Tryz.ntmps17
 have HS : St w [] w := St.start
 go_upto_region 0 with fail
 refine rgT [] HS ?_
 refine aL3 ?_
 intro bk4 _ _ e4
 refine nZ ?_
 refine dn1 bk4 fun _ HS1=>?_
 clear HS
 go_upto_region 1 with fail
 refine rgT [] HS1 ?_
 iterate 2 refine pW ?_
 refine cL (make_q HT.out HI.out.1 HI.out.2.1 HI.out.2.2.1 HI.out.2.2.2.1 HI.out.2.2.2.2 rfl) ?_
 refine pW ?_
 refine pV (.agg (RC ((m : Rat) / (n : Rat)))) (fun w => rfl) ?_
 refine pV (.int .i64 0) (fun w => rfl) ?_
 refine aL3 ?_
 intro bk5 _ _ e5
 refine nZ ?_
 refine sV (RC_one _) ?_
 refine pW ?_
 refine dn1 bk5 fun _ HS2=>?_
 clear HS1
 go_upto_region 2 with fail
 have HPbk4 := HS2.p1
 refine wp_seq_text [] (StR.move (StR.no HPbk4)) ?_
 refine lV ?_
 refine sV (RC_one _) ?_
 refine dn1 bk4 fun _ HS3=>?_
 clear HS2 HPbk4
 go_wp2_with fail
 exact rO HS3 ⟨rfl, HS3.below⟩
end Go.Proofs.YtmchjmflkaiakaaGreatDoor
