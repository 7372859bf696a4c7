/- Joined texts: Sp0 SpL Sp1 Sp2. -/
import Derived.Test.YtmchjmflkaiakaaGreatDoorSpQ
/- Turns: what the functions compute, and how large it is. -/
namespace Go.Proofs.YtmchjmflkaiakaaGreatDoor
open Go.RowKit
set_option linter.unusedVariables false
set_option linter.unusedSimpArgs false
theorem sq_nonneg (t : Rat) : 0 ≤ t * t := by
 rcases rat_tri t 0 with h | h | h
 ·have := mul_lt_r (show 0 < -t by grind) (show 0 < -t by grind); grind
 ·subst h; grind
 ·have := mul_lt_r h h; grind
theorem Rz.one2 : Rz 2 (1 : Rat) := Rz.lit (z := 1) rfl (by decide)
theorem Rz.zero2 : Rz 2 (0 : Rat) := Rz.lit (z := 0) rfl (by decide)
theorem mul_cancel {x y d : Rat} (hd : d ≠ 0) (h : x * d = y * d) : x = y := by
 have h1 : x * d / d = y * d / d := by rw [h]
 rwa [Rat.mul_div_cancel hd, Rat.mul_div_cancel hd] at h1
set_option maxHeartbeats 2000000
set_option maxRecDepth 20000
variable {W : World} {l : List Own}
theorem vadd_q {k : Nat} {a1 a2 b1 b2 : Rat} {z0 : Rat} {z1 : Rat} (hT : Tab W) (Za1 : Rz k a1) (Za2 : Rz k a2) (Zb1 : Rz k b1) (Zb2 : Rz k b2)  (hz0 : a1 + b1 = z0) (hz1 : a2 + b2 = z1) (hk : k ≤ 1000000000000) (w : World) (h : St W l w) :
  Calls Tryz.prog 24 #[.agg (VC a1 a2), .agg (VC b1 b2)] w fun e w' => e = .returned (.agg (VC z0 z1)) ∧ Below w.heap.size w w' := by
 subst hz0
 subst hz1
 have HT := Lib.hid (tabS hT h); clear hT h
 have Z_a1 := Lib.hid Za1; clear Za1
 have Z_a2 := Lib.hid Za2; clear Za2
 have Z_b1 := Lib.hid Zb1; clear Zb1
 have Z_b2 := Lib.hid Zb2; clear Zb2
 go_enter Tryz.func24, Tryz.ntmps24
 have HS : St w [] w := St.start
 go_upto_region 0 with fail
 refine rgT [] HS ?_
 refine bX (VC a1 a2) ?_
 intro bk2 _ _ hbk2_r
 refine nZ ?_
 refine bX (VC b1 b2) ?_
 intro bk3 _ _ hbk3_r
 obtain ⟨_, _, hbk3_r⟩ := Reg.ne2 hbk3_r
 refine nZ ?_
 refine aL6 ?_
 intro bk4 _ _ hbk4_r
 obtain ⟨_, _, hbk4_r⟩ := Reg.ne2 hbk4_r
 obtain ⟨_, _, hbk4_r⟩ := Reg.ne2 hbk4_r
 refine nZ ?_
 refine Seq.done fun ws1 hws => ?_
 have HS1 := hws.q3 (p := bk2) (q := bk3) (r := bk4)
 clear HS hws
 go_upto_region 1 with fail
 have HPbk4 := HS1.p2
 refine wS [] (Reg.fin.put Reg.fin_no _ _) (StR.move (StR.no HPbk4)) ?_
 refine pU ?_
 refine lA (RC a1) ?_
 refine pU ?_
 refine lA (RC b1) ?_
 refine cX rfl rfl (add_q (k := (1 * k + 0)) HT.out (Z_a1.out.more (by omega)) (Z_b1.out.more (by omega)) rfl (by omega)) ?_
 refine pU ?_
 refine lA (RC a2) ?_
 refine pU ?_
 refine lA (RC b2) ?_
 refine cX rfl rfl (add_q (k := (1 * k + 0)) HT.out (Z_a2.out.more (by omega)) (Z_b2.out.more (by omega)) rfl (by omega)) ?_
 refine pV (.agg (VC (a1 + b1) (a2 + b2))) (fun w => bld_Vec rfl rfl rfl w) ?_
 refine sV (VC_one _ _) ?_
 refine d1 bk4 fun _ HS2=>?_
 clear HS1 HPbk4
 go_wp2_with fail
 exact rO HS2 ⟨rfl, HS2.below⟩
theorem vsub_q {k : Nat} {a1 a2 b1 b2 : Rat} {z0 : Rat} {z1 : Rat} (hT : Tab W) (Za1 : Rz k a1) (Za2 : Rz k a2) (Zb1 : Rz k b1) (Zb2 : Rz k b2)  (hz0 : a1 - b1 = z0) (hz1 : a2 - b2 = z1) (hk : k ≤ 1000000000000) (w : World) (h : St W l w) :
  Calls Tryz.prog 116 #[.agg (VC a1 a2), .agg (VC b1 b2)] w fun e w' => e = .returned (.agg (VC z0 z1)) ∧ Below w.heap.size w w' := by
 subst hz0
 subst hz1
 have HT := Lib.hid (tabS hT h); clear hT h
 have Z_a1 := Lib.hid Za1; clear Za1
 have Z_a2 := Lib.hid Za2; clear Za2
 have Z_b1 := Lib.hid Zb1; clear Zb1
 have Z_b2 := Lib.hid Zb2; clear Zb2
 go_enter Tryz.func116, Tryz.ntmps116
 have HS : St w [] w := St.start
 go_upto_region 0 with fail
 refine rgT [] HS ?_
 refine bX (VC a1 a2) ?_
 intro bk2 _ _ hbk2_r
 refine nZ ?_
 refine bX (VC b1 b2) ?_
 intro bk3 _ _ hbk3_r
 obtain ⟨_, _, hbk3_r⟩ := Reg.ne2 hbk3_r
 refine nZ ?_
 refine aL6 ?_
 intro bk4 _ _ hbk4_r
 obtain ⟨_, _, hbk4_r⟩ := Reg.ne2 hbk4_r
 obtain ⟨_, _, hbk4_r⟩ := Reg.ne2 hbk4_r
 refine nZ ?_
 refine Seq.done fun ws1 hws => ?_
 have HS1 := hws.q3 (p := bk2) (q := bk3) (r := bk4)
 clear HS hws
 go_upto_region 1 with fail
 have HPbk4 := HS1.p2
 refine wS [] (Reg.fin.put Reg.fin_no _ _) (StR.move (StR.no HPbk4)) ?_
 refine pU ?_
 refine lA (RC a1) ?_
 refine pU ?_
 refine lA (RC b1) ?_
 refine cX rfl rfl (sub_q (k := (1 * k + 0)) HT.out (Z_a1.out.more (by omega)) (Z_b1.out.more (by omega)) rfl (by omega)) ?_
 refine pU ?_
 refine lA (RC a2) ?_
 refine pU ?_
 refine lA (RC b2) ?_
 refine cX rfl rfl (sub_q (k := (1 * k + 0)) HT.out (Z_a2.out.more (by omega)) (Z_b2.out.more (by omega)) rfl (by omega)) ?_
 refine pV (.agg (VC (a1 - b1) (a2 - b2))) (fun w => bld_Vec rfl rfl rfl w) ?_
 refine sV (VC_one _ _) ?_
 refine d1 bk4 fun _ HS2=>?_
 clear HS1 HPbk4
 go_wp2_with fail
 exact rO HS2 ⟨rfl, HS2.below⟩
theorem cross_q {k : Nat} {a1 a2 b1 b2 : Rat} {z0 : Rat} (hT : Tab W) (Za1 : Rz k a1) (Za2 : Rz k a2) (Zb1 : Rz k b1) (Zb2 : Rz k b2)  (hz0 : (a1 * b2) - (a2 * b1) = z0) (hk : k ≤ 1000000000000) (w : World) (h : St W l w) :
  Calls Tryz.prog 101 #[.agg (VC a1 a2), .agg (VC b1 b2)] w fun e w' => e = .returned (.agg (RC z0)) ∧ Below w.heap.size w w' := by
 subst hz0
 have HT := Lib.hid (tabS hT h); clear hT h
 have Z_a1 := Lib.hid Za1; clear Za1
 have Z_a2 := Lib.hid Za2; clear Za2
 have Z_b1 := Lib.hid Zb1; clear Zb1
 have Z_b2 := Lib.hid Zb2; clear Zb2
 go_enter Tryz.func101, Tryz.ntmps101
 have HS : St w [] w := St.start
 go_upto_region 0 with fail
 refine rgT [] HS ?_
 refine bX (VC a1 a2) ?_
 intro bk2 _ _ hbk2_r
 refine nZ ?_
 refine bX (VC b1 b2) ?_
 intro bk3 _ _ hbk3_r
 obtain ⟨_, _, hbk3_r⟩ := Reg.ne2 hbk3_r
 refine nZ ?_
 refine aL3 ?_
 intro bk4 _ _ hbk4_r
 obtain ⟨_, _, hbk4_r⟩ := Reg.ne2 hbk4_r
 obtain ⟨_, _, hbk4_r⟩ := Reg.ne2 hbk4_r
 refine nZ ?_
 refine Seq.done fun ws1 hws => ?_
 have HS1 := hws.q3 (p := bk2) (q := bk3) (r := bk4)
 clear HS hws
 go_upto_region 1 with fail
 have HPbk4 := HS1.p2
 refine wS [] (Reg.fin.put Reg.fin_no _ _) (StR.move (StR.no HPbk4)) ?_
 refine pU ?_
 refine lA (RC a1) ?_
 refine pU ?_
 refine lA (RC b2) ?_
 refine cX rfl rfl (mul_q (k := (1 * k + 0)) HT.out (Z_a1.out.more (by omega)) (Z_b2.out.more (by omega)) rfl (by omega)) ?_
 refine pU ?_
 refine lA (RC a2) ?_
 refine pU ?_
 refine lA (RC b1) ?_
 refine cX rfl rfl (mul_q (k := (1 * k + 0)) HT.out (Z_a2.out.more (by omega)) (Z_b1.out.more (by omega)) rfl (by omega)) ?_
 refine cX rfl rfl (sub_q (k := (2 * k + 0)) HT.out ((Z_a1.out.mul Z_b2.out).more (by omega)) ((Z_a2.out.mul Z_b1.out).more (by omega)) rfl (by omega)) ?_
 refine sV (RC_one _) ?_
 refine d1 bk4 fun _ HS2=>?_
 clear HS1 HPbk4
 go_wp2_with fail
 exact rO HS2 ⟨rfl, HS2.below⟩
theorem num_s (m n : Int) (hm : m.natAbs < 65536) (hn : n.natAbs < 65536) (h0 : n ≠ 0) : Rz 4 ((m : Rat) / (n : Rat)) :=
 (Rz.lit (z := m) rfl hm).div (Rz.lit (z := n) rfl hn) (fun h => h0 (by
  have h2 : ((n : Int) : Rat) = ((0 : Int) : Rat) := h
  exact Rat.intCast_inj.1 h2))
end Go.Proofs.YtmchjmflkaiakaaGreatDoor
