/- Joined texts: Sp0 SpL Sp1 Sp2. -/
import Derived.Test.YtmchjmflkaiakaaGreatDoorSpQ
/- Turns: what the functions compute, and how large it is. -/
set_option maxHeartbeats 2000000
set_option maxRecDepth 20000
namespace Go.Proofs.YtmchjmflkaiakaaGreatDoor
open Go.RowKit
set_option linter.unusedVariables false
set_option linter.unusedSimpArgs false
def cosT (h : Bool) (t : Rat) : Rat := if h = true then -1 else (1 - t * t) / (1 + t * t)
def sinT (t : Rat) : Rat := (t + t) / (1 + t * t)
theorem sq_nonneg (t : Rat) : 0 ≤ t * t := by
 rcases rat_tri t 0 with h | h | h
 ·have := mul_lt_r (show 0 < -t by grind) (show 0 < -t by grind); grind
 ·subst h; grind
 ·have := mul_lt_r h h; grind
theorem one_sq (t : Rat) : (1 : Rat) + t * t ≠ 0 := by have := sq_nonneg t; grind
theorem Rz.one2 : Rz 2 (1 : Rat) := Rz.lit (z := 1) rfl (by decide)
theorem Rz.neg1 : Rz 2 (-1 : Rat) := Rz.lit (z := -1) rfl (by decide)
theorem Rz.zero2 : Rz 2 (0 : Rat) := Rz.lit (z := 0) rfl (by decide)
theorem Rz.cosT {k : Nat} {t : Rat} (h : Bool) (ht : Rz k t) : Rz (8 * k + 10) (cosT h t) := by
 unfold Go.Proofs.YtmchjmflkaiakaaGreatDoor.cosT
 split
 ·exact Rz.neg1.more (by omega)
 ·exact ((Rz.one2.sub (ht.mul ht)).div (Rz.one2.add (ht.mul ht)) (one_sq t)).more (by omega)
theorem Rz.sinT {k : Nat} {t : Rat} (ht : Rz k t) : Rz (8 * k + 10) (sinT t) := by
 unfold Go.Proofs.YtmchjmflkaiakaaGreatDoor.sinT
 exact ((ht.add ht).div (Rz.one2.add (ht.mul ht)) (one_sq t)).more (by omega)
theorem mul_cancel {x y d : Rat} (hd : d ≠ 0) (h : x * d = y * d) : x = y := by
 have h1 : x * d / d = y * d / d := by rw [h]
 rwa [Rat.mul_div_cancel hd, Rat.mul_div_cancel hd] at h1
variable {W : World} {l : List Own}
theorem vadd_q {k : Nat} {a1 a2 b1 b2 : Rat} {z0 : Rat} {z1 : Rat} (hT : Tab W) (Za1 : Rz k a1) (Za2 : Rz k a2) (Zb1 : Rz k b1) (Zb2 : Rz k b2)  (hz0 : a1 + b1 = z0) (hz1 : a2 + b2 = z1) (hk : k ≤ 1000000000000) (w : World) (h : St W l w) : Rt 24 #[.agg (VC a1 a2), .agg (VC b1 b2)] w (.agg (VC z0 z1)) := by
 subst hz0
 subst hz1
 have HT := yh (tabS hT h); clear hT h
 have Z_a1 := yh Za1; clear Za1
 have Z_a2 := yh Za2; clear Za2
 have Z_b1 := yh Zb1; clear Zb1
 have Z_b2 := yh Zb2; clear Zb2
 go_enter Tryz.func24, Tryz.ntmps24
 have HS : St w [] w := St.start
 go_upto_region 0 with fail
 refine rgT [] HS ?_
 refine bX (VC a1 a2) ?_
 intro bk2 _ _ e2
 refine nZ ?_
 refine bX (VC b1 b2) ?_
 intro bk3 _ _ e3
 obtain ⟨_, _, e3⟩ := Reg.ne2 e3
 refine nZ ?_
 refine aL6 ?_
 intro bk4 _ _ e4
 obtain ⟨_, _, e4⟩ := Reg.ne2 e4
 obtain ⟨_, _, e4⟩ := Reg.ne2 e4
 refine nZ ?_
 refine dn3 bk2 bk3 bk4 fun _ HS1=>?_
 clear HS
 go_upto_region 1 with fail
 have HPbk4 := HS1.p2
 refine wS [] (Reg.fin.put Reg.fin_no _ _) (StR.move (StR.no HPbk4)) ?_
 refine pU ?_
 refine lA (RC a1) ?_
 refine pU ?_
 refine lA (RC b1) ?_
 refine cX rfl rfl (add_q (k := (1 * k + 0)) HT.out (zm Z_a1) (zm Z_b1) rfl (by omega)) ?_
 refine pU ?_
 refine lA (RC a2) ?_
 refine pU ?_
 refine lA (RC b2) ?_
 refine cX rfl rfl (add_q (k := (1 * k + 0)) HT.out (zm Z_a2) (zm Z_b2) rfl (by omega)) ?_
 refine pV (.agg (VC (a1 + b1) (a2 + b2))) (fun w => bld_Vec rfl rfl rfl w) ?_
 refine sV (VC_one _ _) ?_
 refine dn1 bk4 fun _ HS2=>?_
 clear HS1 HPbk4
 go_wp2_with fail
 exact rO HS2 ⟨rfl, HS2.below⟩
theorem dot_q {k : Nat} {a1 a2 b1 b2 : Rat} {z0 : Rat} (hT : Tab W) (Za1 : Rz k a1) (Za2 : Rz k a2) (Zb1 : Rz k b1) (Zb2 : Rz k b2)  (hz0 : (a1 * b1) + (a2 * b2) = z0) (hk : k ≤ 1000000000000) (w : World) (h : St W l w) : Rt 141 #[.agg (VC a1 a2), .agg (VC b1 b2)] w (.agg (RC z0)) := by
 subst hz0
 have HT := yh (tabS hT h); clear hT h
 have Z_a1 := yh Za1; clear Za1
 have Z_a2 := yh Za2; clear Za2
 have Z_b1 := yh Zb1; clear Zb1
 have Z_b2 := yh Zb2; clear Zb2
 go_enter Tryz.func141, Tryz.ntmps141
 have HS : St w [] w := St.start
 go_upto_region 0 with fail
 refine rgT [] HS ?_
 refine bX (VC a1 a2) ?_
 intro bk2 _ _ e2
 refine nZ ?_
 refine bX (VC b1 b2) ?_
 intro bk3 _ _ e3
 obtain ⟨_, _, e3⟩ := Reg.ne2 e3
 refine nZ ?_
 refine aL3 ?_
 intro bk4 _ _ e4
 obtain ⟨_, _, e4⟩ := Reg.ne2 e4
 obtain ⟨_, _, e4⟩ := Reg.ne2 e4
 refine nZ ?_
 refine dn3 bk2 bk3 bk4 fun _ HS1=>?_
 clear HS
 go_upto_region 1 with fail
 have HPbk4 := HS1.p2
 refine wS [] (Reg.fin.put Reg.fin_no _ _) (StR.move (StR.no HPbk4)) ?_
 refine pU ?_
 refine lA (RC a1) ?_
 refine pU ?_
 refine lA (RC b1) ?_
 refine cX rfl rfl (mul_q (k := (1 * k + 0)) HT.out (zm Z_a1) (zm Z_b1) rfl (by omega)) ?_
 refine pU ?_
 refine lA (RC a2) ?_
 refine pU ?_
 refine lA (RC b2) ?_
 refine cX rfl rfl (mul_q (k := (1 * k + 0)) HT.out (zm Z_a2) (zm Z_b2) rfl (by omega)) ?_
 refine cX rfl rfl (add_q (k := (2 * k + 0)) HT.out ((Z_a1.out.mul Z_b1.out).more (by omega)) ((Z_a2.out.mul Z_b2.out).more (by omega)) rfl (by omega)) ?_
 refine sV (RC_one _) ?_
 refine dn1 bk4 fun _ HS2=>?_
 clear HS1 HPbk4
 go_wp2_with fail
 exact rO HS2 ⟨rfl, HS2.below⟩
theorem vsub_q {k : Nat} {a1 a2 b1 b2 : Rat} {z0 : Rat} {z1 : Rat} (hT : Tab W) (Za1 : Rz k a1) (Za2 : Rz k a2) (Zb1 : Rz k b1) (Zb2 : Rz k b2)  (hz0 : a1 - b1 = z0) (hz1 : a2 - b2 = z1) (hk : k ≤ 1000000000000) (w : World) (h : St W l w) : Rt 116 #[.agg (VC a1 a2), .agg (VC b1 b2)] w (.agg (VC z0 z1)) := by
 subst hz0
 subst hz1
 have HT := yh (tabS hT h); clear hT h
 have Z_a1 := yh Za1; clear Za1
 have Z_a2 := yh Za2; clear Za2
 have Z_b1 := yh Zb1; clear Zb1
 have Z_b2 := yh Zb2; clear Zb2
 go_enter Tryz.func116, Tryz.ntmps116
 have HS : St w [] w := St.start
 go_upto_region 0 with fail
 refine rgT [] HS ?_
 refine bX (VC a1 a2) ?_
 intro bk2 _ _ e2
 refine nZ ?_
 refine bX (VC b1 b2) ?_
 intro bk3 _ _ e3
 obtain ⟨_, _, e3⟩ := Reg.ne2 e3
 refine nZ ?_
 refine aL6 ?_
 intro bk4 _ _ e4
 obtain ⟨_, _, e4⟩ := Reg.ne2 e4
 obtain ⟨_, _, e4⟩ := Reg.ne2 e4
 refine nZ ?_
 refine dn3 bk2 bk3 bk4 fun _ HS1=>?_
 clear HS
 go_upto_region 1 with fail
 have HPbk4 := HS1.p2
 refine wS [] (Reg.fin.put Reg.fin_no _ _) (StR.move (StR.no HPbk4)) ?_
 refine pU ?_
 refine lA (RC a1) ?_
 refine pU ?_
 refine lA (RC b1) ?_
 refine cX rfl rfl (sub_q (k := (1 * k + 0)) HT.out (zm Z_a1) (zm Z_b1) rfl (by omega)) ?_
 refine pU ?_
 refine lA (RC a2) ?_
 refine pU ?_
 refine lA (RC b2) ?_
 refine cX rfl rfl (sub_q (k := (1 * k + 0)) HT.out (zm Z_a2) (zm Z_b2) rfl (by omega)) ?_
 refine pV (.agg (VC (a1 - b1) (a2 - b2))) (fun w => bld_Vec rfl rfl rfl w) ?_
 refine sV (VC_one _ _) ?_
 refine dn1 bk4 fun _ HS2=>?_
 clear HS1 HPbk4
 go_wp2_with fail
 exact rO HS2 ⟨rfl, HS2.below⟩
theorem scale_q {k : Nat} {a1 a2 n : Rat} {z0 : Rat} {z1 : Rat} (hT : Tab W) (Za1 : Rz k a1) (Za2 : Rz k a2) (Zn : Rz k n)  (hz0 : a1 * n = z0) (hz1 : a2 * n = z1) (hk : k ≤ 1000000000000) (w : World) (h : St W l w) : Rt 16 #[.agg (VC a1 a2), .agg (RC n)] w (.agg (VC z0 z1)) := by
 subst hz0
 subst hz1
 have HT := yh (tabS hT h); clear hT h
 have Z_a1 := yh Za1; clear Za1
 have Z_a2 := yh Za2; clear Za2
 have Z_n := yh Zn; clear Zn
 go_enter Tryz.func16, Tryz.ntmps16
 have HS : St w [] w := St.start
 go_upto_region 0 with fail
 refine rgT [] HS ?_
 refine bX (VC a1 a2) ?_
 intro bk2 _ _ e2
 refine nZ ?_
 refine bX (RC n) ?_
 intro bk3 _ _ e3
 obtain ⟨_, _, e3⟩ := Reg.ne2 e3
 refine nZ ?_
 refine aL6 ?_
 intro bk4 _ _ e4
 obtain ⟨_, _, e4⟩ := Reg.ne2 e4
 obtain ⟨_, _, e4⟩ := Reg.ne2 e4
 refine nZ ?_
 refine dn3 bk2 bk3 bk4 fun _ HS1=>?_
 clear HS
 go_upto_region 1 with fail
 have HPbk4 := HS1.p2
 refine wS [] (Reg.fin.put Reg.fin_no _ _) (StR.move (StR.no HPbk4)) ?_
 refine pU ?_
 refine lA (RC a1) ?_
 refine lV ?_
 refine cX rfl rfl (mul_q (k := (1 * k + 0)) HT.out (zm Z_a1) (zm Z_n) rfl (by omega)) ?_
 refine pU ?_
 refine lA (RC a2) ?_
 refine lV ?_
 refine cX rfl rfl (mul_q (k := (1 * k + 0)) HT.out (zm Z_a2) (zm Z_n) rfl (by omega)) ?_
 refine pV (.agg (VC (a1 * n) (a2 * n))) (fun w => bld_Vec rfl rfl rfl w) ?_
 refine sV (VC_one _ _) ?_
 refine dn1 bk4 fun _ HS2=>?_
 clear HS1 HPbk4
 go_wp2_with fail
 exact rO HS2 ⟨rfl, HS2.below⟩
theorem cross_q {k : Nat} {a1 a2 b1 b2 : Rat} {z0 : Rat} (hT : Tab W) (Za1 : Rz k a1) (Za2 : Rz k a2) (Zb1 : Rz k b1) (Zb2 : Rz k b2)  (hz0 : (a1 * b2) - (a2 * b1) = z0) (hk : k ≤ 1000000000000) (w : World) (h : St W l w) : Rt 101 #[.agg (VC a1 a2), .agg (VC b1 b2)] w (.agg (RC z0)) := by
 subst hz0
 have HT := yh (tabS hT h); clear hT h
 have Z_a1 := yh Za1; clear Za1
 have Z_a2 := yh Za2; clear Za2
 have Z_b1 := yh Zb1; clear Zb1
 have Z_b2 := yh Zb2; clear Zb2
 go_enter Tryz.func101, Tryz.ntmps101
 have HS : St w [] w := St.start
 go_upto_region 0 with fail
 refine rgT [] HS ?_
 refine bX (VC a1 a2) ?_
 intro bk2 _ _ e2
 refine nZ ?_
 refine bX (VC b1 b2) ?_
 intro bk3 _ _ e3
 obtain ⟨_, _, e3⟩ := Reg.ne2 e3
 refine nZ ?_
 refine aL3 ?_
 intro bk4 _ _ e4
 obtain ⟨_, _, e4⟩ := Reg.ne2 e4
 obtain ⟨_, _, e4⟩ := Reg.ne2 e4
 refine nZ ?_
 refine dn3 bk2 bk3 bk4 fun _ HS1=>?_
 clear HS
 go_upto_region 1 with fail
 have HPbk4 := HS1.p2
 refine wS [] (Reg.fin.put Reg.fin_no _ _) (StR.move (StR.no HPbk4)) ?_
 refine pU ?_
 refine lA (RC a1) ?_
 refine pU ?_
 refine lA (RC b2) ?_
 refine cX rfl rfl (mul_q (k := (1 * k + 0)) HT.out (zm Z_a1) (zm Z_b2) rfl (by omega)) ?_
 refine pU ?_
 refine lA (RC a2) ?_
 refine pU ?_
 refine lA (RC b1) ?_
 refine cX rfl rfl (mul_q (k := (1 * k + 0)) HT.out (zm Z_a2) (zm Z_b1) rfl (by omega)) ?_
 refine cX rfl rfl (sub_q (k := (2 * k + 0)) HT.out ((Z_a1.out.mul Z_b2.out).more (by omega)) ((Z_a2.out.mul Z_b1.out).more (by omega)) rfl (by omega)) ?_
 refine sV (RC_one _) ?_
 refine dn1 bk4 fun _ HS2=>?_
 clear HS1 HPbk4
 go_wp2_with fail
 exact rO HS2 ⟨rfl, HS2.below⟩
theorem num_s (m n : Int) (hm : m.natAbs < 65536) (hn : n.natAbs < 65536) (h0 : n ≠ 0) : Rz 4 ((m : Rat) / (n : Rat)) :=
 (Rz.lit (z := m) rfl hm).div (Rz.lit (z := n) rfl hn) (fun h => h0 (by
  have h2 : ((n : Int) : Rat) = ((0 : Int) : Rat) := h
  exact Rat.intCast_inj.1 h2))
end Go.Proofs.YtmchjmflkaiakaaGreatDoor
