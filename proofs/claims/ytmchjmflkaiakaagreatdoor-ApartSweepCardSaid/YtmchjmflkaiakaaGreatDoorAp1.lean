/- Joined texts: Ap1 Ap2 Ap3 Ap4. -/
import Derived.Test.YtmchjmflkaiakaaGreatDoorPo6
import Derived.Test.YtmchjmflkaiakaaGreatDoorPoW
import Derived.Deep.LoopGhost
/- package apart: toEdge, near (printed by lawvec.py). -/
set_option maxHeartbeats 2000000
set_option maxRecDepth 20000
namespace Go.Proofs.YtmchjmflkaiakaaGreatDoor
open Go.RowKit
set_option linter.unusedVariables false
set_option linter.unusedSimpArgs false
variable {W : World} {l : List Own}
theorem te_0 {k : Nat} {p1 p2 a1 a2 b1 b2 : Rat} (hT : Tab W) (Zp1 : Rz k p1) (Zp2 : Rz k p2) (Za1 : Rz k a1) (Za2 : Rz k a2) (Zb1 : Rz k b1) (Zb2 : Rz k b2) (h1 : (p1 - a1) * (b1 - a1) + (p2 - a2) * (b2 - a2) ≤ 0) (hk : k ≤ 1000000000) (w : World) (h : St W l w) : Rt 140 #[.agg (VC p1 p2), .agg (VC a1 a2), .agg (VC b1 b2)] w (.agg (RC ((p1 - a1) * (p1 - a1) + (p2 - a2) * (p2 - a2)))) := by
 have HT := yh (tabS hT h); clear hT h
 have Z_p1 := yh Zp1; clear Zp1
 have Z_p2 := yh Zp2; clear Zp2
 have Z_a1 := yh Za1; clear Za1
 have Z_a2 := yh Za2; clear Za2
 have Z_b1 := yh Zb1; clear Zb1
 have Z_b2 := yh Zb2; clear Zb2
 obtain ⟨sv, hsv, hs0⟩ : ∃ v, sgnQ ((p1 - a1) * (b1 - a1) + (p2 - a2) * (b2 - a2)) = v ∧ decide (v ≤ 0) = true := ⟨_, rfl, decide_eq_true (sgn_le.2 h1)⟩
 have HSV := yh hsv; clear hsv
 clear h1
 go_enter Tryz.func140, Tryz.ntmps140
 have HS : St w [] w := St.start
 go_upto_region 0 with fail
 refine rgT [] HS ?_
 refine bX (VC p1 p2) ?_
 intro bk3 _ _ e3
 refine nZ ?_
 refine bX (VC a1 a2) ?_
 intro bk4 _ _ e4
 obtain ⟨_, _, e4⟩ := Reg.ne2 e4
 refine nZ ?_
 refine bX (VC b1 b2) ?_
 intro bk5 _ _ e5
 obtain ⟨_, _, e5⟩ := Reg.ne2 e5
 obtain ⟨_, _, e5⟩ := Reg.ne2 e5
 refine nZ ?_
 refine aL3 ?_
 intro bk6 _ _ e6
 obtain ⟨_, _, e6⟩ := Reg.ne2 e6
 obtain ⟨_, _, e6⟩ := Reg.ne2 e6
 obtain ⟨_, _, e6⟩ := Reg.ne2 e6
 refine nZ ?_
 refine Seq.done fun ws1 hws => ?_
 have HS1 : St w [(bk3, 29, VC p1 p2), (bk4, 29, VC a1 a2), (bk5, 29, VC b1 b2), (bk6, 27, #[.bool false, .string ⟨#[]⟩, .string ⟨#[]⟩])] ws1 := hws.listN [(bk3, 29, VC p1 p2), (bk4, 29, VC a1 a2), (bk5, 29, VC b1 b2), (bk6, 27, #[.bool false, .string ⟨#[]⟩, .string ⟨#[]⟩])] (by simp [*]) (by intro e he; simp only [List.mem_cons, List.not_mem_nil, or_false] at he; rcases he with rfl | rfl | rfl | rfl <;> first | exact Reg.put_same _ _ _ | simp [Reg.put, *])
 clear HS hws
 go_upto_region 1 with fail
 refine rgW [] HS1 ?_
 iterate 2 refine lV ?_
 refine cX rfl rfl (vsub_q (k := (1 * k + 0)) HT.out (zm Z_b1) (zm Z_b2) (zm Z_a1) (zm Z_a2)  rfl rfl (by omega)) ?_
 iterate 2 refine lV ?_
 refine cX rfl rfl (vsub_q (k := (1 * k + 0)) HT.out (zm Z_p1) (zm Z_p2) (zm Z_a1) (zm Z_a2)  rfl rfl (by omega)) ?_
 refine aL6 ?_
 intro bk7 _ _ e7
 refine nZ ?_
 refine aL6 ?_
 intro bk8 _ _ e8
 obtain ⟨_, _, e8⟩ := Reg.ne2 e8
 refine nZ ?_
 refine sV (VC_one _ _) ?_
 refine sV (VC_one _ _) ?_
 refine dn2 bk7 bk8 fun _ HS2=>?_
 clear HS1
 go_upto_region 2 with fail
 refine rgT [] HS2 ?_
 iterate 2 refine lV ?_
 refine cX rfl rfl (dot_q (k := (4 * k + 1)) HT.out ((Z_p1.out.sub Z_a1.out).more (by omega)) ((Z_p2.out.sub Z_a2.out).more (by omega)) ((Z_b1.out.sub Z_a1.out).more (by omega)) ((Z_b2.out.sub Z_a2.out).more (by omega))  rfl (by omega)) ?_
 refine aL3 ?_
 intro bk9 _ _ e9
 refine nZ ?_
 refine sV (RC_one _) ?_
 refine dn1 bk9 fun _ HS3=>?_
 clear HS2
 go_upto_region 3 with fail
 refine rgT [] HS3 ?_
 iterate 2 refine lV ?_
 refine cX rfl rfl (dot_q (k := (4 * k + 1)) HT.out ((Z_b1.out.sub Z_a1.out).more (by omega)) ((Z_b2.out.sub Z_a2.out).more (by omega)) ((Z_b1.out.sub Z_a1.out).more (by omega)) ((Z_b2.out.sub Z_a2.out).more (by omega))  rfl (by omega)) ?_
 refine aL3 ?_
 intro bk10 _ _ e10
 refine nZ ?_
 refine sV (RC_one _) ?_
 refine dn1 bk10 fun _ HS4=>?_
 clear HS3
 go_upto_region 4 with fail
 refine rgT [] HS4 ?_
 refine lV ?_
 refine cX rfl rfl (sign_q (k := (32 * k + 9)) HT.out ((((Z_p1.out.sub Z_a1.out).mul (Z_b1.out.sub Z_a1.out)).add ((Z_p2.out.sub Z_a2.out).mul (Z_b2.out.sub Z_a2.out))).more (by omega)) HSV.out (by omega)) ?_
 iterate 2 refine pU ?_
 refine dnS fun _ HS5=>?_
 clear HS4
 go_upto_region 5 with fail
 have HPbk6 := HS5.p7
 refine wp_seq_text [] (StR.move (StR.no HPbk6)) ?_
 iterate 2 refine lV ?_
 refine cX rfl rfl (dot_q (k := (4 * k + 1)) HT.out ((Z_p1.out.sub Z_a1.out).more (by omega)) ((Z_p2.out.sub Z_a2.out).more (by omega)) ((Z_p1.out.sub Z_a1.out).more (by omega)) ((Z_p2.out.sub Z_a2.out).more (by omega))  rfl (by omega)) ?_
 refine sV (RC_one _) ?_
 refine dn1 bk6 fun _ HS6=>?_
 clear HS5 HPbk6
 go_wp2_with fail
 exact rO HS6 ⟨rfl, HS6.below⟩
theorem te_1 {k : Nat} {p1 p2 a1 a2 b1 b2 : Rat} (hT : Tab W) (Zp1 : Rz k p1) (Zp2 : Rz k p2) (Za1 : Rz k a1) (Za2 : Rz k a2) (Zb1 : Rz k b1) (Zb2 : Rz k b2) (h1 : ¬ (p1 - a1) * (b1 - a1) + (p2 - a2) * (b2 - a2) ≤ 0) (h2 : (b1 - a1) * (b1 - a1) + (b2 - a2) * (b2 - a2) ≤ (p1 - a1) * (b1 - a1) + (p2 - a2) * (b2 - a2)) (hk : k ≤ 1000000000) (w : World) (h : St W l w) : Rt 140 #[.agg (VC p1 p2), .agg (VC a1 a2), .agg (VC b1 b2)] w (.agg (RC ((p1 - b1) * (p1 - b1) + (p2 - b2) * (p2 - b2)))) := by
 have HT := yh (tabS hT h); clear hT h
 have Z_p1 := yh Zp1; clear Zp1
 have Z_p2 := yh Zp2; clear Zp2
 have Z_a1 := yh Za1; clear Za1
 have Z_a2 := yh Za2; clear Za2
 have Z_b1 := yh Zb1; clear Zb1
 have Z_b2 := yh Zb2; clear Zb2
 obtain ⟨sv, hsv, hs0⟩ : ∃ v, sgnQ ((p1 - a1) * (b1 - a1) + (p2 - a2) * (b2 - a2)) = v ∧ decide (v ≤ 0) = false := ⟨_, rfl, decide_eq_false (fun c => h1 (sgn_le.1 c))⟩
 have HSV := yh hsv; clear hsv
 obtain ⟨cv, hcv, hc0⟩ : ∃ v, cmpQ ((p1 - a1) * (b1 - a1) + (p2 - a2) * (b2 - a2)) ((b1 - a1) * (b1 - a1) + (b2 - a2) * (b2 - a2)) = v ∧ decide (0 ≤ v) = true := ⟨_, rfl, decide_eq_true (cmp_le_iff.2 h2)⟩
 have HCV := yh hcv; clear hcv
 clear h1 h2
 go_enter Tryz.func140, Tryz.ntmps140
 have HS : St w [] w := St.start
 go_upto_region 0 with fail
 refine rgT [] HS ?_
 refine bX (VC p1 p2) ?_
 intro bk3 _ _ e3
 refine nZ ?_
 refine bX (VC a1 a2) ?_
 intro bk4 _ _ e4
 obtain ⟨_, _, e4⟩ := Reg.ne2 e4
 refine nZ ?_
 refine bX (VC b1 b2) ?_
 intro bk5 _ _ e5
 obtain ⟨_, _, e5⟩ := Reg.ne2 e5
 obtain ⟨_, _, e5⟩ := Reg.ne2 e5
 refine nZ ?_
 refine aL3 ?_
 intro bk6 _ _ e6
 obtain ⟨_, _, e6⟩ := Reg.ne2 e6
 obtain ⟨_, _, e6⟩ := Reg.ne2 e6
 obtain ⟨_, _, e6⟩ := Reg.ne2 e6
 refine nZ ?_
 refine Seq.done fun ws1 hws => ?_
 have HS1 : St w [(bk3, 29, VC p1 p2), (bk4, 29, VC a1 a2), (bk5, 29, VC b1 b2), (bk6, 27, #[.bool false, .string ⟨#[]⟩, .string ⟨#[]⟩])] ws1 := hws.listN [(bk3, 29, VC p1 p2), (bk4, 29, VC a1 a2), (bk5, 29, VC b1 b2), (bk6, 27, #[.bool false, .string ⟨#[]⟩, .string ⟨#[]⟩])] (by simp [*]) (by intro e he; simp only [List.mem_cons, List.not_mem_nil, or_false] at he; rcases he with rfl | rfl | rfl | rfl <;> first | exact Reg.put_same _ _ _ | simp [Reg.put, *])
 clear HS hws
 go_upto_region 1 with fail
 refine rgW [] HS1 ?_
 iterate 2 refine lV ?_
 refine cX rfl rfl (vsub_q (k := (1 * k + 0)) HT.out (zm Z_b1) (zm Z_b2) (zm Z_a1) (zm Z_a2)  rfl rfl (by omega)) ?_
 iterate 2 refine lV ?_
 refine cX rfl rfl (vsub_q (k := (1 * k + 0)) HT.out (zm Z_p1) (zm Z_p2) (zm Z_a1) (zm Z_a2)  rfl rfl (by omega)) ?_
 refine aL6 ?_
 intro bk7 _ _ e7
 refine nZ ?_
 refine aL6 ?_
 intro bk8 _ _ e8
 obtain ⟨_, _, e8⟩ := Reg.ne2 e8
 refine nZ ?_
 refine sV (VC_one _ _) ?_
 refine sV (VC_one _ _) ?_
 refine dn2 bk7 bk8 fun _ HS2=>?_
 clear HS1
 go_upto_region 2 with fail
 refine rgT [] HS2 ?_
 iterate 2 refine lV ?_
 refine cX rfl rfl (dot_q (k := (4 * k + 1)) HT.out ((Z_p1.out.sub Z_a1.out).more (by omega)) ((Z_p2.out.sub Z_a2.out).more (by omega)) ((Z_b1.out.sub Z_a1.out).more (by omega)) ((Z_b2.out.sub Z_a2.out).more (by omega))  rfl (by omega)) ?_
 refine aL3 ?_
 intro bk9 _ _ e9
 refine nZ ?_
 refine sV (RC_one _) ?_
 refine dn1 bk9 fun _ HS3=>?_
 clear HS2
 go_upto_region 3 with fail
 refine rgT [] HS3 ?_
 iterate 2 refine lV ?_
 refine cX rfl rfl (dot_q (k := (4 * k + 1)) HT.out ((Z_b1.out.sub Z_a1.out).more (by omega)) ((Z_b2.out.sub Z_a2.out).more (by omega)) ((Z_b1.out.sub Z_a1.out).more (by omega)) ((Z_b2.out.sub Z_a2.out).more (by omega))  rfl (by omega)) ?_
 refine aL3 ?_
 intro bk10 _ _ e10
 refine nZ ?_
 refine sV (RC_one _) ?_
 refine dn1 bk10 fun _ HS4=>?_
 clear HS3
 go_upto_region 4 with fail
 refine rgT [] HS4 ?_
 refine lV ?_
 refine cX rfl rfl (sign_q (k := (32 * k + 9)) HT.out ((((Z_p1.out.sub Z_a1.out).mul (Z_b1.out.sub Z_a1.out)).add ((Z_p2.out.sub Z_a2.out).mul (Z_b2.out.sub Z_a2.out))).more (by omega)) HSV.out (by omega)) ?_
 iterate 2 refine pU ?_
 refine dnS fun _ HS5=>?_
 clear HS4
 go_upto_region 6 with fail
 refine rgT [] HS5 ?_
 iterate 2 refine lV ?_
 refine cX rfl rfl (cmp_q (k := (32 * k + 9)) HT.out ((((Z_p1.out.sub Z_a1.out).mul (Z_b1.out.sub Z_a1.out)).add ((Z_p2.out.sub Z_a2.out).mul (Z_b2.out.sub Z_a2.out))).more (by omega)) ((((Z_b1.out.sub Z_a1.out).mul (Z_b1.out.sub Z_a1.out)).add ((Z_b2.out.sub Z_a2.out).mul (Z_b2.out.sub Z_a2.out))).more (by omega)) HCV.out (by omega)) ?_
 iterate 2 refine pU ?_
 refine dnS fun _ HS6=>?_
 clear HS5
 go_upto_region 7 with fail
 refine rgT [] HS6 ?_
 iterate 2 refine lV ?_
 refine cX rfl rfl (vsub_q (k := (1 * k + 0)) HT.out (zm Z_p1) (zm Z_p2) (zm Z_b1) (zm Z_b2)  rfl rfl (by omega)) ?_
 refine aL6 ?_
 intro bk11 _ _ e11
 refine nZ ?_
 refine sV (VC_one _ _) ?_
 refine dn1 bk11 fun _ HS7=>?_
 clear HS6
 go_upto_region 8 with fail
 have HPbk6 := HS7.p8
 refine wp_seq_text [] (StR.move (StR.no HPbk6)) ?_
 iterate 2 refine lV ?_
 refine cX rfl rfl (dot_q (k := (4 * k + 1)) HT.out ((Z_p1.out.sub Z_b1.out).more (by omega)) ((Z_p2.out.sub Z_b2.out).more (by omega)) ((Z_p1.out.sub Z_b1.out).more (by omega)) ((Z_p2.out.sub Z_b2.out).more (by omega))  rfl (by omega)) ?_
 refine sV (RC_one _) ?_
 refine dn1 bk6 fun _ HS8=>?_
 clear HS7 HPbk6
 go_wp2_with fail
 exact rO HS8 ⟨rfl, HS8.below⟩
theorem te_2 {k : Nat} {p1 p2 a1 a2 b1 b2 : Rat} (hT : Tab W) (Zp1 : Rz k p1) (Zp2 : Rz k p2) (Za1 : Rz k a1) (Za2 : Rz k a2) (Zb1 : Rz k b1) (Zb2 : Rz k b2) (h1 : ¬ (p1 - a1) * (b1 - a1) + (p2 - a2) * (b2 - a2) ≤ 0) (h2 : ¬ (b1 - a1) * (b1 - a1) + (b2 - a2) * (b2 - a2) ≤ (p1 - a1) * (b1 - a1) + (p2 - a2) * (b2 - a2)) (hk : k ≤ 1000000000) (w : World) (h : St W l w) : Rt 140 #[.agg (VC p1 p2), .agg (VC a1 a2), .agg (VC b1 b2)] w (.agg (RC ((((b1 - a1) * (p2 - a2) - (b2 - a2) * (p1 - a1)) * ((b1 - a1) * (p2 - a2) - (b2 - a2) * (p1 - a1))) / ((b1 - a1) * (b1 - a1) + (b2 - a2) * (b2 - a2))))) := by
 have HT := yh (tabS hT h); clear hT h
 have Z_p1 := yh Zp1; clear Zp1
 have Z_p2 := yh Zp2; clear Zp2
 have Z_a1 := yh Za1; clear Za1
 have Z_a2 := yh Za2; clear Za2
 have Z_b1 := yh Zb1; clear Zb1
 have Z_b2 := yh Zb2; clear Zb2
 obtain ⟨sv, hsv, hs0⟩ : ∃ v, sgnQ ((p1 - a1) * (b1 - a1) + (p2 - a2) * (b2 - a2)) = v ∧ decide (v ≤ 0) = false := ⟨_, rfl, decide_eq_false (fun c => h1 (sgn_le.1 c))⟩
 have HSV := yh hsv; clear hsv
 obtain ⟨cv, hcv, hc0⟩ : ∃ v, cmpQ ((p1 - a1) * (b1 - a1) + (p2 - a2) * (b2 - a2)) ((b1 - a1) * (b1 - a1) + (b2 - a2) * (b2 - a2)) = v ∧ decide (0 ≤ v) = false := ⟨_, rfl, decide_eq_false (fun c => h2 (cmp_le_iff.1 c))⟩
 have HCV := yh hcv; clear hcv
 have HNE := yh (show (b1 - a1) * (b1 - a1) + (b2 - a2) * (b2 - a2) ≠ 0 from fun c => h2 (by rw [c]; grind))
 clear h1 h2
 go_enter Tryz.func140, Tryz.ntmps140
 have HS : St w [] w := St.start
 go_upto_region 0 with fail
 refine rgT [] HS ?_
 refine bX (VC p1 p2) ?_
 intro bk3 _ _ e3
 refine nZ ?_
 refine bX (VC a1 a2) ?_
 intro bk4 _ _ e4
 obtain ⟨_, _, e4⟩ := Reg.ne2 e4
 refine nZ ?_
 refine bX (VC b1 b2) ?_
 intro bk5 _ _ e5
 obtain ⟨_, _, e5⟩ := Reg.ne2 e5
 obtain ⟨_, _, e5⟩ := Reg.ne2 e5
 refine nZ ?_
 refine aL3 ?_
 intro bk6 _ _ e6
 obtain ⟨_, _, e6⟩ := Reg.ne2 e6
 obtain ⟨_, _, e6⟩ := Reg.ne2 e6
 obtain ⟨_, _, e6⟩ := Reg.ne2 e6
 refine nZ ?_
 refine Seq.done fun ws1 hws => ?_
 have HS1 : St w [(bk3, 29, VC p1 p2), (bk4, 29, VC a1 a2), (bk5, 29, VC b1 b2), (bk6, 27, #[.bool false, .string ⟨#[]⟩, .string ⟨#[]⟩])] ws1 := hws.listN [(bk3, 29, VC p1 p2), (bk4, 29, VC a1 a2), (bk5, 29, VC b1 b2), (bk6, 27, #[.bool false, .string ⟨#[]⟩, .string ⟨#[]⟩])] (by simp [*]) (by intro e he; simp only [List.mem_cons, List.not_mem_nil, or_false] at he; rcases he with rfl | rfl | rfl | rfl <;> first | exact Reg.put_same _ _ _ | simp [Reg.put, *])
 clear HS hws
 go_upto_region 1 with fail
 refine rgW [] HS1 ?_
 iterate 2 refine lV ?_
 refine cX rfl rfl (vsub_q (k := (1 * k + 0)) HT.out (zm Z_b1) (zm Z_b2) (zm Z_a1) (zm Z_a2)  rfl rfl (by omega)) ?_
 iterate 2 refine lV ?_
 refine cX rfl rfl (vsub_q (k := (1 * k + 0)) HT.out (zm Z_p1) (zm Z_p2) (zm Z_a1) (zm Z_a2)  rfl rfl (by omega)) ?_
 refine aL6 ?_
 intro bk7 _ _ e7
 refine nZ ?_
 refine aL6 ?_
 intro bk8 _ _ e8
 obtain ⟨_, _, e8⟩ := Reg.ne2 e8
 refine nZ ?_
 refine sV (VC_one _ _) ?_
 refine sV (VC_one _ _) ?_
 refine dn2 bk7 bk8 fun _ HS2=>?_
 clear HS1
 go_upto_region 2 with fail
 refine rgT [] HS2 ?_
 iterate 2 refine lV ?_
 refine cX rfl rfl (dot_q (k := (4 * k + 1)) HT.out ((Z_p1.out.sub Z_a1.out).more (by omega)) ((Z_p2.out.sub Z_a2.out).more (by omega)) ((Z_b1.out.sub Z_a1.out).more (by omega)) ((Z_b2.out.sub Z_a2.out).more (by omega))  rfl (by omega)) ?_
 refine aL3 ?_
 intro bk9 _ _ e9
 refine nZ ?_
 refine sV (RC_one _) ?_
 refine dn1 bk9 fun _ HS3=>?_
 clear HS2
 go_upto_region 3 with fail
 refine rgT [] HS3 ?_
 iterate 2 refine lV ?_
 refine cX rfl rfl (dot_q (k := (4 * k + 1)) HT.out ((Z_b1.out.sub Z_a1.out).more (by omega)) ((Z_b2.out.sub Z_a2.out).more (by omega)) ((Z_b1.out.sub Z_a1.out).more (by omega)) ((Z_b2.out.sub Z_a2.out).more (by omega))  rfl (by omega)) ?_
 refine aL3 ?_
 intro bk10 _ _ e10
 refine nZ ?_
 refine sV (RC_one _) ?_
 refine dn1 bk10 fun _ HS4=>?_
 clear HS3
 go_upto_region 4 with fail
 refine rgT [] HS4 ?_
 refine lV ?_
 refine cX rfl rfl (sign_q (k := (32 * k + 9)) HT.out ((((Z_p1.out.sub Z_a1.out).mul (Z_b1.out.sub Z_a1.out)).add ((Z_p2.out.sub Z_a2.out).mul (Z_b2.out.sub Z_a2.out))).more (by omega)) HSV.out (by omega)) ?_
 iterate 2 refine pU ?_
 refine dnS fun _ HS5=>?_
 clear HS4
 go_upto_region 6 with fail
 refine rgT [] HS5 ?_
 iterate 2 refine lV ?_
 refine cX rfl rfl (cmp_q (k := (32 * k + 9)) HT.out ((((Z_p1.out.sub Z_a1.out).mul (Z_b1.out.sub Z_a1.out)).add ((Z_p2.out.sub Z_a2.out).mul (Z_b2.out.sub Z_a2.out))).more (by omega)) ((((Z_b1.out.sub Z_a1.out).mul (Z_b1.out.sub Z_a1.out)).add ((Z_b2.out.sub Z_a2.out).mul (Z_b2.out.sub Z_a2.out))).more (by omega)) HCV.out (by omega)) ?_
 iterate 2 refine pU ?_
 refine dnS fun _ HS6=>?_
 clear HS5
 go_upto_region 9 with fail
 refine rgT [] HS6 ?_
 iterate 2 refine lV ?_
 refine cX rfl rfl (cross_q (k := (4 * k + 1)) HT.out ((Z_b1.out.sub Z_a1.out).more (by omega)) ((Z_b2.out.sub Z_a2.out).more (by omega)) ((Z_p1.out.sub Z_a1.out).more (by omega)) ((Z_p2.out.sub Z_a2.out).more (by omega))  rfl (by omega)) ?_
 refine aL3 ?_
 intro bk12 _ _ e12
 refine nZ ?_
 refine sV (RC_one _) ?_
 refine dn1 bk12 fun _ HS7=>?_
 clear HS6
 go_upto_region 10 with fail
 refine rgW [] HS7 ?_
 iterate 2 refine lV ?_
 refine cX rfl rfl (mul_q (k := (32 * k + 9)) HT.out ((((Z_b1.out.sub Z_a1.out).mul (Z_p2.out.sub Z_a2.out)).sub ((Z_b2.out.sub Z_a2.out).mul (Z_p1.out.sub Z_a1.out))).more (by omega)) ((((Z_b1.out.sub Z_a1.out).mul (Z_p2.out.sub Z_a2.out)).sub ((Z_b2.out.sub Z_a2.out).mul (Z_p1.out.sub Z_a1.out))).more (by omega)) rfl (by omega)) ?_
 refine lV ?_
 refine cX rfl rfl (div_q (k := (64 * k + 18)) HT.out (((((Z_b1.out.sub Z_a1.out).mul (Z_p2.out.sub Z_a2.out)).sub ((Z_b2.out.sub Z_a2.out).mul (Z_p1.out.sub Z_a1.out))).mul (((Z_b1.out.sub Z_a1.out).mul (Z_p2.out.sub Z_a2.out)).sub ((Z_b2.out.sub Z_a2.out).mul (Z_p1.out.sub Z_a1.out)))).more (by omega)) ((((Z_b1.out.sub Z_a1.out).mul (Z_b1.out.sub Z_a1.out)).add ((Z_b2.out.sub Z_a2.out).mul (Z_b2.out.sub Z_a2.out))).more (by omega)) HNE.out rfl (by omega)) ?_
 refine pU ?_
 refine pV (.agg (RC (((((b1 - a1) * (p2 - a2)) - ((b2 - a2) * (p1 - a1))) * (((b1 - a1) * (p2 - a2)) - ((b2 - a2) * (p1 - a1)))) / (((b1 - a1) * (b1 - a1)) + ((b2 - a2) * (b2 - a2)))))) (fun w => rfl) ?_
 refine pV (.int .i64 0) (fun w => rfl) ?_
 refine aL3 ?_
 intro bk13 _ _ e13
 refine nZ ?_
 refine sV (RC_one _) ?_
 refine pU ?_
 refine dn1 bk13 fun _ HS8=>?_
 clear HS7
 go_upto_region 11 with fail
 have HPbk6 : St w [(bk6, 27, #[.bool false, .string ⟨#[]⟩, .string ⟨#[]⟩]), (bk13, 27, RC (((((b1 - a1) * (p2 - a2)) - ((b2 - a2) * (p1 - a1))) * (((b1 - a1) * (p2 - a2)) - ((b2 - a2) * (p1 - a1)))) / (((b1 - a1) * (b1 - a1)) + ((b2 - a2) * (b2 - a2))))), (bk12, 27, RC (((b1 - a1) * (p2 - a2)) - ((b2 - a2) * (p1 - a1)))), (bk10, 27, RC (((b1 - a1) * (b1 - a1)) + ((b2 - a2) * (b2 - a2)))), (bk9, 27, RC (((p1 - a1) * (b1 - a1)) + ((p2 - a2) * (b2 - a2)))), (bk7, 29, VC (b1 - a1) (b2 - a2)), (bk8, 29, VC (p1 - a1) (p2 - a2)), (bk3, 29, VC p1 p2), (bk4, 29, VC a1 a2), (bk5, 29, VC b1 b2)] _ := St.perm HS8 (List.perm_middle (l₁ := ([(bk13, 27, RC (((((b1 - a1) * (p2 - a2)) - ((b2 - a2) * (p1 - a1))) * (((b1 - a1) * (p2 - a2)) - ((b2 - a2) * (p1 - a1)))) / (((b1 - a1) * (b1 - a1)) + ((b2 - a2) * (b2 - a2))))), (bk12, 27, RC (((b1 - a1) * (p2 - a2)) - ((b2 - a2) * (p1 - a1)))), (bk10, 27, RC (((b1 - a1) * (b1 - a1)) + ((b2 - a2) * (b2 - a2)))), (bk9, 27, RC (((p1 - a1) * (b1 - a1)) + ((p2 - a2) * (b2 - a2)))), (bk7, 29, VC (b1 - a1) (b2 - a2)), (bk8, 29, VC (p1 - a1) (p2 - a2)), (bk3, 29, VC p1 p2), (bk4, 29, VC a1 a2), (bk5, 29, VC b1 b2)] : List Own)))
 refine wp_seq_text [] (StR.move (StR.no HPbk6)) ?_
 refine lV ?_
 refine sV (RC_one _) ?_
 refine dn1 bk6 fun _ HS9=>?_
 clear HS8 HPbk6
 go_wp2_with fail
 exact rO HS9 ⟨rfl, HS9.below⟩
theorem te_q {k : Nat} {p1 p2 a1 a2 b1 b2 z0 : Rat} (hT : Tab W) (Zp1 : Rz k p1) (Zp2 : Rz k p2) (Za1 : Rz k a1) (Za2 : Rz k a2) (Zb1 : Rz k b1) (Zb2 : Rz k b2) (hz0 : teQ p1 p2 a1 a2 b1 b2 = z0) (hk : k ≤ 1000000000) (w : World) (h : St W l w) : Rt 140 #[.agg (VC p1 p2), .agg (VC a1 a2), .agg (VC b1 b2)] w (.agg (RC z0)) := by
 subst hz0
 unfold teQ
 split
 ·rename_i h1; exact te_0 hT Zp1 Zp2 Za1 Za2 Zb1 Zb2 h1 hk w h
 ·rename_i h1
  split
  ·rename_i h2; exact te_1 hT Zp1 Zp2 Za1 Za2 Zb1 Zb2 h1 h2 hk w h
  ·rename_i h2; exact te_2 hT Zp1 Zp2 Za1 Za2 Zb1 Zb2 h1 h2 hk w h
theorem te_rz {k : Nat} {p1 p2 a1 a2 b1 b2 : Rat} (Zp1 : Rz k p1) (Zp2 : Rz k p2) (Za1 : Rz k a1) (Za2 : Rz k a2) (Zb1 : Rz k b1) (Zb2 : Rz k b2) : Rz (96 * k + 27) (teQ p1 p2 a1 a2 b1 b2) := by
 have sb : ∀ {x y : Rat}, Rz k x → Rz k y → Rz (4 * k + 1) (x - y) := fun hx hy => (hx.sub hy).more (by omega)
 have dt : ∀ {x y z u : Rat}, Rz (4 * k + 1) x → Rz (4 * k + 1) y → Rz (4 * k + 1) z → Rz (4 * k + 1) u → Rz (32 * k + 9) (x * y + z * u) := fun hx hy hz hu => ((hx.mul hy).add (hz.mul hu)).more (by omega)
 have ct : ∀ {x y z u : Rat}, Rz (4 * k + 1) x → Rz (4 * k + 1) y → Rz (4 * k + 1) z → Rz (4 * k + 1) u → Rz (32 * k + 9) (x * y - z * u) := fun hx hy hz hu => ((hx.mul hy).sub (hz.mul hu)).more (by omega)
 unfold teQ
 split
 ·exact (dt (sb Zp1 Za1) (sb Zp1 Za1) (sb Zp2 Za2) (sb Zp2 Za2)).more (by omega)
 ·split
  ·exact (dt (sb Zp1 Zb1) (sb Zp1 Zb1) (sb Zp2 Zb2) (sb Zp2 Zb2)).more (by omega)
  ·rename_i h1 h2
   have c := ct (sb Zb1 Za1) (sb Zp2 Za2) (sb Zb2 Za2) (sb Zp1 Za1)
   exact ((c.mul c).div (dt (sb Zb1 Za1) (sb Zb1 Za1) (sb Zb2 Za2) (sb Zb2 Za2)) (fun e => h2 (by rw [e]; grind))).more (by omega)
theorem near_rz {k : Nat} {x y : Rat} {ps : Pts} (hz : Pz k ps) (hx : Rz k x) (hy : Rz k y) (h2 : 2 ≤ ps.length) : ∀ i, i ≤ ps.length → Rz (96 * k + 27) (nearF x y ps i) := by
 intro i
 induction i with
 | zero => intro _; exact te_rz hx hy (hz.x (show 0 < ps.length by omega)) (hz.y (show 0 < ps.length by omega)) (hz.x (show 1 < ps.length by omega)) (hz.y (show 1 < ps.length by omega))
 | succ i ih =>
   intro hi
   have hj : (i + 1) % ps.length < ps.length := Nat.mod_lt _ (by omega)
   simp only [nearF]
   exact (ih (by omega)).min (te_rz hx hy (hz.x (show i < ps.length by omega)) (hz.y (show i < ps.length by omega)) (hz.x hj) (hz.y hj))
theorem nearQ_rz {k : Nat} {x y : Rat} {ps : Pts} (hz : Pz k ps) (hx : Rz k x) (hy : Rz k y) (h2 : 2 ≤ ps.length) : Rz (96 * k + 27) (nearQ x y ps) := near_rz hz hx hy h2 _ (Nat.le_refl _)
theorem sqA_rz {k : Nat} {a b : Pts} (ha : Pz k a) (hb : Pz k b) (h1 : 2 ≤ a.length) (h2 : 2 ≤ b.length) : ∀ i, i ≤ a.length → Rz (96 * k + 27) (sqA a b i) := by
 intro i
 induction i with
 | zero => intro _; exact nearQ_rz hb (ha.x (show 0 < a.length by omega)) (ha.y (show 0 < a.length by omega)) h2
 | succ i ih => intro hi; exact (ih (by omega)).min (nearQ_rz hb (ha.x (show i < a.length by omega)) (ha.y (show i < a.length by omega)) h2)
theorem sqB_rz {k : Nat} {a b : Pts} {v : Rat} (ha : Pz k a) (hb : Pz k b) (h1 : 2 ≤ a.length) (h2 : 2 ≤ b.length) (hv : Rz (96 * k + 27) v) : ∀ j, j ≤ b.length → Rz (96 * k + 27) (sqB a b v j) := by
 intro j
 induction j with
 | zero => intro _; exact hv
 | succ j ih => intro hj; exact (ih (by omega)).min (nearQ_rz ha (hb.x (show j < b.length by omega)) (hb.y (show j < b.length by omega)) h1)
def farF (a b : Pts) (i : Nat) : Nat → Bool
 | 0 => true
 | j + 1 => farF a b i j && decide (0 < dt a b i j)
theorem farF_all (a b : Pts) (i n : Nat) : farF a b i n = (List.range n).all fun j => decide (0 < dt a b i j) := by
 induction n with
 | zero => rfl
 | succ n ih => rw [List.range_succ, List.all_append, ← ih]; simp [farF]
theorem farF_sep (a b : Pts) (i : Nat) : farF a b i b.length = sepB a b i := farF_all _ _ _ _
def bydI (a b : Pts) : Option Nat := (List.range a.length).find? (sepB a b)
def nrx (a : Pts) (i : Nat) : Rat := py a ((i + 1) % a.length) - py a i
def nry (a : Pts) (i : Nat) : Rat := -(px a ((i + 1) % a.length) - px a i)
def bydC (a b : Pts) : Array Value := match bydI a b with | some i => VC (nrx a i) (nry a i) | none => #[.bool false, .string ⟨#[]⟩, .string ⟨#[]⟩, .bool false, .string ⟨#[]⟩, .string ⟨#[]⟩]
theorem bydI_at {a b : Pts} {i : Nat} (hi : i < a.length) (h : sepB a b i = true) (hn : ∀ q, q < i → sepB a b q = false) : bydI a b = some i := by
 unfold bydI
 rw [List.find?_range_eq_some]
 exact ⟨h, List.mem_range.2 hi, fun j hj => by rw [hn j hj]; rfl⟩
theorem bydI_no {a b : Pts} (hn : ∀ q, q < a.length → sepB a b q = false) : bydI a b = none := by
 unfold bydI
 rw [List.find?_range_eq_none]
 exact fun j hj => by rw [hn j hj]; rfl
theorem bydB_at {a b : Pts} {i : Nat} (hi : i < a.length) (h : sepB a b i = true) : bydB a b = true := by
 unfold bydB; rw [List.any_eq_true]; exact ⟨i, List.mem_range.2 hi, h⟩
theorem bydB_no {a b : Pts} (hn : ∀ q, q < a.length → sepB a b q = false) : bydB a b = false := by
 rw [← Bool.not_eq_true]
 intro h
 unfold bydB at h
 rw [List.any_eq_true] at h
 obtain ⟨i, hi, h⟩ := h
 rw [hn i (List.mem_range.1 hi)] at h; cases h
theorem bydC_size (a b : Pts) : (bydC a b).size = 6 := by unfold bydC; split <;> rfl
theorem bydC_one (a b : Pts) : ∀ u ∈ bydC a b, u.oneCell' = true := by
 unfold bydC
 split
 ·exact VC_one _ _
 ·intro u hu
  simp only [List.mem_toArray, List.mem_cons, List.not_mem_nil, or_false] at hu
  rcases hu with rfl | rfl | rfl | rfl | rfl | rfl <;> rfl
theorem sgn_dec {a : Rat} : decide (0 < sgnQ a) = decide (0 < a) := by
 rw [Bool.eq_iff_iff, decide_eq_true_eq, decide_eq_true_eq]
 unfold sgnQ cmpQ
 split
 ·constructor
  ·intro h; omega
  ·intro h; grind
 ·split
  ·constructor
   ·intro h; assumption
   ·intro h; omega
  ·constructor
   ·intro h; omega
   ·intro h; exact absurd h (by assumption)
theorem sqQ_rz {k : Nat} {a b : Pts} (ha : Pz k a) (hb : Pz k b) (h1 : 2 ≤ a.length) (h2 : 2 ≤ b.length) : Rz (96 * k + 27) (sqQ a b) := by
 unfold sqQ
 split
 ·exact Rz.zero2.more (by omega)
 ·exact sqB_rz ha hb h1 h2 (sqA_rz ha hb h1 h2 _ (Nat.le_refl _)) _ (Nat.le_refl _)
section
variable {P : Program} {ops : Array Oper} {W : World} {l : List Own} {Q : Exit → Act → World → Prop} {gs : List Nat} {k : Nat} {o : Oper} {rest : List Oper} {a : Act} {R : Reg}
end
end Go.Proofs.YtmchjmflkaiakaaGreatDoor
