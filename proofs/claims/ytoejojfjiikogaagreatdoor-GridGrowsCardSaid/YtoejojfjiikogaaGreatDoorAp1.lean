/- Joined texts. -/
import Derived.Test.YtoejojfjiikogaaGreatDoorPo5
import Derived.Test.YtoejojfjiikogaaGreatDoorPoA
import Derived.Deep.LoopGhost

/- package apart: toEdge, near (printed by lawvec.py). -/
namespace Go.Proofs.YtoejojfjiikogaaGreatDoor
open Go.RowKit
set_option linter.unusedVariables false
set_option linter.unusedSimpArgs false

set_option maxHeartbeats 2000000 in
set_option maxRecDepth 20000 in
theorem te_0 {k : Nat} {p1 p2 a1 a2 b1 b2 : Rat} {W : World} {l : List Own} (hT : Tab W) (Zp1 : Rz k p1) (Zp2 : Rz k p2) (Za1 : Rz k a1) (Za2 : Rz k a2) (Zb1 : Rz k b1) (Zb2 : Rz k b2) (h1 : (p1 - a1) * (b1 - a1) + (p2 - a2) * (b2 - a2) ≤ 0) (hk : k ≤ 1000000000) (w : World) (h : St W l w) :
    Calls Tryz.prog 109 #[.agg (VC p1 p2), .agg (VC a1 a2), .agg (VC b1 b2)] w fun e w' => e = .returned (.agg (RC ((p1 - a1) * (p1 - a1) + (p2 - a2) * (p2 - a2)))) ∧ Below w.heap.size w w' := by
  have HT := Lib.hid (tabS hT h); clear hT h
  have Z_p1 := Lib.hid Zp1; clear Zp1
  have Z_p2 := Lib.hid Zp2; clear Zp2
  have Z_a1 := Lib.hid Za1; clear Za1
  have Z_a2 := Lib.hid Za2; clear Za2
  have Z_b1 := Lib.hid Zb1; clear Zb1
  have Z_b2 := Lib.hid Zb2; clear Zb2
  obtain ⟨sv, hsv, hs0⟩ : ∃ v, sgnQ ((p1 - a1) * (b1 - a1) + (p2 - a2) * (b2 - a2)) = v ∧ decide (v ≤ 0) = true := ⟨_, rfl, decide_eq_true (sgn_le.2 h1)⟩
  have HSV := Lib.hid hsv; clear hsv
  clear h1
  go_enter Tryz.func109, Tryz.ntmps109
  have HS : St w [] w := St.start
  go_upto_region 0 with (fail)
  refine wp_seq_text [] (StR.no HS) ?_
  refine Seq.box rfl rfl rfl (v := .agg (VC p1 p2)) (cs := VC p1 p2) rfl rfl ?_
  intro bk3 _ _ hbk3_r
  simp only [Act.put, nA, nB, nC]
  refine Seq.box rfl rfl rfl (v := .agg (VC a1 a2)) (cs := VC a1 a2) rfl rfl ?_
  intro bk4 _ _ hbk4_r
  obtain ⟨ne_bk4_bk3, hbk4_r⟩ := Reg.ne_of_put hbk4_r
  have ne_bk3_bk4 := Ne.symm ne_bk4_bk3
  simp only [Act.put, nA, nB, nC]
  refine Seq.box rfl rfl rfl (v := .agg (VC b1 b2)) (cs := VC b1 b2) rfl rfl ?_
  intro bk5 _ _ hbk5_r
  obtain ⟨ne_bk5_bk4, hbk5_r⟩ := Reg.ne_of_put hbk5_r
  have ne_bk4_bk5 := Ne.symm ne_bk5_bk4
  obtain ⟨ne_bk5_bk3, hbk5_r⟩ := Reg.ne_of_put hbk5_r
  have ne_bk3_bk5 := Ne.symm ne_bk5_bk3
  simp only [Act.put, nA, nB, nC]
  refine Seq.alloc rfl rfl rfl (z := .agg #[.bool false, .string ⟨#[]⟩, .string ⟨#[]⟩]) (by kernel_rfl) rfl ?_
  intro bk6 _ _ hbk6_r
  obtain ⟨ne_bk6_bk5, hbk6_r⟩ := Reg.ne_of_put hbk6_r
  have ne_bk5_bk6 := Ne.symm ne_bk6_bk5
  obtain ⟨ne_bk6_bk4, hbk6_r⟩ := Reg.ne_of_put hbk6_r
  have ne_bk4_bk6 := Ne.symm ne_bk6_bk4
  obtain ⟨ne_bk6_bk3, hbk6_r⟩ := Reg.ne_of_put hbk6_r
  have ne_bk3_bk6 := Ne.symm ne_bk6_bk3
  simp only [Act.put, nA, nB, nC]
  refine Seq.done fun ws1 hws => ?_
  have HS1 : St w [(bk3, 26, VC p1 p2), (bk4, 26, VC a1 a2), (bk5, 26, VC b1 b2), (bk6, 24, #[.bool false, .string ⟨#[]⟩, .string ⟨#[]⟩])] ws1 := hws.listN [(bk3, 26, VC p1 p2), (bk4, 26, VC a1 a2), (bk5, 26, VC b1 b2), (bk6, 24, #[.bool false, .string ⟨#[]⟩, .string ⟨#[]⟩])] (by simp [*]) (by intro e he; simp only [List.mem_cons, List.not_mem_nil, or_false] at he; rcases he with rfl | rfl | rfl | rfl <;> first | exact Reg.put_same _ _ _ | simp [Reg.put, *])
  clear HS hws
  go_upto_region 1 with (fail)
  refine wp_seq [] (by kernel_rfl) (by kernel_rfl) Reg.fin_no (StR.no HS1) ?_
  refine Seq.load rfl rfl rfl rfl (by repeat (first | exact mC | apply mT)) (n := 6) rfl (by kernel_rfl) ?_
  simp only [Act.put, nA, nB, nC]
  refine Seq.load rfl rfl rfl rfl (by repeat (first | exact mC | apply mT)) (n := 6) rfl (by kernel_rfl) ?_
  simp only [Act.put, nA, nB, nC]
  refine Seq.call rfl rfl rfl rfl (by kernel_rfl) (vsub_q (k := (1 * k + 0)) HT.out (Z_b1.out.more (by omega)) (Z_b2.out.more (by omega)) (Z_a1.out.more (by omega)) (Z_a2.out.more (by omega))  rfl rfl (by omega)) ?_
  simp only [Act.put, nA, nB, nC]
  refine Seq.load rfl rfl rfl rfl (by repeat (first | exact mC | apply mT)) (n := 6) rfl (by kernel_rfl) ?_
  simp only [Act.put, nA, nB, nC]
  refine Seq.load rfl rfl rfl rfl (by repeat (first | exact mC | apply mT)) (n := 6) rfl (by kernel_rfl) ?_
  simp only [Act.put, nA, nB, nC]
  refine Seq.call rfl rfl rfl rfl (by kernel_rfl) (vsub_q (k := (1 * k + 0)) HT.out (Z_p1.out.more (by omega)) (Z_p2.out.more (by omega)) (Z_a1.out.more (by omega)) (Z_a2.out.more (by omega))  rfl rfl (by omega)) ?_
  simp only [Act.put, nA, nB, nC]
  refine Seq.alloc rfl rfl rfl (z := .agg #[.bool false, .string ⟨#[]⟩, .string ⟨#[]⟩, .bool false, .string ⟨#[]⟩, .string ⟨#[]⟩]) (by kernel_rfl) rfl ?_
  intro bk7 _ _ hbk7_r
  simp only [Act.put, nA, nB, nC]
  refine Seq.alloc rfl rfl rfl (z := .agg #[.bool false, .string ⟨#[]⟩, .string ⟨#[]⟩, .bool false, .string ⟨#[]⟩, .string ⟨#[]⟩]) (by kernel_rfl) rfl ?_
  intro bk8 _ _ hbk8_r
  obtain ⟨ne_bk8_bk7, hbk8_r⟩ := Reg.ne_of_put hbk8_r
  have ne_bk7_bk8 := Ne.symm ne_bk8_bk7
  simp only [Act.put, nA, nB, nC]
  refine Seq.store rfl rfl rfl rfl rfl (by repeat (first | exact rS | refine rN (by assumption) ?_)) (n := 6) rfl rfl (by kernel_rfl) (VC_one _ _) ?_
  simp only [Act.put, nA, nB, nC]
  refine Seq.store rfl rfl rfl rfl rfl (by repeat (first | exact rS | refine rN (by assumption) ?_)) (n := 6) rfl rfl (by kernel_rfl) (VC_one _ _) ?_
  simp only [Act.put, nA, nB, nC]
  refine Seq.done fun ws2 hws => ?_
  have HS2 : St w [(bk7, 26, VC (b1 - a1) (b2 - a2)), (bk8, 26, VC (p1 - a1) (p2 - a2)), (bk3, 26, VC p1 p2), (bk4, 26, VC a1 a2), (bk5, 26, VC b1 b2), (bk6, 24, #[.bool false, .string ⟨#[]⟩, .string ⟨#[]⟩])] ws2 := hws.list2 (by repeat (first | exact rS | refine rN (by assumption) ?_)) (by repeat (first | exact rS | refine rN (by assumption) ?_)) (by assumption)
  clear HS1 hws
  go_upto_region 2 with (fail)
  refine wp_seq_text [] (StR.no HS2) ?_
  refine Seq.load rfl rfl rfl rfl (by repeat (first | exact mC | apply mT)) (n := 6) rfl (by kernel_rfl) ?_
  simp only [Act.put, nA, nB, nC]
  refine Seq.load rfl rfl rfl rfl (by repeat (first | exact mC | apply mT)) (n := 6) rfl (by kernel_rfl) ?_
  simp only [Act.put, nA, nB, nC]
  refine Seq.call rfl rfl rfl rfl (by kernel_rfl) (dot_q (k := (4 * k + 1)) HT.out ((Z_p1.out.sub Z_a1.out).more (by omega)) ((Z_p2.out.sub Z_a2.out).more (by omega)) ((Z_b1.out.sub Z_a1.out).more (by omega)) ((Z_b2.out.sub Z_a2.out).more (by omega))  rfl (by omega)) ?_
  simp only [Act.put, nA, nB, nC]
  refine Seq.alloc rfl rfl rfl (z := .agg #[.bool false, .string ⟨#[]⟩, .string ⟨#[]⟩]) (by kernel_rfl) rfl ?_
  intro bk9 _ _ hbk9_r
  simp only [Act.put, nA, nB, nC]
  refine Seq.store rfl rfl rfl rfl rfl (by repeat (first | exact rS | refine rN (by assumption) ?_)) (n := 3) rfl rfl (by kernel_rfl) (RC_one _) ?_
  simp only [Act.put, nA, nB, nC]
  refine Seq.done fun ws3 hws => ?_
  have HS3 : St w [(bk9, 24, RC (((p1 - a1) * (b1 - a1)) + ((p2 - a2) * (b2 - a2)))), (bk7, 26, VC (b1 - a1) (b2 - a2)), (bk8, 26, VC (p1 - a1) (p2 - a2)), (bk3, 26, VC p1 p2), (bk4, 26, VC a1 a2), (bk5, 26, VC b1 b2), (bk6, 24, #[.bool false, .string ⟨#[]⟩, .string ⟨#[]⟩])] ws3 := hws.list1 (by repeat (first | exact rS | refine rN (by assumption) ?_))
  clear HS2 hws
  go_upto_region 3 with (fail)
  refine wp_seq_text [] (StR.no HS3) ?_
  refine Seq.load rfl rfl rfl rfl (by repeat (first | exact mC | apply mT)) (n := 6) rfl (by kernel_rfl) ?_
  simp only [Act.put, nA, nB, nC]
  refine Seq.load rfl rfl rfl rfl (by repeat (first | exact mC | apply mT)) (n := 6) rfl (by kernel_rfl) ?_
  simp only [Act.put, nA, nB, nC]
  refine Seq.call rfl rfl rfl rfl (by kernel_rfl) (dot_q (k := (4 * k + 1)) HT.out ((Z_b1.out.sub Z_a1.out).more (by omega)) ((Z_b2.out.sub Z_a2.out).more (by omega)) ((Z_b1.out.sub Z_a1.out).more (by omega)) ((Z_b2.out.sub Z_a2.out).more (by omega))  rfl (by omega)) ?_
  simp only [Act.put, nA, nB, nC]
  refine Seq.alloc rfl rfl rfl (z := .agg #[.bool false, .string ⟨#[]⟩, .string ⟨#[]⟩]) (by kernel_rfl) rfl ?_
  intro bk10 _ _ hbk10_r
  simp only [Act.put, nA, nB, nC]
  refine Seq.store rfl rfl rfl rfl rfl (by repeat (first | exact rS | refine rN (by assumption) ?_)) (n := 3) rfl rfl (by kernel_rfl) (RC_one _) ?_
  simp only [Act.put, nA, nB, nC]
  refine Seq.done fun ws4 hws => ?_
  have HS4 : St w [(bk10, 24, RC (((b1 - a1) * (b1 - a1)) + ((b2 - a2) * (b2 - a2)))), (bk9, 24, RC (((p1 - a1) * (b1 - a1)) + ((p2 - a2) * (b2 - a2)))), (bk7, 26, VC (b1 - a1) (b2 - a2)), (bk8, 26, VC (p1 - a1) (p2 - a2)), (bk3, 26, VC p1 p2), (bk4, 26, VC a1 a2), (bk5, 26, VC b1 b2), (bk6, 24, #[.bool false, .string ⟨#[]⟩, .string ⟨#[]⟩])] ws4 := hws.list1 (by repeat (first | exact rS | refine rN (by assumption) ?_))
  clear HS3 hws
  go_upto_region 4 with (fail)
  refine wp_seq_text [] (StR.no HS4) ?_
  refine Seq.load rfl rfl rfl rfl (by repeat (first | exact mC | apply mT)) (n := 3) rfl (by kernel_rfl) ?_
  simp only [Act.put, nA, nB, nC]
  refine Seq.call rfl rfl rfl rfl (by kernel_rfl) (sign_q (k := (32 * k + 9)) HT.out ((((Z_p1.out.sub Z_a1.out).mul (Z_b1.out.sub Z_a1.out)).add ((Z_p2.out.sub Z_a2.out).mul (Z_b2.out.sub Z_a2.out))).more (by omega)) HSV.out (by omega)) ?_
  simp only [Act.put, nA, nB, nC]
  iterate 2 (refine Seq.pure rfl rfl (by intro w; go_simp; try rfl) ?_; simp only [Act.put, nA, nB, nC])
  refine Seq.done fun ws5 hws => ?_
  have HS5 := hws.st
  clear HS4 hws
  go_upto_region 5 with (fail)
  have HPbk6 : St w [(bk6, 24, #[.bool false, .string ⟨#[]⟩, .string ⟨#[]⟩]), (bk10, 24, RC (((b1 - a1) * (b1 - a1)) + ((b2 - a2) * (b2 - a2)))), (bk9, 24, RC (((p1 - a1) * (b1 - a1)) + ((p2 - a2) * (b2 - a2)))), (bk7, 26, VC (b1 - a1) (b2 - a2)), (bk8, 26, VC (p1 - a1) (p2 - a2)), (bk3, 26, VC p1 p2), (bk4, 26, VC a1 a2), (bk5, 26, VC b1 b2)] _ := St.perm HS5 (List.perm_middle (l₁ := ([(bk10, 24, RC (((b1 - a1) * (b1 - a1)) + ((b2 - a2) * (b2 - a2)))), (bk9, 24, RC (((p1 - a1) * (b1 - a1)) + ((p2 - a2) * (b2 - a2)))), (bk7, 26, VC (b1 - a1) (b2 - a2)), (bk8, 26, VC (p1 - a1) (p2 - a2)), (bk3, 26, VC p1 p2), (bk4, 26, VC a1 a2), (bk5, 26, VC b1 b2)] : List Own)))
  refine wp_seq_text [] (StR.move (StR.no HPbk6)) ?_
  refine Seq.load rfl rfl rfl rfl (by repeat (first | exact mC | apply mT)) (n := 6) rfl (by kernel_rfl) ?_
  simp only [Act.put, nA, nB, nC]
  refine Seq.load rfl rfl rfl rfl (by repeat (first | exact mC | apply mT)) (n := 6) rfl (by kernel_rfl) ?_
  simp only [Act.put, nA, nB, nC]
  refine Seq.call rfl rfl rfl rfl (by kernel_rfl) (dot_q (k := (4 * k + 1)) HT.out ((Z_p1.out.sub Z_a1.out).more (by omega)) ((Z_p2.out.sub Z_a2.out).more (by omega)) ((Z_p1.out.sub Z_a1.out).more (by omega)) ((Z_p2.out.sub Z_a2.out).more (by omega))  rfl (by omega)) ?_
  simp only [Act.put, nA, nB, nC]
  refine Seq.store rfl rfl rfl rfl rfl (by repeat (first | exact rS | refine rN (by assumption) ?_)) (n := 3) rfl rfl (by kernel_rfl) (RC_one _) ?_
  simp only [Act.put, nA, nB, nC]
  refine Seq.done fun ws6 hws => ?_
  have HS6 : St w [(bk6, 24, RC (((p1 - a1) * (p1 - a1)) + ((p2 - a2) * (p2 - a2)))), (bk10, 24, RC (((b1 - a1) * (b1 - a1)) + ((b2 - a2) * (b2 - a2)))), (bk9, 24, RC (((p1 - a1) * (b1 - a1)) + ((p2 - a2) * (b2 - a2)))), (bk7, 26, VC (b1 - a1) (b2 - a2)), (bk8, 26, VC (p1 - a1) (p2 - a2)), (bk3, 26, VC p1 p2), (bk4, 26, VC a1 a2), (bk5, 26, VC b1 b2)] ws6 := hws.list1 (by repeat (first | exact rS | refine rN (by assumption) ?_))
  clear HS5 hws HPbk6
  go_wp2_with fail
  exact ret_own rfl rfl rfl HS6 (by repeat (first | exact mC | apply mT)) (n := 3) rfl (by kernel_rfl) ⟨rfl, HS6.below⟩
set_option maxHeartbeats 2000000 in
set_option maxRecDepth 20000 in
theorem te_1 {k : Nat} {p1 p2 a1 a2 b1 b2 : Rat} {W : World} {l : List Own} (hT : Tab W) (Zp1 : Rz k p1) (Zp2 : Rz k p2) (Za1 : Rz k a1) (Za2 : Rz k a2) (Zb1 : Rz k b1) (Zb2 : Rz k b2) (h1 : ¬ (p1 - a1) * (b1 - a1) + (p2 - a2) * (b2 - a2) ≤ 0) (h2 : (b1 - a1) * (b1 - a1) + (b2 - a2) * (b2 - a2) ≤ (p1 - a1) * (b1 - a1) + (p2 - a2) * (b2 - a2)) (hk : k ≤ 1000000000) (w : World) (h : St W l w) :
    Calls Tryz.prog 109 #[.agg (VC p1 p2), .agg (VC a1 a2), .agg (VC b1 b2)] w fun e w' => e = .returned (.agg (RC ((p1 - b1) * (p1 - b1) + (p2 - b2) * (p2 - b2)))) ∧ Below w.heap.size w w' := by
  have HT := Lib.hid (tabS hT h); clear hT h
  have Z_p1 := Lib.hid Zp1; clear Zp1
  have Z_p2 := Lib.hid Zp2; clear Zp2
  have Z_a1 := Lib.hid Za1; clear Za1
  have Z_a2 := Lib.hid Za2; clear Za2
  have Z_b1 := Lib.hid Zb1; clear Zb1
  have Z_b2 := Lib.hid Zb2; clear Zb2
  obtain ⟨sv, hsv, hs0⟩ : ∃ v, sgnQ ((p1 - a1) * (b1 - a1) + (p2 - a2) * (b2 - a2)) = v ∧ decide (v ≤ 0) = false := ⟨_, rfl, decide_eq_false (fun c => h1 (sgn_le.1 c))⟩
  have HSV := Lib.hid hsv; clear hsv
  obtain ⟨cv, hcv, hc0⟩ : ∃ v, cmpQ ((p1 - a1) * (b1 - a1) + (p2 - a2) * (b2 - a2)) ((b1 - a1) * (b1 - a1) + (b2 - a2) * (b2 - a2)) = v ∧ decide (0 ≤ v) = true := ⟨_, rfl, decide_eq_true (cmp_le_iff.2 h2)⟩
  have HCV := Lib.hid hcv; clear hcv
  clear h1 h2
  go_enter Tryz.func109, Tryz.ntmps109
  have HS : St w [] w := St.start
  go_upto_region 0 with (fail)
  refine wp_seq_text [] (StR.no HS) ?_
  refine Seq.box rfl rfl rfl (v := .agg (VC p1 p2)) (cs := VC p1 p2) rfl rfl ?_
  intro bk3 _ _ hbk3_r
  simp only [Act.put, nA, nB, nC]
  refine Seq.box rfl rfl rfl (v := .agg (VC a1 a2)) (cs := VC a1 a2) rfl rfl ?_
  intro bk4 _ _ hbk4_r
  obtain ⟨ne_bk4_bk3, hbk4_r⟩ := Reg.ne_of_put hbk4_r
  have ne_bk3_bk4 := Ne.symm ne_bk4_bk3
  simp only [Act.put, nA, nB, nC]
  refine Seq.box rfl rfl rfl (v := .agg (VC b1 b2)) (cs := VC b1 b2) rfl rfl ?_
  intro bk5 _ _ hbk5_r
  obtain ⟨ne_bk5_bk4, hbk5_r⟩ := Reg.ne_of_put hbk5_r
  have ne_bk4_bk5 := Ne.symm ne_bk5_bk4
  obtain ⟨ne_bk5_bk3, hbk5_r⟩ := Reg.ne_of_put hbk5_r
  have ne_bk3_bk5 := Ne.symm ne_bk5_bk3
  simp only [Act.put, nA, nB, nC]
  refine Seq.alloc rfl rfl rfl (z := .agg #[.bool false, .string ⟨#[]⟩, .string ⟨#[]⟩]) (by kernel_rfl) rfl ?_
  intro bk6 _ _ hbk6_r
  obtain ⟨ne_bk6_bk5, hbk6_r⟩ := Reg.ne_of_put hbk6_r
  have ne_bk5_bk6 := Ne.symm ne_bk6_bk5
  obtain ⟨ne_bk6_bk4, hbk6_r⟩ := Reg.ne_of_put hbk6_r
  have ne_bk4_bk6 := Ne.symm ne_bk6_bk4
  obtain ⟨ne_bk6_bk3, hbk6_r⟩ := Reg.ne_of_put hbk6_r
  have ne_bk3_bk6 := Ne.symm ne_bk6_bk3
  simp only [Act.put, nA, nB, nC]
  refine Seq.done fun ws1 hws => ?_
  have HS1 : St w [(bk3, 26, VC p1 p2), (bk4, 26, VC a1 a2), (bk5, 26, VC b1 b2), (bk6, 24, #[.bool false, .string ⟨#[]⟩, .string ⟨#[]⟩])] ws1 := hws.listN [(bk3, 26, VC p1 p2), (bk4, 26, VC a1 a2), (bk5, 26, VC b1 b2), (bk6, 24, #[.bool false, .string ⟨#[]⟩, .string ⟨#[]⟩])] (by simp [*]) (by intro e he; simp only [List.mem_cons, List.not_mem_nil, or_false] at he; rcases he with rfl | rfl | rfl | rfl <;> first | exact Reg.put_same _ _ _ | simp [Reg.put, *])
  clear HS hws
  go_upto_region 1 with (fail)
  refine wp_seq [] (by kernel_rfl) (by kernel_rfl) Reg.fin_no (StR.no HS1) ?_
  refine Seq.load rfl rfl rfl rfl (by repeat (first | exact mC | apply mT)) (n := 6) rfl (by kernel_rfl) ?_
  simp only [Act.put, nA, nB, nC]
  refine Seq.load rfl rfl rfl rfl (by repeat (first | exact mC | apply mT)) (n := 6) rfl (by kernel_rfl) ?_
  simp only [Act.put, nA, nB, nC]
  refine Seq.call rfl rfl rfl rfl (by kernel_rfl) (vsub_q (k := (1 * k + 0)) HT.out (Z_b1.out.more (by omega)) (Z_b2.out.more (by omega)) (Z_a1.out.more (by omega)) (Z_a2.out.more (by omega))  rfl rfl (by omega)) ?_
  simp only [Act.put, nA, nB, nC]
  refine Seq.load rfl rfl rfl rfl (by repeat (first | exact mC | apply mT)) (n := 6) rfl (by kernel_rfl) ?_
  simp only [Act.put, nA, nB, nC]
  refine Seq.load rfl rfl rfl rfl (by repeat (first | exact mC | apply mT)) (n := 6) rfl (by kernel_rfl) ?_
  simp only [Act.put, nA, nB, nC]
  refine Seq.call rfl rfl rfl rfl (by kernel_rfl) (vsub_q (k := (1 * k + 0)) HT.out (Z_p1.out.more (by omega)) (Z_p2.out.more (by omega)) (Z_a1.out.more (by omega)) (Z_a2.out.more (by omega))  rfl rfl (by omega)) ?_
  simp only [Act.put, nA, nB, nC]
  refine Seq.alloc rfl rfl rfl (z := .agg #[.bool false, .string ⟨#[]⟩, .string ⟨#[]⟩, .bool false, .string ⟨#[]⟩, .string ⟨#[]⟩]) (by kernel_rfl) rfl ?_
  intro bk7 _ _ hbk7_r
  simp only [Act.put, nA, nB, nC]
  refine Seq.alloc rfl rfl rfl (z := .agg #[.bool false, .string ⟨#[]⟩, .string ⟨#[]⟩, .bool false, .string ⟨#[]⟩, .string ⟨#[]⟩]) (by kernel_rfl) rfl ?_
  intro bk8 _ _ hbk8_r
  obtain ⟨ne_bk8_bk7, hbk8_r⟩ := Reg.ne_of_put hbk8_r
  have ne_bk7_bk8 := Ne.symm ne_bk8_bk7
  simp only [Act.put, nA, nB, nC]
  refine Seq.store rfl rfl rfl rfl rfl (by repeat (first | exact rS | refine rN (by assumption) ?_)) (n := 6) rfl rfl (by kernel_rfl) (VC_one _ _) ?_
  simp only [Act.put, nA, nB, nC]
  refine Seq.store rfl rfl rfl rfl rfl (by repeat (first | exact rS | refine rN (by assumption) ?_)) (n := 6) rfl rfl (by kernel_rfl) (VC_one _ _) ?_
  simp only [Act.put, nA, nB, nC]
  refine Seq.done fun ws2 hws => ?_
  have HS2 : St w [(bk7, 26, VC (b1 - a1) (b2 - a2)), (bk8, 26, VC (p1 - a1) (p2 - a2)), (bk3, 26, VC p1 p2), (bk4, 26, VC a1 a2), (bk5, 26, VC b1 b2), (bk6, 24, #[.bool false, .string ⟨#[]⟩, .string ⟨#[]⟩])] ws2 := hws.list2 (by repeat (first | exact rS | refine rN (by assumption) ?_)) (by repeat (first | exact rS | refine rN (by assumption) ?_)) (by assumption)
  clear HS1 hws
  go_upto_region 2 with (fail)
  refine wp_seq_text [] (StR.no HS2) ?_
  refine Seq.load rfl rfl rfl rfl (by repeat (first | exact mC | apply mT)) (n := 6) rfl (by kernel_rfl) ?_
  simp only [Act.put, nA, nB, nC]
  refine Seq.load rfl rfl rfl rfl (by repeat (first | exact mC | apply mT)) (n := 6) rfl (by kernel_rfl) ?_
  simp only [Act.put, nA, nB, nC]
  refine Seq.call rfl rfl rfl rfl (by kernel_rfl) (dot_q (k := (4 * k + 1)) HT.out ((Z_p1.out.sub Z_a1.out).more (by omega)) ((Z_p2.out.sub Z_a2.out).more (by omega)) ((Z_b1.out.sub Z_a1.out).more (by omega)) ((Z_b2.out.sub Z_a2.out).more (by omega))  rfl (by omega)) ?_
  simp only [Act.put, nA, nB, nC]
  refine Seq.alloc rfl rfl rfl (z := .agg #[.bool false, .string ⟨#[]⟩, .string ⟨#[]⟩]) (by kernel_rfl) rfl ?_
  intro bk9 _ _ hbk9_r
  simp only [Act.put, nA, nB, nC]
  refine Seq.store rfl rfl rfl rfl rfl (by repeat (first | exact rS | refine rN (by assumption) ?_)) (n := 3) rfl rfl (by kernel_rfl) (RC_one _) ?_
  simp only [Act.put, nA, nB, nC]
  refine Seq.done fun ws3 hws => ?_
  have HS3 : St w [(bk9, 24, RC (((p1 - a1) * (b1 - a1)) + ((p2 - a2) * (b2 - a2)))), (bk7, 26, VC (b1 - a1) (b2 - a2)), (bk8, 26, VC (p1 - a1) (p2 - a2)), (bk3, 26, VC p1 p2), (bk4, 26, VC a1 a2), (bk5, 26, VC b1 b2), (bk6, 24, #[.bool false, .string ⟨#[]⟩, .string ⟨#[]⟩])] ws3 := hws.list1 (by repeat (first | exact rS | refine rN (by assumption) ?_))
  clear HS2 hws
  go_upto_region 3 with (fail)
  refine wp_seq_text [] (StR.no HS3) ?_
  refine Seq.load rfl rfl rfl rfl (by repeat (first | exact mC | apply mT)) (n := 6) rfl (by kernel_rfl) ?_
  simp only [Act.put, nA, nB, nC]
  refine Seq.load rfl rfl rfl rfl (by repeat (first | exact mC | apply mT)) (n := 6) rfl (by kernel_rfl) ?_
  simp only [Act.put, nA, nB, nC]
  refine Seq.call rfl rfl rfl rfl (by kernel_rfl) (dot_q (k := (4 * k + 1)) HT.out ((Z_b1.out.sub Z_a1.out).more (by omega)) ((Z_b2.out.sub Z_a2.out).more (by omega)) ((Z_b1.out.sub Z_a1.out).more (by omega)) ((Z_b2.out.sub Z_a2.out).more (by omega))  rfl (by omega)) ?_
  simp only [Act.put, nA, nB, nC]
  refine Seq.alloc rfl rfl rfl (z := .agg #[.bool false, .string ⟨#[]⟩, .string ⟨#[]⟩]) (by kernel_rfl) rfl ?_
  intro bk10 _ _ hbk10_r
  simp only [Act.put, nA, nB, nC]
  refine Seq.store rfl rfl rfl rfl rfl (by repeat (first | exact rS | refine rN (by assumption) ?_)) (n := 3) rfl rfl (by kernel_rfl) (RC_one _) ?_
  simp only [Act.put, nA, nB, nC]
  refine Seq.done fun ws4 hws => ?_
  have HS4 : St w [(bk10, 24, RC (((b1 - a1) * (b1 - a1)) + ((b2 - a2) * (b2 - a2)))), (bk9, 24, RC (((p1 - a1) * (b1 - a1)) + ((p2 - a2) * (b2 - a2)))), (bk7, 26, VC (b1 - a1) (b2 - a2)), (bk8, 26, VC (p1 - a1) (p2 - a2)), (bk3, 26, VC p1 p2), (bk4, 26, VC a1 a2), (bk5, 26, VC b1 b2), (bk6, 24, #[.bool false, .string ⟨#[]⟩, .string ⟨#[]⟩])] ws4 := hws.list1 (by repeat (first | exact rS | refine rN (by assumption) ?_))
  clear HS3 hws
  go_upto_region 4 with (fail)
  refine wp_seq_text [] (StR.no HS4) ?_
  refine Seq.load rfl rfl rfl rfl (by repeat (first | exact mC | apply mT)) (n := 3) rfl (by kernel_rfl) ?_
  simp only [Act.put, nA, nB, nC]
  refine Seq.call rfl rfl rfl rfl (by kernel_rfl) (sign_q (k := (32 * k + 9)) HT.out ((((Z_p1.out.sub Z_a1.out).mul (Z_b1.out.sub Z_a1.out)).add ((Z_p2.out.sub Z_a2.out).mul (Z_b2.out.sub Z_a2.out))).more (by omega)) HSV.out (by omega)) ?_
  simp only [Act.put, nA, nB, nC]
  iterate 2 (refine Seq.pure rfl rfl (by intro w; go_simp; try rfl) ?_; simp only [Act.put, nA, nB, nC])
  refine Seq.done fun ws5 hws => ?_
  have HS5 := hws.st
  clear HS4 hws
  go_upto_region 6 with (fail)
  refine wp_seq_text [] (StR.no HS5) ?_
  refine Seq.load rfl rfl rfl rfl (by repeat (first | exact mC | apply mT)) (n := 3) rfl (by kernel_rfl) ?_
  simp only [Act.put, nA, nB, nC]
  refine Seq.load rfl rfl rfl rfl (by repeat (first | exact mC | apply mT)) (n := 3) rfl (by kernel_rfl) ?_
  simp only [Act.put, nA, nB, nC]
  refine Seq.call rfl rfl rfl rfl (by kernel_rfl) (cmp_q (k := (32 * k + 9)) HT.out ((((Z_p1.out.sub Z_a1.out).mul (Z_b1.out.sub Z_a1.out)).add ((Z_p2.out.sub Z_a2.out).mul (Z_b2.out.sub Z_a2.out))).more (by omega)) ((((Z_b1.out.sub Z_a1.out).mul (Z_b1.out.sub Z_a1.out)).add ((Z_b2.out.sub Z_a2.out).mul (Z_b2.out.sub Z_a2.out))).more (by omega)) HCV.out (by omega)) ?_
  simp only [Act.put, nA, nB, nC]
  iterate 2 (refine Seq.pure rfl rfl (by intro w; go_simp; try rfl) ?_; simp only [Act.put, nA, nB, nC])
  refine Seq.done fun ws6 hws => ?_
  have HS6 := hws.st
  clear HS5 hws
  go_upto_region 7 with (fail)
  refine wp_seq_text [] (StR.no HS6) ?_
  refine Seq.load rfl rfl rfl rfl (by repeat (first | exact mC | apply mT)) (n := 6) rfl (by kernel_rfl) ?_
  simp only [Act.put, nA, nB, nC]
  refine Seq.load rfl rfl rfl rfl (by repeat (first | exact mC | apply mT)) (n := 6) rfl (by kernel_rfl) ?_
  simp only [Act.put, nA, nB, nC]
  refine Seq.call rfl rfl rfl rfl (by kernel_rfl) (vsub_q (k := (1 * k + 0)) HT.out (Z_p1.out.more (by omega)) (Z_p2.out.more (by omega)) (Z_b1.out.more (by omega)) (Z_b2.out.more (by omega))  rfl rfl (by omega)) ?_
  simp only [Act.put, nA, nB, nC]
  refine Seq.alloc rfl rfl rfl (z := .agg #[.bool false, .string ⟨#[]⟩, .string ⟨#[]⟩, .bool false, .string ⟨#[]⟩, .string ⟨#[]⟩]) (by kernel_rfl) rfl ?_
  intro bk11 _ _ hbk11_r
  simp only [Act.put, nA, nB, nC]
  refine Seq.store rfl rfl rfl rfl rfl (by repeat (first | exact rS | refine rN (by assumption) ?_)) (n := 6) rfl rfl (by kernel_rfl) (VC_one _ _) ?_
  simp only [Act.put, nA, nB, nC]
  refine Seq.done fun ws7 hws => ?_
  have HS7 : St w [(bk11, 26, VC (p1 - b1) (p2 - b2)), (bk10, 24, RC (((b1 - a1) * (b1 - a1)) + ((b2 - a2) * (b2 - a2)))), (bk9, 24, RC (((p1 - a1) * (b1 - a1)) + ((p2 - a2) * (b2 - a2)))), (bk7, 26, VC (b1 - a1) (b2 - a2)), (bk8, 26, VC (p1 - a1) (p2 - a2)), (bk3, 26, VC p1 p2), (bk4, 26, VC a1 a2), (bk5, 26, VC b1 b2), (bk6, 24, #[.bool false, .string ⟨#[]⟩, .string ⟨#[]⟩])] ws7 := hws.list1 (by repeat (first | exact rS | refine rN (by assumption) ?_))
  clear HS6 hws
  go_upto_region 8 with (fail)
  have HPbk6 : St w [(bk6, 24, #[.bool false, .string ⟨#[]⟩, .string ⟨#[]⟩]), (bk11, 26, VC (p1 - b1) (p2 - b2)), (bk10, 24, RC (((b1 - a1) * (b1 - a1)) + ((b2 - a2) * (b2 - a2)))), (bk9, 24, RC (((p1 - a1) * (b1 - a1)) + ((p2 - a2) * (b2 - a2)))), (bk7, 26, VC (b1 - a1) (b2 - a2)), (bk8, 26, VC (p1 - a1) (p2 - a2)), (bk3, 26, VC p1 p2), (bk4, 26, VC a1 a2), (bk5, 26, VC b1 b2)] _ := St.perm HS7 (List.perm_middle (l₁ := ([(bk11, 26, VC (p1 - b1) (p2 - b2)), (bk10, 24, RC (((b1 - a1) * (b1 - a1)) + ((b2 - a2) * (b2 - a2)))), (bk9, 24, RC (((p1 - a1) * (b1 - a1)) + ((p2 - a2) * (b2 - a2)))), (bk7, 26, VC (b1 - a1) (b2 - a2)), (bk8, 26, VC (p1 - a1) (p2 - a2)), (bk3, 26, VC p1 p2), (bk4, 26, VC a1 a2), (bk5, 26, VC b1 b2)] : List Own)))
  refine wp_seq_text [] (StR.move (StR.no HPbk6)) ?_
  refine Seq.load rfl rfl rfl rfl (by repeat (first | exact mC | apply mT)) (n := 6) rfl (by kernel_rfl) ?_
  simp only [Act.put, nA, nB, nC]
  refine Seq.load rfl rfl rfl rfl (by repeat (first | exact mC | apply mT)) (n := 6) rfl (by kernel_rfl) ?_
  simp only [Act.put, nA, nB, nC]
  refine Seq.call rfl rfl rfl rfl (by kernel_rfl) (dot_q (k := (4 * k + 1)) HT.out ((Z_p1.out.sub Z_b1.out).more (by omega)) ((Z_p2.out.sub Z_b2.out).more (by omega)) ((Z_p1.out.sub Z_b1.out).more (by omega)) ((Z_p2.out.sub Z_b2.out).more (by omega))  rfl (by omega)) ?_
  simp only [Act.put, nA, nB, nC]
  refine Seq.store rfl rfl rfl rfl rfl (by repeat (first | exact rS | refine rN (by assumption) ?_)) (n := 3) rfl rfl (by kernel_rfl) (RC_one _) ?_
  simp only [Act.put, nA, nB, nC]
  refine Seq.done fun ws8 hws => ?_
  have HS8 : St w [(bk6, 24, RC (((p1 - b1) * (p1 - b1)) + ((p2 - b2) * (p2 - b2)))), (bk11, 26, VC (p1 - b1) (p2 - b2)), (bk10, 24, RC (((b1 - a1) * (b1 - a1)) + ((b2 - a2) * (b2 - a2)))), (bk9, 24, RC (((p1 - a1) * (b1 - a1)) + ((p2 - a2) * (b2 - a2)))), (bk7, 26, VC (b1 - a1) (b2 - a2)), (bk8, 26, VC (p1 - a1) (p2 - a2)), (bk3, 26, VC p1 p2), (bk4, 26, VC a1 a2), (bk5, 26, VC b1 b2)] ws8 := hws.list1 (by repeat (first | exact rS | refine rN (by assumption) ?_))
  clear HS7 hws HPbk6
  go_wp2_with fail
  exact ret_own rfl rfl rfl HS8 (by repeat (first | exact mC | apply mT)) (n := 3) rfl (by kernel_rfl) ⟨rfl, HS8.below⟩
set_option maxHeartbeats 2000000 in
set_option maxRecDepth 20000 in
theorem te_2 {k : Nat} {p1 p2 a1 a2 b1 b2 : Rat} {W : World} {l : List Own} (hT : Tab W) (Zp1 : Rz k p1) (Zp2 : Rz k p2) (Za1 : Rz k a1) (Za2 : Rz k a2) (Zb1 : Rz k b1) (Zb2 : Rz k b2) (h1 : ¬ (p1 - a1) * (b1 - a1) + (p2 - a2) * (b2 - a2) ≤ 0) (h2 : ¬ (b1 - a1) * (b1 - a1) + (b2 - a2) * (b2 - a2) ≤ (p1 - a1) * (b1 - a1) + (p2 - a2) * (b2 - a2)) (hk : k ≤ 1000000000) (w : World) (h : St W l w) :
    Calls Tryz.prog 109 #[.agg (VC p1 p2), .agg (VC a1 a2), .agg (VC b1 b2)] w fun e w' => e = .returned (.agg (RC ((((b1 - a1) * (p2 - a2) - (b2 - a2) * (p1 - a1)) * ((b1 - a1) * (p2 - a2) - (b2 - a2) * (p1 - a1))) / ((b1 - a1) * (b1 - a1) + (b2 - a2) * (b2 - a2))))) ∧ Below w.heap.size w w' := by
  have HT := Lib.hid (tabS hT h); clear hT h
  have Z_p1 := Lib.hid Zp1; clear Zp1
  have Z_p2 := Lib.hid Zp2; clear Zp2
  have Z_a1 := Lib.hid Za1; clear Za1
  have Z_a2 := Lib.hid Za2; clear Za2
  have Z_b1 := Lib.hid Zb1; clear Zb1
  have Z_b2 := Lib.hid Zb2; clear Zb2
  obtain ⟨sv, hsv, hs0⟩ : ∃ v, sgnQ ((p1 - a1) * (b1 - a1) + (p2 - a2) * (b2 - a2)) = v ∧ decide (v ≤ 0) = false := ⟨_, rfl, decide_eq_false (fun c => h1 (sgn_le.1 c))⟩
  have HSV := Lib.hid hsv; clear hsv
  obtain ⟨cv, hcv, hc0⟩ : ∃ v, cmpQ ((p1 - a1) * (b1 - a1) + (p2 - a2) * (b2 - a2)) ((b1 - a1) * (b1 - a1) + (b2 - a2) * (b2 - a2)) = v ∧ decide (0 ≤ v) = false := ⟨_, rfl, decide_eq_false (fun c => h2 (cmp_le_iff.1 c))⟩
  have HCV := Lib.hid hcv; clear hcv
  have HNE := Lib.hid (show (b1 - a1) * (b1 - a1) + (b2 - a2) * (b2 - a2) ≠ 0 from fun c => h2 (by rw [c]; grind))
  clear h1 h2
  go_enter Tryz.func109, Tryz.ntmps109
  have HS : St w [] w := St.start
  go_upto_region 0 with (fail)
  refine wp_seq_text [] (StR.no HS) ?_
  refine Seq.box rfl rfl rfl (v := .agg (VC p1 p2)) (cs := VC p1 p2) rfl rfl ?_
  intro bk3 _ _ hbk3_r
  simp only [Act.put, nA, nB, nC]
  refine Seq.box rfl rfl rfl (v := .agg (VC a1 a2)) (cs := VC a1 a2) rfl rfl ?_
  intro bk4 _ _ hbk4_r
  obtain ⟨ne_bk4_bk3, hbk4_r⟩ := Reg.ne_of_put hbk4_r
  have ne_bk3_bk4 := Ne.symm ne_bk4_bk3
  simp only [Act.put, nA, nB, nC]
  refine Seq.box rfl rfl rfl (v := .agg (VC b1 b2)) (cs := VC b1 b2) rfl rfl ?_
  intro bk5 _ _ hbk5_r
  obtain ⟨ne_bk5_bk4, hbk5_r⟩ := Reg.ne_of_put hbk5_r
  have ne_bk4_bk5 := Ne.symm ne_bk5_bk4
  obtain ⟨ne_bk5_bk3, hbk5_r⟩ := Reg.ne_of_put hbk5_r
  have ne_bk3_bk5 := Ne.symm ne_bk5_bk3
  simp only [Act.put, nA, nB, nC]
  refine Seq.alloc rfl rfl rfl (z := .agg #[.bool false, .string ⟨#[]⟩, .string ⟨#[]⟩]) (by kernel_rfl) rfl ?_
  intro bk6 _ _ hbk6_r
  obtain ⟨ne_bk6_bk5, hbk6_r⟩ := Reg.ne_of_put hbk6_r
  have ne_bk5_bk6 := Ne.symm ne_bk6_bk5
  obtain ⟨ne_bk6_bk4, hbk6_r⟩ := Reg.ne_of_put hbk6_r
  have ne_bk4_bk6 := Ne.symm ne_bk6_bk4
  obtain ⟨ne_bk6_bk3, hbk6_r⟩ := Reg.ne_of_put hbk6_r
  have ne_bk3_bk6 := Ne.symm ne_bk6_bk3
  simp only [Act.put, nA, nB, nC]
  refine Seq.done fun ws1 hws => ?_
  have HS1 : St w [(bk3, 26, VC p1 p2), (bk4, 26, VC a1 a2), (bk5, 26, VC b1 b2), (bk6, 24, #[.bool false, .string ⟨#[]⟩, .string ⟨#[]⟩])] ws1 := hws.listN [(bk3, 26, VC p1 p2), (bk4, 26, VC a1 a2), (bk5, 26, VC b1 b2), (bk6, 24, #[.bool false, .string ⟨#[]⟩, .string ⟨#[]⟩])] (by simp [*]) (by intro e he; simp only [List.mem_cons, List.not_mem_nil, or_false] at he; rcases he with rfl | rfl | rfl | rfl <;> first | exact Reg.put_same _ _ _ | simp [Reg.put, *])
  clear HS hws
  go_upto_region 1 with (fail)
  refine wp_seq [] (by kernel_rfl) (by kernel_rfl) Reg.fin_no (StR.no HS1) ?_
  refine Seq.load rfl rfl rfl rfl (by repeat (first | exact mC | apply mT)) (n := 6) rfl (by kernel_rfl) ?_
  simp only [Act.put, nA, nB, nC]
  refine Seq.load rfl rfl rfl rfl (by repeat (first | exact mC | apply mT)) (n := 6) rfl (by kernel_rfl) ?_
  simp only [Act.put, nA, nB, nC]
  refine Seq.call rfl rfl rfl rfl (by kernel_rfl) (vsub_q (k := (1 * k + 0)) HT.out (Z_b1.out.more (by omega)) (Z_b2.out.more (by omega)) (Z_a1.out.more (by omega)) (Z_a2.out.more (by omega))  rfl rfl (by omega)) ?_
  simp only [Act.put, nA, nB, nC]
  refine Seq.load rfl rfl rfl rfl (by repeat (first | exact mC | apply mT)) (n := 6) rfl (by kernel_rfl) ?_
  simp only [Act.put, nA, nB, nC]
  refine Seq.load rfl rfl rfl rfl (by repeat (first | exact mC | apply mT)) (n := 6) rfl (by kernel_rfl) ?_
  simp only [Act.put, nA, nB, nC]
  refine Seq.call rfl rfl rfl rfl (by kernel_rfl) (vsub_q (k := (1 * k + 0)) HT.out (Z_p1.out.more (by omega)) (Z_p2.out.more (by omega)) (Z_a1.out.more (by omega)) (Z_a2.out.more (by omega))  rfl rfl (by omega)) ?_
  simp only [Act.put, nA, nB, nC]
  refine Seq.alloc rfl rfl rfl (z := .agg #[.bool false, .string ⟨#[]⟩, .string ⟨#[]⟩, .bool false, .string ⟨#[]⟩, .string ⟨#[]⟩]) (by kernel_rfl) rfl ?_
  intro bk7 _ _ hbk7_r
  simp only [Act.put, nA, nB, nC]
  refine Seq.alloc rfl rfl rfl (z := .agg #[.bool false, .string ⟨#[]⟩, .string ⟨#[]⟩, .bool false, .string ⟨#[]⟩, .string ⟨#[]⟩]) (by kernel_rfl) rfl ?_
  intro bk8 _ _ hbk8_r
  obtain ⟨ne_bk8_bk7, hbk8_r⟩ := Reg.ne_of_put hbk8_r
  have ne_bk7_bk8 := Ne.symm ne_bk8_bk7
  simp only [Act.put, nA, nB, nC]
  refine Seq.store rfl rfl rfl rfl rfl (by repeat (first | exact rS | refine rN (by assumption) ?_)) (n := 6) rfl rfl (by kernel_rfl) (VC_one _ _) ?_
  simp only [Act.put, nA, nB, nC]
  refine Seq.store rfl rfl rfl rfl rfl (by repeat (first | exact rS | refine rN (by assumption) ?_)) (n := 6) rfl rfl (by kernel_rfl) (VC_one _ _) ?_
  simp only [Act.put, nA, nB, nC]
  refine Seq.done fun ws2 hws => ?_
  have HS2 : St w [(bk7, 26, VC (b1 - a1) (b2 - a2)), (bk8, 26, VC (p1 - a1) (p2 - a2)), (bk3, 26, VC p1 p2), (bk4, 26, VC a1 a2), (bk5, 26, VC b1 b2), (bk6, 24, #[.bool false, .string ⟨#[]⟩, .string ⟨#[]⟩])] ws2 := hws.list2 (by repeat (first | exact rS | refine rN (by assumption) ?_)) (by repeat (first | exact rS | refine rN (by assumption) ?_)) (by assumption)
  clear HS1 hws
  go_upto_region 2 with (fail)
  refine wp_seq_text [] (StR.no HS2) ?_
  refine Seq.load rfl rfl rfl rfl (by repeat (first | exact mC | apply mT)) (n := 6) rfl (by kernel_rfl) ?_
  simp only [Act.put, nA, nB, nC]
  refine Seq.load rfl rfl rfl rfl (by repeat (first | exact mC | apply mT)) (n := 6) rfl (by kernel_rfl) ?_
  simp only [Act.put, nA, nB, nC]
  refine Seq.call rfl rfl rfl rfl (by kernel_rfl) (dot_q (k := (4 * k + 1)) HT.out ((Z_p1.out.sub Z_a1.out).more (by omega)) ((Z_p2.out.sub Z_a2.out).more (by omega)) ((Z_b1.out.sub Z_a1.out).more (by omega)) ((Z_b2.out.sub Z_a2.out).more (by omega))  rfl (by omega)) ?_
  simp only [Act.put, nA, nB, nC]
  refine Seq.alloc rfl rfl rfl (z := .agg #[.bool false, .string ⟨#[]⟩, .string ⟨#[]⟩]) (by kernel_rfl) rfl ?_
  intro bk9 _ _ hbk9_r
  simp only [Act.put, nA, nB, nC]
  refine Seq.store rfl rfl rfl rfl rfl (by repeat (first | exact rS | refine rN (by assumption) ?_)) (n := 3) rfl rfl (by kernel_rfl) (RC_one _) ?_
  simp only [Act.put, nA, nB, nC]
  refine Seq.done fun ws3 hws => ?_
  have HS3 : St w [(bk9, 24, RC (((p1 - a1) * (b1 - a1)) + ((p2 - a2) * (b2 - a2)))), (bk7, 26, VC (b1 - a1) (b2 - a2)), (bk8, 26, VC (p1 - a1) (p2 - a2)), (bk3, 26, VC p1 p2), (bk4, 26, VC a1 a2), (bk5, 26, VC b1 b2), (bk6, 24, #[.bool false, .string ⟨#[]⟩, .string ⟨#[]⟩])] ws3 := hws.list1 (by repeat (first | exact rS | refine rN (by assumption) ?_))
  clear HS2 hws
  go_upto_region 3 with (fail)
  refine wp_seq_text [] (StR.no HS3) ?_
  refine Seq.load rfl rfl rfl rfl (by repeat (first | exact mC | apply mT)) (n := 6) rfl (by kernel_rfl) ?_
  simp only [Act.put, nA, nB, nC]
  refine Seq.load rfl rfl rfl rfl (by repeat (first | exact mC | apply mT)) (n := 6) rfl (by kernel_rfl) ?_
  simp only [Act.put, nA, nB, nC]
  refine Seq.call rfl rfl rfl rfl (by kernel_rfl) (dot_q (k := (4 * k + 1)) HT.out ((Z_b1.out.sub Z_a1.out).more (by omega)) ((Z_b2.out.sub Z_a2.out).more (by omega)) ((Z_b1.out.sub Z_a1.out).more (by omega)) ((Z_b2.out.sub Z_a2.out).more (by omega))  rfl (by omega)) ?_
  simp only [Act.put, nA, nB, nC]
  refine Seq.alloc rfl rfl rfl (z := .agg #[.bool false, .string ⟨#[]⟩, .string ⟨#[]⟩]) (by kernel_rfl) rfl ?_
  intro bk10 _ _ hbk10_r
  simp only [Act.put, nA, nB, nC]
  refine Seq.store rfl rfl rfl rfl rfl (by repeat (first | exact rS | refine rN (by assumption) ?_)) (n := 3) rfl rfl (by kernel_rfl) (RC_one _) ?_
  simp only [Act.put, nA, nB, nC]
  refine Seq.done fun ws4 hws => ?_
  have HS4 : St w [(bk10, 24, RC (((b1 - a1) * (b1 - a1)) + ((b2 - a2) * (b2 - a2)))), (bk9, 24, RC (((p1 - a1) * (b1 - a1)) + ((p2 - a2) * (b2 - a2)))), (bk7, 26, VC (b1 - a1) (b2 - a2)), (bk8, 26, VC (p1 - a1) (p2 - a2)), (bk3, 26, VC p1 p2), (bk4, 26, VC a1 a2), (bk5, 26, VC b1 b2), (bk6, 24, #[.bool false, .string ⟨#[]⟩, .string ⟨#[]⟩])] ws4 := hws.list1 (by repeat (first | exact rS | refine rN (by assumption) ?_))
  clear HS3 hws
  go_upto_region 4 with (fail)
  refine wp_seq_text [] (StR.no HS4) ?_
  refine Seq.load rfl rfl rfl rfl (by repeat (first | exact mC | apply mT)) (n := 3) rfl (by kernel_rfl) ?_
  simp only [Act.put, nA, nB, nC]
  refine Seq.call rfl rfl rfl rfl (by kernel_rfl) (sign_q (k := (32 * k + 9)) HT.out ((((Z_p1.out.sub Z_a1.out).mul (Z_b1.out.sub Z_a1.out)).add ((Z_p2.out.sub Z_a2.out).mul (Z_b2.out.sub Z_a2.out))).more (by omega)) HSV.out (by omega)) ?_
  simp only [Act.put, nA, nB, nC]
  iterate 2 (refine Seq.pure rfl rfl (by intro w; go_simp; try rfl) ?_; simp only [Act.put, nA, nB, nC])
  refine Seq.done fun ws5 hws => ?_
  have HS5 := hws.st
  clear HS4 hws
  go_upto_region 6 with (fail)
  refine wp_seq_text [] (StR.no HS5) ?_
  refine Seq.load rfl rfl rfl rfl (by repeat (first | exact mC | apply mT)) (n := 3) rfl (by kernel_rfl) ?_
  simp only [Act.put, nA, nB, nC]
  refine Seq.load rfl rfl rfl rfl (by repeat (first | exact mC | apply mT)) (n := 3) rfl (by kernel_rfl) ?_
  simp only [Act.put, nA, nB, nC]
  refine Seq.call rfl rfl rfl rfl (by kernel_rfl) (cmp_q (k := (32 * k + 9)) HT.out ((((Z_p1.out.sub Z_a1.out).mul (Z_b1.out.sub Z_a1.out)).add ((Z_p2.out.sub Z_a2.out).mul (Z_b2.out.sub Z_a2.out))).more (by omega)) ((((Z_b1.out.sub Z_a1.out).mul (Z_b1.out.sub Z_a1.out)).add ((Z_b2.out.sub Z_a2.out).mul (Z_b2.out.sub Z_a2.out))).more (by omega)) HCV.out (by omega)) ?_
  simp only [Act.put, nA, nB, nC]
  iterate 2 (refine Seq.pure rfl rfl (by intro w; go_simp; try rfl) ?_; simp only [Act.put, nA, nB, nC])
  refine Seq.done fun ws6 hws => ?_
  have HS6 := hws.st
  clear HS5 hws
  go_upto_region 9 with (fail)
  refine wp_seq_text [] (StR.no HS6) ?_
  refine Seq.load rfl rfl rfl rfl (by repeat (first | exact mC | apply mT)) (n := 6) rfl (by kernel_rfl) ?_
  simp only [Act.put, nA, nB, nC]
  refine Seq.load rfl rfl rfl rfl (by repeat (first | exact mC | apply mT)) (n := 6) rfl (by kernel_rfl) ?_
  simp only [Act.put, nA, nB, nC]
  refine Seq.call rfl rfl rfl rfl (by kernel_rfl) (cross_q (k := (4 * k + 1)) HT.out ((Z_b1.out.sub Z_a1.out).more (by omega)) ((Z_b2.out.sub Z_a2.out).more (by omega)) ((Z_p1.out.sub Z_a1.out).more (by omega)) ((Z_p2.out.sub Z_a2.out).more (by omega))  rfl (by omega)) ?_
  simp only [Act.put, nA, nB, nC]
  refine Seq.alloc rfl rfl rfl (z := .agg #[.bool false, .string ⟨#[]⟩, .string ⟨#[]⟩]) (by kernel_rfl) rfl ?_
  intro bk12 _ _ hbk12_r
  simp only [Act.put, nA, nB, nC]
  refine Seq.store rfl rfl rfl rfl rfl (by repeat (first | exact rS | refine rN (by assumption) ?_)) (n := 3) rfl rfl (by kernel_rfl) (RC_one _) ?_
  simp only [Act.put, nA, nB, nC]
  refine Seq.done fun ws7 hws => ?_
  have HS7 : St w [(bk12, 24, RC (((b1 - a1) * (p2 - a2)) - ((b2 - a2) * (p1 - a1)))), (bk10, 24, RC (((b1 - a1) * (b1 - a1)) + ((b2 - a2) * (b2 - a2)))), (bk9, 24, RC (((p1 - a1) * (b1 - a1)) + ((p2 - a2) * (b2 - a2)))), (bk7, 26, VC (b1 - a1) (b2 - a2)), (bk8, 26, VC (p1 - a1) (p2 - a2)), (bk3, 26, VC p1 p2), (bk4, 26, VC a1 a2), (bk5, 26, VC b1 b2), (bk6, 24, #[.bool false, .string ⟨#[]⟩, .string ⟨#[]⟩])] ws7 := hws.list1 (by repeat (first | exact rS | refine rN (by assumption) ?_))
  clear HS6 hws
  go_upto_region 10 with (fail)
  refine wp_seq [] (by kernel_rfl) (by kernel_rfl) Reg.fin_no (StR.no HS7) ?_
  refine Seq.load rfl rfl rfl rfl (by repeat (first | exact mC | apply mT)) (n := 3) rfl (by kernel_rfl) ?_
  simp only [Act.put, nA, nB, nC]
  refine Seq.load rfl rfl rfl rfl (by repeat (first | exact mC | apply mT)) (n := 3) rfl (by kernel_rfl) ?_
  simp only [Act.put, nA, nB, nC]
  refine Seq.call rfl rfl rfl rfl (by kernel_rfl) (mul_q (k := (32 * k + 9)) HT.out ((((Z_b1.out.sub Z_a1.out).mul (Z_p2.out.sub Z_a2.out)).sub ((Z_b2.out.sub Z_a2.out).mul (Z_p1.out.sub Z_a1.out))).more (by omega)) ((((Z_b1.out.sub Z_a1.out).mul (Z_p2.out.sub Z_a2.out)).sub ((Z_b2.out.sub Z_a2.out).mul (Z_p1.out.sub Z_a1.out))).more (by omega)) rfl (by omega)) ?_
  simp only [Act.put, nA, nB, nC]
  refine Seq.load rfl rfl rfl rfl (by repeat (first | exact mC | apply mT)) (n := 3) rfl (by kernel_rfl) ?_
  simp only [Act.put, nA, nB, nC]
  refine Seq.call rfl rfl rfl rfl (by kernel_rfl) (div_q (k := (64 * k + 18)) HT.out (((((Z_b1.out.sub Z_a1.out).mul (Z_p2.out.sub Z_a2.out)).sub ((Z_b2.out.sub Z_a2.out).mul (Z_p1.out.sub Z_a1.out))).mul (((Z_b1.out.sub Z_a1.out).mul (Z_p2.out.sub Z_a2.out)).sub ((Z_b2.out.sub Z_a2.out).mul (Z_p1.out.sub Z_a1.out)))).more (by omega)) ((((Z_b1.out.sub Z_a1.out).mul (Z_b1.out.sub Z_a1.out)).add ((Z_b2.out.sub Z_a2.out).mul (Z_b2.out.sub Z_a2.out))).more (by omega)) HNE.out rfl (by omega)) ?_
  simp only [Act.put, nA, nB, nC]
  refine Seq.pure rfl rfl (by intro w; go_simp; try rfl) ?_
  simp only [Act.put, nA, nB, nC]
  refine Seq.pure (v := .agg (RC (((((b1 - a1) * (p2 - a2)) - ((b2 - a2) * (p1 - a1))) * (((b1 - a1) * (p2 - a2)) - ((b2 - a2) * (p1 - a1)))) / (((b1 - a1) * (b1 - a1)) + ((b2 - a2) * (b2 - a2)))))) rfl rfl (fun w => rfl) ?_
  simp only [Act.put, nA, nB, nC]
  refine Seq.pure (v := .int .i64 0) rfl rfl (fun w => rfl) ?_
  simp only [Act.put, nA, nB, nC]
  refine Seq.alloc rfl rfl rfl (z := .agg #[.bool false, .string ⟨#[]⟩, .string ⟨#[]⟩]) (by kernel_rfl) rfl ?_
  intro bk13 _ _ hbk13_r
  simp only [Act.put, nA, nB, nC]
  refine Seq.store rfl rfl rfl rfl rfl (by repeat (first | exact rS | refine rN (by assumption) ?_)) (n := 3) rfl rfl (by kernel_rfl) (RC_one _) ?_
  simp only [Act.put, nA, nB, nC]
  refine Seq.pure rfl rfl (by intro w; go_simp; try rfl) ?_
  simp only [Act.put, nA, nB, nC]
  refine Seq.done fun ws8 hws => ?_
  have HS8 : St w [(bk13, 24, RC (((((b1 - a1) * (p2 - a2)) - ((b2 - a2) * (p1 - a1))) * (((b1 - a1) * (p2 - a2)) - ((b2 - a2) * (p1 - a1)))) / (((b1 - a1) * (b1 - a1)) + ((b2 - a2) * (b2 - a2))))), (bk12, 24, RC (((b1 - a1) * (p2 - a2)) - ((b2 - a2) * (p1 - a1)))), (bk10, 24, RC (((b1 - a1) * (b1 - a1)) + ((b2 - a2) * (b2 - a2)))), (bk9, 24, RC (((p1 - a1) * (b1 - a1)) + ((p2 - a2) * (b2 - a2)))), (bk7, 26, VC (b1 - a1) (b2 - a2)), (bk8, 26, VC (p1 - a1) (p2 - a2)), (bk3, 26, VC p1 p2), (bk4, 26, VC a1 a2), (bk5, 26, VC b1 b2), (bk6, 24, #[.bool false, .string ⟨#[]⟩, .string ⟨#[]⟩])] ws8 := hws.list1 (by repeat (first | exact rS | refine rN (by assumption) ?_))
  clear HS7 hws
  go_upto_region 11 with (fail)
  have HPbk6 : St w [(bk6, 24, #[.bool false, .string ⟨#[]⟩, .string ⟨#[]⟩]), (bk13, 24, RC (((((b1 - a1) * (p2 - a2)) - ((b2 - a2) * (p1 - a1))) * (((b1 - a1) * (p2 - a2)) - ((b2 - a2) * (p1 - a1)))) / (((b1 - a1) * (b1 - a1)) + ((b2 - a2) * (b2 - a2))))), (bk12, 24, RC (((b1 - a1) * (p2 - a2)) - ((b2 - a2) * (p1 - a1)))), (bk10, 24, RC (((b1 - a1) * (b1 - a1)) + ((b2 - a2) * (b2 - a2)))), (bk9, 24, RC (((p1 - a1) * (b1 - a1)) + ((p2 - a2) * (b2 - a2)))), (bk7, 26, VC (b1 - a1) (b2 - a2)), (bk8, 26, VC (p1 - a1) (p2 - a2)), (bk3, 26, VC p1 p2), (bk4, 26, VC a1 a2), (bk5, 26, VC b1 b2)] _ := St.perm HS8 (List.perm_middle (l₁ := ([(bk13, 24, RC (((((b1 - a1) * (p2 - a2)) - ((b2 - a2) * (p1 - a1))) * (((b1 - a1) * (p2 - a2)) - ((b2 - a2) * (p1 - a1)))) / (((b1 - a1) * (b1 - a1)) + ((b2 - a2) * (b2 - a2))))), (bk12, 24, RC (((b1 - a1) * (p2 - a2)) - ((b2 - a2) * (p1 - a1)))), (bk10, 24, RC (((b1 - a1) * (b1 - a1)) + ((b2 - a2) * (b2 - a2)))), (bk9, 24, RC (((p1 - a1) * (b1 - a1)) + ((p2 - a2) * (b2 - a2)))), (bk7, 26, VC (b1 - a1) (b2 - a2)), (bk8, 26, VC (p1 - a1) (p2 - a2)), (bk3, 26, VC p1 p2), (bk4, 26, VC a1 a2), (bk5, 26, VC b1 b2)] : List Own)))
  refine wp_seq_text [] (StR.move (StR.no HPbk6)) ?_
  refine Seq.load rfl rfl rfl rfl (by repeat (first | exact mC | apply mT)) (n := 3) rfl (by kernel_rfl) ?_
  simp only [Act.put, nA, nB, nC]
  refine Seq.store rfl rfl rfl rfl rfl (by repeat (first | exact rS | refine rN (by assumption) ?_)) (n := 3) rfl rfl (by kernel_rfl) (RC_one _) ?_
  simp only [Act.put, nA, nB, nC]
  refine Seq.done fun ws9 hws => ?_
  have HS9 : St w [(bk6, 24, RC (((((b1 - a1) * (p2 - a2)) - ((b2 - a2) * (p1 - a1))) * (((b1 - a1) * (p2 - a2)) - ((b2 - a2) * (p1 - a1)))) / (((b1 - a1) * (b1 - a1)) + ((b2 - a2) * (b2 - a2))))), (bk13, 24, RC (((((b1 - a1) * (p2 - a2)) - ((b2 - a2) * (p1 - a1))) * (((b1 - a1) * (p2 - a2)) - ((b2 - a2) * (p1 - a1)))) / (((b1 - a1) * (b1 - a1)) + ((b2 - a2) * (b2 - a2))))), (bk12, 24, RC (((b1 - a1) * (p2 - a2)) - ((b2 - a2) * (p1 - a1)))), (bk10, 24, RC (((b1 - a1) * (b1 - a1)) + ((b2 - a2) * (b2 - a2)))), (bk9, 24, RC (((p1 - a1) * (b1 - a1)) + ((p2 - a2) * (b2 - a2)))), (bk7, 26, VC (b1 - a1) (b2 - a2)), (bk8, 26, VC (p1 - a1) (p2 - a2)), (bk3, 26, VC p1 p2), (bk4, 26, VC a1 a2), (bk5, 26, VC b1 b2)] ws9 := hws.list1 (by repeat (first | exact rS | refine rN (by assumption) ?_))
  clear HS8 hws HPbk6
  go_wp2_with fail
  exact ret_own rfl rfl rfl HS9 (by repeat (first | exact mC | apply mT)) (n := 3) rfl (by kernel_rfl) ⟨rfl, HS9.below⟩
theorem te_q {k : Nat} {p1 p2 a1 a2 b1 b2 z0 : Rat} {W : World} {l : List Own} (hT : Tab W) (Zp1 : Rz k p1) (Zp2 : Rz k p2) (Za1 : Rz k a1) (Za2 : Rz k a2) (Zb1 : Rz k b1) (Zb2 : Rz k b2) (hz0 : teQ p1 p2 a1 a2 b1 b2 = z0) (hk : k ≤ 1000000000) (w : World) (h : St W l w) :
    Calls Tryz.prog 109 #[.agg (VC p1 p2), .agg (VC a1 a2), .agg (VC b1 b2)] w fun e w' => e = .returned (.agg (RC z0)) ∧ Below w.heap.size w w' := by
  subst hz0
  unfold teQ
  split
  · rename_i h1; exact te_0 hT Zp1 Zp2 Za1 Za2 Zb1 Zb2 h1 hk w h
  · rename_i h1
    split
    · rename_i h2; exact te_1 hT Zp1 Zp2 Za1 Za2 Zb1 Zb2 h1 h2 hk w h
    · rename_i h2; exact te_2 hT Zp1 Zp2 Za1 Za2 Zb1 Zb2 h1 h2 hk w h
theorem te_rz {k : Nat} {p1 p2 a1 a2 b1 b2 : Rat} (Zp1 : Rz k p1) (Zp2 : Rz k p2) (Za1 : Rz k a1) (Za2 : Rz k a2) (Zb1 : Rz k b1) (Zb2 : Rz k b2) : Rz (96 * k + 27) (teQ p1 p2 a1 a2 b1 b2) := by
  have sb : ∀ {x y : Rat}, Rz k x → Rz k y → Rz (4 * k + 1) (x - y) := fun hx hy => (hx.sub hy).more (by omega)
  have dt : ∀ {x y z u : Rat}, Rz (4 * k + 1) x → Rz (4 * k + 1) y → Rz (4 * k + 1) z → Rz (4 * k + 1) u → Rz (32 * k + 9) (x * y + z * u) := fun hx hy hz hu => ((hx.mul hy).add (hz.mul hu)).more (by omega)
  have ct : ∀ {x y z u : Rat}, Rz (4 * k + 1) x → Rz (4 * k + 1) y → Rz (4 * k + 1) z → Rz (4 * k + 1) u → Rz (32 * k + 9) (x * y - z * u) := fun hx hy hz hu => ((hx.mul hy).sub (hz.mul hu)).more (by omega)
  unfold teQ
  split
  · exact (dt (sb Zp1 Za1) (sb Zp1 Za1) (sb Zp2 Za2) (sb Zp2 Za2)).more (by omega)
  · split
    · exact (dt (sb Zp1 Zb1) (sb Zp1 Zb1) (sb Zp2 Zb2) (sb Zp2 Zb2)).more (by omega)
    · rename_i h1 h2
      have c := ct (sb Zb1 Za1) (sb Zp2 Za2) (sb Zb2 Za2) (sb Zp1 Za1)
      exact ((c.mul c).div (dt (sb Zb1 Za1) (sb Zb1 Za1) (sb Zb2 Za2) (sb Zb2 Za2)) (fun e => h2 (by rw [e]; grind))).more (by omega)
theorem near_rz {k : Nat} {x y : Rat} {ps : Pts} (hz : Pz k ps) (hx : Rz k x) (hy : Rz k y) (h2 : 2 ≤ ps.length) : ∀ i, i ≤ ps.length → Rz (96 * k + 27) (nearF x y ps i) := by
  intro i
  induction i with
  | zero => intro _; exact te_rz hx hy (hz.x (show 0 < ps.length by omega)) (hz.y (show 0 < ps.length by omega)) (hz.x (show 1 < ps.length by omega)) (hz.y (show 1 < ps.length by omega))
  | succ i ih =>
    intro hi
    have hj : (i + 1) % ps.length < ps.length := Nat.mod_lt _ (by omega)
    simp only [nearF]
    exact (ih (by omega)).min (te_rz hx hy (hz.x (show i < ps.length by omega)) (hz.y (show i < ps.length by omega)) (hz.x hj) (hz.y hj))
theorem nearQ_rz {k : Nat} {x y : Rat} {ps : Pts} (hz : Pz k ps) (hx : Rz k x) (hy : Rz k y) (h2 : 2 ≤ ps.length) : Rz (96 * k + 27) (nearQ x y ps) := near_rz hz hx hy h2 _ (Nat.le_refl _)
theorem sqA_rz {k : Nat} {a b : Pts} (ha : Pz k a) (hb : Pz k b) (h1 : 2 ≤ a.length) (h2 : 2 ≤ b.length) : ∀ i, i ≤ a.length → Rz (96 * k + 27) (sqA a b i) := by
  intro i
  induction i with
  | zero => intro _; exact nearQ_rz hb (ha.x (show 0 < a.length by omega)) (ha.y (show 0 < a.length by omega)) h2
  | succ i ih => intro hi; exact (ih (by omega)).min (nearQ_rz hb (ha.x (show i < a.length by omega)) (ha.y (show i < a.length by omega)) h2)
theorem sqB_rz {k : Nat} {a b : Pts} {v : Rat} (ha : Pz k a) (hb : Pz k b) (h1 : 2 ≤ a.length) (h2 : 2 ≤ b.length) (hv : Rz (96 * k + 27) v) : ∀ j, j ≤ b.length → Rz (96 * k + 27) (sqB a b v j) := by
  intro j
  induction j with
  | zero => intro _; exact hv
  | succ j ih => intro hj; exact (ih (by omega)).min (nearQ_rz ha (hb.x (show j < b.length by omega)) (hb.y (show j < b.length by omega)) h1)
set_option maxHeartbeats 4000000 in
set_option maxRecDepth 20000 in
theorem near_q {k n : Nat} {ps : Pts} {v1 v2 : Rat} {W : World} {l : List Own} (hT : Tab W) (hz : Pz k ps) (hl : ps.length = n) (hcv : 3 ≤ n ∧ n ≤ 64 ∧ Cvx ps) (Zv1 : Rz k v1) (Zv2 : Rz k v2) (hk : k ≤ 1000000000) (g : Nat) (w : World) (h : St W l w) (hg : Blk w g 26 (PC ps)) :
    Calls Tryz.prog 77 #[.agg (VC v1 v2), .slice (some ⟨g, 0, none⟩) n n] w fun e w' => e = .returned (.agg (RC (nearQ v1 v2 ps))) ∧ Below w.heap.size w w' := by
  have HT := Lib.hid (tabS hT h); clear hT h
  have HG := Lib.hid hg; clear hg
  have HL := Lib.hid hl; clear hl
  have HNZ := Lib.hid (show ¬ n = 0 by have := hcv.1; omega)
  have HZP := Lib.hid (show Pz (1 * k + 0) ps by rw [Nat.one_mul]; exact hz); clear hz
  have HCV := Lib.hid (show 3 ≤ n ∧ n ≤ 64 ∧ True from ⟨hcv.1, hcv.2.1, trivial⟩)
  have HPOS := Lib.hid (show 0 < n ∧ 1 < n from ⟨by have := hcv.1; omega, by have := hcv.1; omega⟩)
  have Z_v1 := Lib.hid Zv1; clear Zv1
  have Z_v2 := Lib.hid Zv2; clear Zv2
  have HZN := Lib.hid (show Rz (96 * k + 27) (nearF v1 v2 ps 0) from near_rz (show Pz k ps by have := HZP.out; rwa [Nat.one_mul] at this) Z_v1.out Z_v2.out (by rw [HL.out]; omega) 0 (by omega))
  clear hcv
  go_enter Tryz.func77, Tryz.ntmps77
  have HS : St w [] w := St.start
  go_upto_region 0 with (fail)
  refine wp_seq_text [] (StR.no HS) ?_
  refine Seq.box rfl rfl rfl (v := .agg (VC v1 v2)) (cs := VC v1 v2) rfl rfl ?_
  intro bk2 _ _ hbk2_r
  simp only [Act.put, nA, nB, nC]
  refine Seq.alloc rfl rfl rfl (z := .agg #[.bool false, .string ⟨#[]⟩, .string ⟨#[]⟩]) (by kernel_rfl) rfl ?_
  intro bk4 _ _ hbk4_r
  obtain ⟨ne_bk4_bk2, hbk4_r⟩ := Reg.ne_of_put hbk4_r
  have ne_bk2_bk4 := Ne.symm ne_bk4_bk2
  simp only [Act.put, nA, nB, nC]
  refine Seq.done fun ws1 hws => ?_
  have HS1 : St w [(bk2, 26, VC v1 v2), (bk4, 24, #[.bool false, .string ⟨#[]⟩, .string ⟨#[]⟩])] ws1 := hws.list2 (by repeat (first | exact rS | refine rN (by assumption) ?_)) (by repeat (first | exact rS | refine rN (by assumption) ?_)) (by assumption)
  clear HS hws
  go_upto_region 1 with (fail)
  refine wp_seq [] (by kernel_rfl) (by kernel_rfl) Reg.fin_no (StR.no HS1) ?_
  refine Seq.load rfl rfl rfl rfl (by repeat (first | exact mC | apply mT)) (n := 6) rfl (by kernel_rfl) ?_
  simp only [Act.put, nA, nB, nC]
  refine Seq.pure rfl rfl (by intro w; go_simp; try rfl) ?_
  simp only [Act.put, nA, nB, nC]
  refine Seq.index (m := 6) 0 rfl rfl rfl rfl rfl (by kernel_rfl) rfl HPOS.out.1 ?_
  simp only [Act.put, nA, nB, nC]
  refine Seq.loadAtF rfl rfl rfl rfl HG.out (n := 6) (cs' := VC (px ps 0) (py ps 0)) (PC_room (lt_of_pts HL.out HPOS.out.1)) (by kernel_rfl) (PC_at (lt_of_pts HL.out HPOS.out.1)) ?_
  simp only [Act.put, nA, nB, nC]
  refine Seq.pure rfl rfl (by intro w; go_simp; try rfl) ?_
  simp only [Act.put, nA, nB, nC]
  refine Seq.index (m := 6) 1 rfl rfl rfl rfl rfl (by kernel_rfl) rfl HPOS.out.2 ?_
  simp only [Act.put, nA, nB, nC]
  refine Seq.loadAtF rfl rfl rfl rfl HG.out (n := 6) (cs' := VC (px ps 1) (py ps 1)) (PC_room (lt_of_pts HL.out HPOS.out.2)) (by kernel_rfl) (PC_at (lt_of_pts HL.out HPOS.out.2)) ?_
  simp only [Act.put, nA, nB, nC]
  refine Seq.call rfl rfl rfl rfl (by kernel_rfl) (te_q (k := (1 * k + 0)) HT.out (Z_v1.out.more (by omega)) (Z_v2.out.more (by omega)) ((HZP.out.x (lt_of_pts HL.out HPOS.out.1)).more (by omega)) ((HZP.out.y (lt_of_pts HL.out HPOS.out.1)).more (by omega)) ((HZP.out.x (lt_of_pts HL.out HPOS.out.2)).more (by omega)) ((HZP.out.y (lt_of_pts HL.out HPOS.out.2)).more (by omega)) rfl (by omega)) ?_
  simp only [Act.put, nA, nB, nC]
  refine Seq.alloc rfl rfl rfl (z := .agg #[.bool false, .string ⟨#[]⟩, .string ⟨#[]⟩]) (by kernel_rfl) rfl ?_
  intro bk5 _ _ hbk5_r
  simp only [Act.put, nA, nB, nC]
  refine Seq.store rfl rfl rfl rfl rfl (by repeat (first | exact rS | refine rN (by assumption) ?_)) (n := 3) rfl rfl (by kernel_rfl) (RC_one _) ?_
  simp only [Act.put, nA, nB, nC]
  refine Seq.done fun ws2 hws => ?_
  have HS2 : St w [(bk5, 24, RC (nearF v1 v2 ps 0)), (bk2, 26, VC v1 v2), (bk4, 24, #[.bool false, .string ⟨#[]⟩, .string ⟨#[]⟩])] ws2 := hws.list1 (by repeat (first | exact rS | refine rN (by assumption) ?_))
  clear HS1 hws
  go_upto_region 2 with (fail)
  refine wp_seq_text [] (StR.no HS2) ?_
  refine Seq.pure rfl rfl (by intro w; go_simp; try rfl) ?_
  simp only [Act.put, nA, nB, nC]
  refine Seq.pure (v := .int .i64 (n : Int)) rfl rfl (by intro w; go_simp; try rfl) ?_
  simp only [Act.put, nA, nB, nC]
  refine Seq.pure rfl rfl (by intro w; go_simp; try rfl) ?_
  simp only [Act.put, nA, nB, nC]
  refine Seq.done fun ws3 hws => ?_
  have HS3 := hws.st
  clear HS2 hws
  go_wp2_with fail
  go_loopg [18] n (fun kk s18 wr => ∃ i : Nat, kk = n - i ∧ s18 = .int .i64 (i : Int) ∧ i ≤ n ∧ Hid (St w [(bk5, 24, RC (nearF v1 v2 ps i)), (bk2, 26, VC v1 v2), (bk4, 24, #[.bool false, .string ⟨#[]⟩, .string ⟨#[]⟩])] wr))
  case atStart => exact ⟨0, rfl, rfl, by omega, Lib.hid HS3⟩
  case round =>
    obtain ⟨i, hgk, rfl, hin, hS⟩ := hrel
    have HGK := Lib.hid hgk; clear hgk
    have HR := hS.out; clear hS
    have HZN := Lib.hid (show Rz (96 * k + 27) (nearF v1 v2 ps i) from near_rz (show Pz k ps by have := HZP.out; rwa [Nat.one_mul] at this) (by have := Z_v1.out; exact this) Z_v2.out (by rw [HL.out]; have := HCV.out.1; omega) i (by rw [HL.out]; exact hin))
    by_cases hc : i < n
    · have hc' := hc
      obtain ⟨i1, hi1⟩ : ∃ i1 : Nat, i1 = i + 1 := ⟨_, rfl⟩
      obtain ⟨j, hj⟩ : ∃ j : Nat, j = i1 % n := ⟨_, rfl⟩
      have hn64 : n ≤ 64 := HCV.out.2.1
      have HI1 := Lib.hid (show IntKind.i64.wrap ((i : Int) + 1) = (i1 : Int) ∧ n - i1 < n - i ∧ i1 ≤ n ∧ (i1 : Int).tmod (n : Int) = (j : Int) ∧ j < n from ⟨by rw [i64_s _ (by omega) (by omega)]; omega, by omega, by omega, by rw [hj]; exact Int.tmod_eq_emod_of_nonneg (by omega), by rw [hj]; exact Nat.mod_lt _ (by omega)⟩)
      have HC := Lib.hid hc
      clear hc hn64
      have HE := Lib.hid (show minQ (nearF v1 v2 ps i) (teQ v1 v2 (px ps i) (py ps i) (px ps j) (py ps j)) = nearF v1 v2 ps i1 by rw [hj, hi1]; simp only [nearF]; rw [HL.out])
      have HZN1 := Lib.hid (show Rz (96 * k + 27) (nearF v1 v2 ps i1) from near_rz (show Pz k ps by have := HZP.out; rwa [Nat.one_mul] at this) Z_v1.out Z_v2.out (by rw [HL.out]; have := HCV.out.1; omega) i1 (by rw [HL.out]; omega))
      clear hi1 hj hin hc'
      go_upto_region 3 with (fail)
      refine wp_seq_text [] (StR.no HR) ?_
      refine Seq.pure (v := .bool true) rfl rfl (by intro w; go_simp <;> (first | (rw [HC.out]; done) | exact HC.out | (simp [HC.out]; done) | (trace_state; done))) ?_
      simp only [Act.put, nA, nB, nC]
      refine Seq.done fun ws4 hws => ?_
      have HS4 := hws.st
      clear HR hws
      go_upto_region 4 with (fail)
      refine wp_seq_text [] (StR.no HS4) ?_
      refine Seq.pure rfl rfl (by intro w; go_simp; try rfl) ?_
      simp only [Act.put, nA, nB, nC]
      refine Seq.index (m := 6) i rfl rfl rfl rfl rfl (by kernel_rfl) rfl HC.out ?_
      simp only [Act.put, nA, nB, nC]
      refine Seq.loadAtF rfl rfl rfl rfl HG.out (n := 6) (cs' := VC (px ps i) (py ps i)) (PC_room (lt_of_pts HL.out HC.out)) (by kernel_rfl) (PC_at (lt_of_pts HL.out HC.out)) ?_
      simp only [Act.put, nA, nB, nC]
      refine Seq.alloc rfl rfl rfl (z := .agg #[.bool false, .string ⟨#[]⟩, .string ⟨#[]⟩, .bool false, .string ⟨#[]⟩, .string ⟨#[]⟩]) (by kernel_rfl) rfl ?_
      intro bk7 _ _ hbk7_r
      simp only [Act.put, nA, nB, nC]
      refine Seq.pure rfl rfl (by intro w; go_simp; try rfl) ?_
      simp only [Act.put, nA, nB, nC]
      refine Seq.store rfl rfl rfl rfl rfl (by repeat (first | exact rS | refine rN (by assumption) ?_)) (n := 6) rfl rfl (by kernel_rfl) (VC_one _ _) ?_
      simp only [Act.put, nA, nB, nC]
      refine Seq.done fun ws5 hws => ?_
      have HS5 : St w [(bk7, 26, VC (px ps i) (py ps i)), (bk5, 24, RC (nearF v1 v2 ps i)), (bk2, 26, VC v1 v2), (bk4, 24, #[.bool false, .string ⟨#[]⟩, .string ⟨#[]⟩])] ws5 := hws.list1 (by repeat (first | exact rS | refine rN (by assumption) ?_))
      clear HS4 hws
      go_upto_region 5 with (fail)
      have HPbk5 : St w [(bk5, 24, RC (nearF v1 v2 ps i)), (bk7, 26, VC (px ps i) (py ps i)), (bk2, 26, VC v1 v2), (bk4, 24, #[.bool false, .string ⟨#[]⟩, .string ⟨#[]⟩])] _ := St.perm HS5 (List.perm_middle (l₁ := ([(bk7, 26, VC (px ps i) (py ps i))] : List Own)))
      refine wp_seq [0] (by kernel_rfl) (by kernel_rfl) (Reg.fin.put Reg.fin_no _ _) (StR.move (StR.no HPbk5)) ?_
      refine Seq.get rfl rfl rfl rfl (by repeat (first | exact rS | refine rN (by assumption) ?_)) (n := 3) rfl (by kernel_rfl) ?_
      simp only [Act.put, nA, nB, nC]
      refine Seq.load rfl rfl rfl rfl (by repeat (first | exact mC | apply mT)) (n := 6) rfl (by kernel_rfl) ?_
      simp only [Act.put, nA, nB, nC]
      refine Seq.load rfl rfl rfl rfl (by repeat (first | exact mC | apply mT)) (n := 6) rfl (by kernel_rfl) ?_
      simp only [Act.put, nA, nB, nC]
      iterate 2 (refine Seq.pure rfl rfl (by intro w; go_simp; try rfl) ?_; simp only [Act.put, nA, nB, nC])
      refine Seq.pure (v := .int .i64 (i1 : Int)) rfl rfl (by intro w; go_simp <;> (first | (rw [HI1.out.1]; done) | exact HI1.out.1 | (simp [HI1.out.1]; done) | (trace_state; done))) ?_
      simp only [Act.put, nA, nB, nC]
      refine Seq.pure rfl rfl (by intro w; go_simp; try rfl) ?_
      simp only [Act.put, nA, nB, nC]
      refine Seq.pure (v := .int .i64 (n : Int)) rfl rfl (by intro w; go_simp; try rfl) ?_
      simp only [Act.put, nA, nB, nC]
      refine Seq.pure (v := .int .i64 (j : Int)) rfl rfl (by intro w; go_simp <;> (first | (rw [HNZ.out]; done) | (rw [HI1.out.2.2.2.1]; done) | exact HNZ.out | exact HI1.out.2.2.2.1 | (simp [HNZ.out, HI1.out.2.2.2.1]; done) | (trace_state; done))) ?_
      simp only [Act.put, nA, nB, nC]
      refine Seq.index (m := 6) j rfl rfl rfl rfl rfl (by kernel_rfl) rfl HI1.out.2.2.2.2 ?_
      simp only [Act.put, nA, nB, nC]
      refine Seq.loadAtF rfl rfl rfl rfl HG.out (n := 6) (cs' := VC (px ps j) (py ps j)) (PC_room (lt_of_pts HL.out HI1.out.2.2.2.2)) (by kernel_rfl) (PC_at (lt_of_pts HL.out HI1.out.2.2.2.2)) ?_
      simp only [Act.put, nA, nB, nC]
      refine Seq.call rfl rfl rfl rfl (by kernel_rfl) (te_q (k := (1 * k + 0)) HT.out (Z_v1.out.more (by omega)) (Z_v2.out.more (by omega)) ((HZP.out.x (lt_of_pts HL.out HC.out)).more (by omega)) ((HZP.out.y (lt_of_pts HL.out HC.out)).more (by omega)) ((HZP.out.x (lt_of_pts HL.out HI1.out.2.2.2.2)).more (by omega)) ((HZP.out.y (lt_of_pts HL.out HI1.out.2.2.2.2)).more (by omega)) rfl (by omega)) ?_
      simp only [Act.put, nA, nB, nC]
      refine Seq.call rfl rfl rfl rfl (by kernel_rfl) (min_q (k := (96 * k + 27)) HT.out (HZN.out.more (by omega)) ((te_rz (k := (1 * k + 0)) (Z_v1.out.more (by omega)) (Z_v2.out.more (by omega)) ((HZP.out.x (lt_of_pts HL.out HC.out)).more (by omega)) ((HZP.out.y (lt_of_pts HL.out HC.out)).more (by omega)) ((HZP.out.x (lt_of_pts HL.out HI1.out.2.2.2.2)).more (by omega)) ((HZP.out.y (lt_of_pts HL.out HI1.out.2.2.2.2)).more (by omega))).more (by omega)) HE.out (by omega)) ?_
      simp only [Act.put, nA, nB, nC]
      refine Seq.store rfl rfl rfl rfl rfl (by repeat (first | exact rS | refine rN (by assumption) ?_)) (n := 3) rfl rfl (by kernel_rfl) (RC_one _) ?_
      simp only [Act.put, nA, nB, nC]
      refine Seq.done fun ws6 hws => ?_
      have HS6 : St w [(bk5, 24, RC (nearF v1 v2 ps i1)), (bk7, 26, VC (px ps i) (py ps i)), (bk2, 26, VC v1 v2), (bk4, 24, #[.bool false, .string ⟨#[]⟩, .string ⟨#[]⟩])] ws6 := hws.list1 (by repeat (first | exact rS | refine rN (by assumption) ?_))
      clear HS5 hws HPbk5
      go_upto_region 6 with (fail)
      refine wp_seq_text [] (StR.no HS6) ?_
      refine Seq.pure (v := .int .i64 (i1 : Int)) rfl rfl (by intro w; go_simp <;> (first | (rw [HI1.out.1]; done) | exact HI1.out.1 | (simp [HI1.out.1]; done) | (trace_state; done))) ?_
      simp only [Act.put, nA, nB, nC]
      refine Seq.pure rfl rfl (by intro w; go_simp; try rfl) ?_
      simp only [Act.put, nA, nB, nC]
      refine Seq.done fun ws7 hws => ?_
      have HS7 := hws.st
      clear HS6 hws
      go_wp2_with fail
      go_roundg (n - i1)
      case measure => rw [HGK.out]; exact HI1.out.2.1
      case rel => exact ⟨i1, rfl, rfl, HI1.out.2.2.1, Lib.hid (HS7.sub (.cons_cons _ (.cons _ (.refl _))))⟩
    · have HE := Lib.hid (show nearQ v1 v2 ps = nearF v1 v2 ps i by unfold nearQ; rw [HL.out, show i = n by omega])
      have HC := Lib.hid (show n ≤ i by omega)
      clear hc hin
      go_upto_region 3 with (fail)
      refine wp_seq_text [] (StR.no HR) ?_
      refine Seq.pure (v := .bool false) rfl rfl (by intro w; go_simp <;> (first | (rw [HC.out]; done) | exact HC.out | (simp [HC.out]; done) | (trace_state; done))) ?_
      simp only [Act.put, nA, nB, nC]
      refine Seq.done fun ws4 hws => ?_
      have HS4 := hws.st
      clear HR hws
      go_upto_region 7 with (fail)
      have HPbk4 : St w [(bk4, 24, #[.bool false, .string ⟨#[]⟩, .string ⟨#[]⟩]), (bk5, 24, RC (nearF v1 v2 ps i)), (bk2, 26, VC v1 v2)] _ := St.perm HS4 (List.perm_middle (l₁ := ([(bk5, 24, RC (nearF v1 v2 ps i)), (bk2, 26, VC v1 v2)] : List Own)))
      refine wp_seq_text [] (StR.move (StR.no HPbk4)) ?_
      refine Seq.load rfl rfl rfl rfl (by repeat (first | exact mC | apply mT)) (n := 3) rfl (by kernel_rfl) ?_
      simp only [Act.put, nA, nB, nC]
      refine Seq.store rfl rfl rfl rfl rfl (by repeat (first | exact rS | refine rN (by assumption) ?_)) (n := 3) rfl rfl (by kernel_rfl) (RC_one _) ?_
      simp only [Act.put, nA, nB, nC]
      refine Seq.done fun ws5 hws => ?_
      have HS5 : St w [(bk4, 24, RC (nearF v1 v2 ps i)), (bk5, 24, RC (nearF v1 v2 ps i)), (bk2, 26, VC v1 v2)] ws5 := hws.list1 (by repeat (first | exact rS | refine rN (by assumption) ?_))
      clear HS4 hws HPbk4
      go_wp2_with fail
      exact ret_own rfl rfl rfl HS5 (by repeat (first | exact mC | apply mT)) (n := 3) rfl (by kernel_rfl) ⟨by rw [HE.out], HS5.below⟩
theorem near_G {k n : Nat} {ps : Pts} {v1 v2 z0 : Rat} {W : World} {l : List Own} (hT : Tab W) (hz : Pz k ps) (hl : ps.length = n) (hcv : 3 ≤ n ∧ n ≤ 64 ∧ Cvx ps) (Zv1 : Rz k v1) (Zv2 : Rz k v2) (hz0 : nearQ v1 v2 ps = z0) (hk : k ≤ 1000000000) (g : Nat) (w : World) (h : St W l w) (hg : Blk w g 26 (PC ps)) :
    Calls Tryz.prog 77 #[.agg (VC v1 v2), .slice (some ⟨g, 0, none⟩) n n] w fun e w' => e = .returned (.agg (RC z0)) ∧ Below w.heap.size w w' := by
  rw [← hz0]; exact near_q hT hz hl hcv Zv1 Zv2 hk g w h hg
end Go.Proofs.YtoejojfjiikogaaGreatDoor
