/- gantref4.GripOf, PutOf. -/
import Derived.Test.YtoejojfjiikogaaDoorCaC
import Derived.LoopN

namespace Go.Proofs.YtoejojfjiikogaaDoor
open Go.RowKit
set_option linter.unusedVariables false
set_option linter.unusedSimpArgs false

set_option maxHeartbeats 2000000 in
set_option maxRecDepth 20000 in
theorem gripOf_half {k : Nat} {p1 : Rat} {p2 : Rat} {p3 : Rat} {p4 : Rat} {p5 : Rat} {p6 : Rat} {g1 : Rat} {g1_g : Bool} {g1_t : RT} {g2 : Rat} {g2_g : Bool} {g2_t : RT} {gh : Bool} {gt : Rat} {gt_g : Bool} {gt_t : RT} {W : World} {l : List Own} (hT : Tab W) (Zp1 : Rz k p1) (Zp2 : Rz k p2) (Zp3 : Rz k p3) (Zp4 : Rz k p4) (Zp5 : Rz k p5) (Zp6 : Rz k p6) (Zg1 : RawT k g1 g1_g g1_t) (Zg2 : RawT k g2 g2_g g2_t) (Zgt : RawT k gt gt_g gt_t) (hgh : gh = true) (hk0 : 2 ≤ k) (hk : k ≤ 1000000000000) (w : World) (h : St W l w) :
    Calls Tryd.prog 13 #[.agg (PW (rt p1) (rt p2) (rt p3) (rt p4) (rt p5) (rt p6)), .agg (FW g1_t g2_t gh gt_t)] w fun e w' => e = .returned (.tuple #[.agg (PW rz0 rz0 rz0 rz0 rz0 rz0), .int .i64 3]) ∧ Below w.heap.size w w' := by
  have HT := Lib.hid (tabS hT h); clear hT h
  have Z_p1 := Lib.hid Zp1; clear Zp1
  have Z_p2 := Lib.hid Zp2; clear Zp2
  have Z_p3 := Lib.hid Zp3; clear Zp3
  have Z_p4 := Lib.hid Zp4; clear Zp4
  have Z_p5 := Lib.hid Zp5; clear Zp5
  have Z_p6 := Lib.hid Zp6; clear Zp6
  have Z_g1 := Lib.hid Zg1; clear Zg1
  have Z_g2 := Lib.hid Zg2; clear Zg2
  have Z_gt := Lib.hid Zgt; clear Zgt
  subst hgh
  go_enter Tryd.func13, Tryd.ntmps13
  have HS : St w [] w := St.start
  go_upto_region 0 with (fail)
  refine wp_seq_text [] (StR.no HS) ?_
  refine Seq.box rfl rfl rfl (v := .agg (PW (rt p1) (rt p2) (rt p3) (rt p4) (rt p5) (rt p6))) (cs := PW (rt p1) (rt p2) (rt p3) (rt p4) (rt p5) (rt p6)) rfl rfl ?_
  intro bk2 _ _ hbk2_r
  simp only [Act.put, nA, nB, nC]
  refine Seq.box rfl rfl rfl (v := .agg (FW g1_t g2_t true gt_t)) (cs := FW g1_t g2_t true gt_t) rfl rfl ?_
  intro bk3 _ _ hbk3_r
  obtain ⟨ne_bk3_bk2, hbk3_r⟩ := Reg.ne_of_put hbk3_r
  have ne_bk2_bk3 := Ne.symm ne_bk3_bk2
  simp only [Act.put, nA, nB, nC]
  refine Seq.alloc rfl rfl rfl (z := .agg (PW rz0 rz0 rz0 rz0 rz0 rz0)) (by kernel_rfl) rfl ?_
  intro bk4 _ _ hbk4_r
  obtain ⟨ne_bk4_bk3, hbk4_r⟩ := Reg.ne_of_put hbk4_r
  have ne_bk3_bk4 := Ne.symm ne_bk4_bk3
  obtain ⟨ne_bk4_bk2, hbk4_r⟩ := Reg.ne_of_put hbk4_r
  have ne_bk2_bk4 := Ne.symm ne_bk4_bk2
  simp only [Act.put, nA, nB, nC]
  refine Seq.pure rfl rfl (by intro w; go_simp; try rfl) ?_
  simp only [Act.put, nA, nB, nC]
  refine Seq.done fun ws1 hws => ?_
  have HS1 := hws.list3 (p := bk2) (q := bk3) (r := bk4) (by repeat (first | exact rS | refine rN (by assumption) ?_)) (by repeat (first | exact rS | refine rN (by assumption) ?_)) (by repeat (first | exact rS | refine rN (by assumption) ?_)) (by assumption) (by assumption) (by assumption)
  clear HS hws
  go_upto_region 1 with (fail)
  refine wp_seq_text [] (StR.no HS1) ?_
  iterate 2 (refine Seq.pure rfl rfl (by intro w; go_simp; try rfl) ?_; simp only [Act.put, nA, nB, nC])
  refine Seq.loadCell rfl rfl rfl rfl (by repeat (first | exact mC | apply mT)) (v := .bool true) rfl (by kernel_rfl) rfl ?_
  simp only [Act.put, nA, nB, nC]
  refine Seq.done fun ws2 hws => ?_
  have HS2 := hws.st
  clear HS1 hws
  go_upto_region 2 with (fail)
  have HPbk4 := HS2.f2
  refine wp_seq_text [] (StR.move (StR.no HPbk4)) ?_
  refine Seq.pure (v := .agg (PW rz0 rz0 rz0 rz0 rz0 rz0)) rfl rfl (by intro w; go_simp; try rfl) ?_
  simp only [Act.put, nA, nB, nC]
  refine Seq.store rfl rfl rfl rfl rfl (by repeat (first | exact rS | refine rN (by assumption) ?_)) (n := 18) rfl rfl (by kernel_rfl) (PW_one _ _ _ _ _ _) ?_
  simp only [Act.put, nA, nB, nC]
  refine Seq.pure rfl rfl (by intro w; go_simp; try rfl) ?_
  simp only [Act.put, nA, nB, nC]
  refine Seq.done fun ws3 hws => ?_
  have HS3 := hws.list1 (p := bk4) (by repeat (first | exact rS | refine rN (by assumption) ?_))
  clear HS2 hws HPbk4
  go_wp2_with fail
  exact ret_own2 rfl rfl rfl rfl HS3 (by repeat (first | exact mC | apply mT)) (n := 18) rfl (by kernel_rfl) ⟨rfl, HS3.below⟩
set_option maxHeartbeats 2000000 in
set_option maxRecDepth 20000 in
theorem gripOf_no {k : Nat} {p1 : Rat} {p2 : Rat} {p3 : Rat} {p4 : Rat} {p5 : Rat} {p6 : Rat} {g1 : Rat} {g1_g : Bool} {g1_t : RT} {g2 : Rat} {g2_g : Bool} {g2_t : RT} {gh : Bool} {gt : Rat} {gt_g : Bool} {gt_t : RT} {W : World} {l : List Own} (hT : Tab W) (Zp1 : Rz k p1) (Zp2 : Rz k p2) (Zp3 : Rz k p3) (Zp4 : Rz k p4) (Zp5 : Rz k p5) (Zp6 : Rz k p6) (Zg1 : RawT k g1 g1_g g1_t) (Zg2 : RawT k g2 g2_g g2_t) (Zgt : RawT k gt gt_g gt_t) (hgh : gh = false) (hok : tOk (-gt) p5 p6 = false) (hk0 : 2 ≤ k) (hk : k ≤ 999999999998) (w : World) (h : St W l w) :
    Calls Tryd.prog 13 #[.agg (PW (rt p1) (rt p2) (rt p3) (rt p4) (rt p5) (rt p6)), .agg (FW g1_t g2_t gh gt_t)] w fun e w' => e = .returned (.tuple #[.agg (PW rz0 rz0 rz0 rz0 rz0 rz0), .int .i64 18]) ∧ Below w.heap.size w w' := by
  have HT := Lib.hid (tabS hT h); clear hT h
  have Z_p1 := Lib.hid Zp1; clear Zp1
  have Z_p2 := Lib.hid Zp2; clear Zp2
  have Z_p3 := Lib.hid Zp3; clear Zp3
  have Z_p4 := Lib.hid Zp4; clear Zp4
  have Z_p5 := Lib.hid Zp5; clear Zp5
  have Z_p6 := Lib.hid Zp6; clear Zp6
  have Z_g1 := Lib.hid Zg1; clear Zg1
  have Z_g2 := Lib.hid Zg2; clear Zg2
  have Z_gt := Lib.hid Zgt; clear Zgt
  subst hgh
  have hok := Lib.hid hok
  go_enter Tryd.func13, Tryd.ntmps13
  have HS : St w [] w := St.start
  go_upto_region 0 with (fail)
  refine wp_seq_text [] (StR.no HS) ?_
  refine Seq.box rfl rfl rfl (v := .agg (PW (rt p1) (rt p2) (rt p3) (rt p4) (rt p5) (rt p6))) (cs := PW (rt p1) (rt p2) (rt p3) (rt p4) (rt p5) (rt p6)) rfl rfl ?_
  intro bk2 _ _ hbk2_r
  simp only [Act.put, nA, nB, nC]
  refine Seq.box rfl rfl rfl (v := .agg (FW g1_t g2_t false gt_t)) (cs := FW g1_t g2_t false gt_t) rfl rfl ?_
  intro bk3 _ _ hbk3_r
  obtain ⟨ne_bk3_bk2, hbk3_r⟩ := Reg.ne_of_put hbk3_r
  have ne_bk2_bk3 := Ne.symm ne_bk3_bk2
  simp only [Act.put, nA, nB, nC]
  refine Seq.alloc rfl rfl rfl (z := .agg (PW rz0 rz0 rz0 rz0 rz0 rz0)) (by kernel_rfl) rfl ?_
  intro bk4 _ _ hbk4_r
  obtain ⟨ne_bk4_bk3, hbk4_r⟩ := Reg.ne_of_put hbk4_r
  have ne_bk3_bk4 := Ne.symm ne_bk4_bk3
  obtain ⟨ne_bk4_bk2, hbk4_r⟩ := Reg.ne_of_put hbk4_r
  have ne_bk2_bk4 := Ne.symm ne_bk4_bk2
  simp only [Act.put, nA, nB, nC]
  refine Seq.pure rfl rfl (by intro w; go_simp; try rfl) ?_
  simp only [Act.put, nA, nB, nC]
  refine Seq.done fun ws1 hws => ?_
  have HS1 := hws.list3 (p := bk2) (q := bk3) (r := bk4) (by repeat (first | exact rS | refine rN (by assumption) ?_)) (by repeat (first | exact rS | refine rN (by assumption) ?_)) (by repeat (first | exact rS | refine rN (by assumption) ?_)) (by assumption) (by assumption) (by assumption)
  clear HS hws
  go_upto_region 1 with (fail)
  refine wp_seq_text [] (StR.no HS1) ?_
  iterate 2 (refine Seq.pure rfl rfl (by intro w; go_simp; try rfl) ?_; simp only [Act.put, nA, nB, nC])
  refine Seq.loadCell rfl rfl rfl rfl (by repeat (first | exact mC | apply mT)) (v := .bool false) rfl (by kernel_rfl) rfl ?_
  simp only [Act.put, nA, nB, nC]
  refine Seq.done fun ws2 hws => ?_
  have HS2 := hws.st
  clear HS1 hws
  go_upto_region 3 with (fail)
  refine wp_seq [] (by kernel_rfl) (by kernel_rfl) Reg.fin_no (StR.no HS2) ?_
  refine Seq.pure rfl rfl (by intro w; go_simp; try rfl) ?_
  simp only [Act.put, nA, nB, nC]
  refine Seq.loadAt rfl rfl rfl rfl (by repeat (first | exact mC | apply mT)) (n := 6) (cs' := VC p5 p6) (Nat.le_of_ble_eq_true rfl) (by kernel_rfl) rfl ?_
  simp only [Act.put, nA, nB, nC]
  iterate 2 (refine Seq.pure rfl rfl (by intro w; go_simp; try rfl) ?_; simp only [Act.put, nA, nB, nC])
  refine Seq.loadAt rfl rfl rfl rfl (by repeat (first | exact mC | apply mT)) (n := 3) (cs' := RT.c gt_t) (Nat.le_of_ble_eq_true rfl) (by kernel_rfl) rfl ?_
  simp only [Act.put, nA, nB, nC]
  refine Seq.call rfl rfl rfl rfl (by kernel_rfl) (neg_w (k := (1 * k + 2)) HT.out (Z_gt.out.more (by omega)) rfl (by omega)) ?_
  simp only [Act.put, nA, nB, nC]
  refine Seq.call rfl rfl rfl rfl (by kernel_rfl) (turnedOf_w (k := (1 * k + 2)) (a_t := (rt (-gt))) HT.out (Z_p5.out.more (by omega)) (Z_p6.out.more (by omega)) (RawT.rc (Z_gt.out.rz.neg.more (by omega)))  hok.out (by omega) (by omega)) ?_
  simp only [Act.put, nA, nB, nC]
  refine Seq.pure rfl rfl (by intro w; go_simp; try rfl) ?_
  simp only [Act.put, nA, nB, nC]
  refine Seq.pure (v := .agg (SW (toR0 (-gt) p5 p6) (toR1 (-gt) p5 p6))) rfl rfl (fun w => rfl) ?_
  simp only [Act.put, nA, nB, nC]
  refine Seq.pure (v := .bool false) rfl rfl (fun w => rfl) ?_
  simp only [Act.put, nA, nB, nC]
  refine Seq.alloc rfl rfl rfl (z := .agg (SW rz0 rz0)) (by kernel_rfl) rfl ?_
  intro bk6 _ _ hbk6_r
  simp only [Act.put, nA, nB, nC]
  refine Seq.store rfl rfl rfl rfl rfl (by repeat (first | exact rS | refine rN (by assumption) ?_)) (n := 6) rfl rfl (by kernel_rfl) (SW_one _ _) ?_
  simp only [Act.put, nA, nB, nC]
  refine Seq.pure rfl rfl (by intro w; go_simp; try rfl) ?_
  simp only [Act.put, nA, nB, nC]
  refine Seq.done fun ws3 hws => ?_
  have HS3 := hws.list1 (p := bk6) (by repeat (first | exact rS | refine rN (by assumption) ?_))
  clear HS2 hws
  go_upto_region 4 with (fail)
  refine wp_seq_text [] (StR.no HS3) ?_
  iterate 2 (refine Seq.pure rfl rfl (by intro w; go_simp; try rfl) ?_; simp only [Act.put, nA, nB, nC])
  refine Seq.done fun ws4 hws => ?_
  have HS4 := hws.st
  clear HS3 hws
  go_upto_region 5 with (fail)
  have HPbk4 := HS4.f3
  refine wp_seq_text [] (StR.move (StR.no HPbk4)) ?_
  refine Seq.pure (v := .agg (PW rz0 rz0 rz0 rz0 rz0 rz0)) rfl rfl (by intro w; go_simp; try rfl) ?_
  simp only [Act.put, nA, nB, nC]
  refine Seq.store rfl rfl rfl rfl rfl (by repeat (first | exact rS | refine rN (by assumption) ?_)) (n := 18) rfl rfl (by kernel_rfl) (PW_one _ _ _ _ _ _) ?_
  simp only [Act.put, nA, nB, nC]
  refine Seq.pure rfl rfl (by intro w; go_simp; try rfl) ?_
  simp only [Act.put, nA, nB, nC]
  refine Seq.done fun ws5 hws => ?_
  have HS5 := hws.list1 (p := bk4) (by repeat (first | exact rS | refine rN (by assumption) ?_))
  clear HS4 hws HPbk4
  go_wp2_with fail
  exact ret_own2 rfl rfl rfl rfl HS5 (by repeat (first | exact mC | apply mT)) (n := 18) rfl (by kernel_rfl) ⟨rfl, HS5.below⟩
set_option maxHeartbeats 2000000 in
set_option maxRecDepth 20000 in
theorem gripOf_ok {k : Nat} {p1 : Rat} {p2 : Rat} {p3 : Rat} {p4 : Rat} {p5 : Rat} {p6 : Rat} {g1 : Rat} {g1_g : Bool} {g1_t : RT} {g2 : Rat} {g2_g : Bool} {g2_t : RT} {gh : Bool} {gt : Rat} {gt_g : Bool} {gt_t : RT} {z0 : Rat} {z1 : Rat} {z2 : Rat} {z3 : Rat} {z4 : Rat} {z5 : Rat} {W : World} {l : List Own} (hT : Tab W) (Zp1 : Rz k p1) (Zp2 : Rz k p2) (Zp3 : Rz k p3) (Zp4 : Rz k p4) (Zp5 : Rz k p5) (Zp6 : Rz k p6) (Zg1 : RawT k g1 g1_g g1_t) (Zg2 : RawT k g2 g2_g g2_t) (Zgt : RawT k gt gt_g gt_t) (hgh : gh = false) (hok : tOk (-gt) p5 p6 = true) (hz0 : gX0 p1 p2 p3 p4 g1 g2 gt = z0) (hz1 : gX1 p1 p2 p3 p4 g1 g2 gt = z1) (hz2 : gY0 p1 p2 p3 p4 g1 g2 gt = z2) (hz3 : gY1 p1 p2 p3 p4 g1 g2 gt = z3) (hz4 : tuQ (-gt) p5 = z4) (hz5 : tuQ (-gt) p6 = z5) (hk0 : 2 ≤ k) (hk : k ≤ 62499999998) (w : World) (h : St W l w) :
    Calls Tryd.prog 13 #[.agg (PW (rt p1) (rt p2) (rt p3) (rt p4) (rt p5) (rt p6)), .agg (FW g1_t g2_t gh gt_t)] w fun e w' => e = .returned (.tuple #[.agg (PW (rt z0) (rt z1) (rt z2) (rt z3) (rt z4) (rt z5)), .int .i64 0]) ∧ Below w.heap.size w w' := by
  subst hz0
  subst hz1
  subst hz2
  subst hz3
  subst hz4
  subst hz5
  have HT := Lib.hid (tabS hT h); clear hT h
  have Z_p1 := Lib.hid Zp1; clear Zp1
  have Z_p2 := Lib.hid Zp2; clear Zp2
  have Z_p3 := Lib.hid Zp3; clear Zp3
  have Z_p4 := Lib.hid Zp4; clear Zp4
  have Z_p5 := Lib.hid Zp5; clear Zp5
  have Z_p6 := Lib.hid Zp6; clear Zp6
  have Z_g1 := Lib.hid Zg1; clear Zg1
  have Z_g2 := Lib.hid Zg2; clear Zg2
  have Z_gt := Lib.hid Zgt; clear Zgt
  subst hgh
  obtain ⟨c, hc⟩ : ∃ c, cosT false gt = c := ⟨_, rfl⟩
  obtain ⟨s, hs⟩ : ∃ c, sinT gt = c := ⟨_, rfl⟩
  have Z_c := Lib.hid (show Rz (8 * k + 10) c from hc ▸ Rz.cosT false Z_gt.out.rz)
  have Z_s := Lib.hid (show Rz (8 * k + 10) s from hs ▸ Rz.sinT Z_gt.out.rz)
  have hok := Lib.hid hok
  obtain ⟨x0, hx0⟩ : ∃ z, rX0 c (-s) (p1 - g1) (p2 - g1) (p3 - g2) (p4 - g2) = z := ⟨_, rfl⟩
  obtain ⟨x1, hx1⟩ : ∃ z, rX1 c (-s) (p1 - g1) (p2 - g1) (p3 - g2) (p4 - g2) = z := ⟨_, rfl⟩
  obtain ⟨y0, hy0⟩ : ∃ z, rY0 c (-s) (p1 - g1) (p2 - g1) (p3 - g2) (p4 - g2) = z := ⟨_, rfl⟩
  obtain ⟨y1, hy1⟩ : ∃ z, rY1 c (-s) (p1 - g1) (p2 - g1) (p3 - g2) (p4 - g2) = z := ⟨_, rfl⟩
  have HX := Lib.hid (show rX0 c (-s) (p1 - g1) (p2 - g1) (p3 - g2) (p4 - g2) = x0 ∧ rX1 c (-s) (p1 - g1) (p2 - g1) (p3 - g2) (p4 - g2) = x1 ∧ rY0 c (-s) (p1 - g1) (p2 - g1) (p3 - g2) (p4 - g2) = y0 ∧ rY1 c (-s) (p1 - g1) (p2 - g1) (p3 - g2) (p4 - g2) = y1 from ⟨hx0, hx1, hy0, hy1⟩)
  have HL := Lib.hid (show x0 ≤ x1 ∧ y0 ≤ y1 from by rw [← hx0, ← hx1, ← hy0, ← hy1]; exact r_le _ _ _ _ _ _)
  have HZ4 := r_rz (kc := 8 * k + 10) (kx := 4 * k + 1) Z_c.out Z_s.out.neg ((Z_p1.out.sub Z_g1.out.rz).more (by omega)) ((Z_p2.out.sub Z_g1.out.rz).more (by omega)) ((Z_p3.out.sub Z_g2.out.rz).more (by omega)) ((Z_p4.out.sub Z_g2.out.rz).more (by omega))
  have Z_x0 := Lib.hid (show Rz (60 * k + 90) x0 from (hx0 ▸ HZ4.1).more (by omega))
  have Z_x1 := Lib.hid (show Rz (60 * k + 90) x1 from (hx1 ▸ HZ4.2.1).more (by omega))
  have Z_y0 := Lib.hid (show Rz (60 * k + 90) y0 from (hy0 ▸ HZ4.2.2.1).more (by omega))
  have Z_y1 := Lib.hid (show Rz (60 * k + 90) y1 from (hy1 ▸ HZ4.2.2.2).more (by omega))
  clear HZ4
  have HR := Lib.hid (show Ending.returned (.tuple #[.agg (PW (rt x0) (rt x1) (rt y0) (rt y1) (rt (tuQ (-gt) p5)) (rt (tuQ (-gt) p6))), .int .i64 0]) = .returned (.tuple #[.agg (PW (rt (gX0 p1 p2 p3 p4 g1 g2 gt)) (rt (gX1 p1 p2 p3 p4 g1 g2 gt)) (rt (gY0 p1 p2 p3 p4 g1 g2 gt)) (rt (gY1 p1 p2 p3 p4 g1 g2 gt)) (rt (tuQ (-gt) p5)) (rt (tuQ (-gt) p6))), .int .i64 0]) from by rw [← hx0, ← hx1, ← hy0, ← hy1, ← hc, ← hs]; unfold gX0 gX1 gY0 gY1; rfl)
  clear hx0 hx1 hy0 hy1
  have HC := Lib.hid hc; clear hc
  have HS0 := Lib.hid hs; clear hs
  have HTO := Lib.hid (show Ending.returned (.tuple #[.agg (SW (toR0 (-gt) p5 p6) (toR1 (-gt) p5 p6)), .bool true]) = .returned (.tuple #[.agg (VC (tuQ (-gt) p5) (tuQ (-gt) p6)), .bool true]) from by rw [(toR_ok hok.out).1, (toR_ok hok.out).2]; rfl)
  go_enter Tryd.func13, Tryd.ntmps13
  have HS : St w [] w := St.start
  go_upto_region 0 with (fail)
  refine wp_seq_text [] (StR.no HS) ?_
  refine Seq.box rfl rfl rfl (v := .agg (PW (rt p1) (rt p2) (rt p3) (rt p4) (rt p5) (rt p6))) (cs := PW (rt p1) (rt p2) (rt p3) (rt p4) (rt p5) (rt p6)) rfl rfl ?_
  intro bk2 _ _ hbk2_r
  simp only [Act.put, nA, nB, nC]
  refine Seq.box rfl rfl rfl (v := .agg (FW g1_t g2_t false gt_t)) (cs := FW g1_t g2_t false gt_t) rfl rfl ?_
  intro bk3 _ _ hbk3_r
  obtain ⟨ne_bk3_bk2, hbk3_r⟩ := Reg.ne_of_put hbk3_r
  have ne_bk2_bk3 := Ne.symm ne_bk3_bk2
  simp only [Act.put, nA, nB, nC]
  refine Seq.alloc rfl rfl rfl (z := .agg (PW rz0 rz0 rz0 rz0 rz0 rz0)) (by kernel_rfl) rfl ?_
  intro bk4 _ _ hbk4_r
  obtain ⟨ne_bk4_bk3, hbk4_r⟩ := Reg.ne_of_put hbk4_r
  have ne_bk3_bk4 := Ne.symm ne_bk4_bk3
  obtain ⟨ne_bk4_bk2, hbk4_r⟩ := Reg.ne_of_put hbk4_r
  have ne_bk2_bk4 := Ne.symm ne_bk4_bk2
  simp only [Act.put, nA, nB, nC]
  refine Seq.pure rfl rfl (by intro w; go_simp; try rfl) ?_
  simp only [Act.put, nA, nB, nC]
  refine Seq.done fun ws1 hws => ?_
  have HS1 := hws.list3 (p := bk2) (q := bk3) (r := bk4) (by repeat (first | exact rS | refine rN (by assumption) ?_)) (by repeat (first | exact rS | refine rN (by assumption) ?_)) (by repeat (first | exact rS | refine rN (by assumption) ?_)) (by assumption) (by assumption) (by assumption)
  clear HS hws
  go_upto_region 1 with (fail)
  refine wp_seq_text [] (StR.no HS1) ?_
  iterate 2 (refine Seq.pure rfl rfl (by intro w; go_simp; try rfl) ?_; simp only [Act.put, nA, nB, nC])
  refine Seq.loadCell rfl rfl rfl rfl (by repeat (first | exact mC | apply mT)) (v := .bool false) rfl (by kernel_rfl) rfl ?_
  simp only [Act.put, nA, nB, nC]
  refine Seq.done fun ws2 hws => ?_
  have HS2 := hws.st
  clear HS1 hws
  go_upto_region 3 with (fail)
  refine wp_seq [] (by kernel_rfl) (by kernel_rfl) Reg.fin_no (StR.no HS2) ?_
  refine Seq.pure rfl rfl (by intro w; go_simp; try rfl) ?_
  simp only [Act.put, nA, nB, nC]
  refine Seq.loadAt rfl rfl rfl rfl (by repeat (first | exact mC | apply mT)) (n := 6) (cs' := VC p5 p6) (Nat.le_of_ble_eq_true rfl) (by kernel_rfl) rfl ?_
  simp only [Act.put, nA, nB, nC]
  iterate 2 (refine Seq.pure rfl rfl (by intro w; go_simp; try rfl) ?_; simp only [Act.put, nA, nB, nC])
  refine Seq.loadAt rfl rfl rfl rfl (by repeat (first | exact mC | apply mT)) (n := 3) (cs' := RT.c gt_t) (Nat.le_of_ble_eq_true rfl) (by kernel_rfl) rfl ?_
  simp only [Act.put, nA, nB, nC]
  refine Seq.call rfl rfl rfl rfl (by kernel_rfl) (neg_w (k := (1 * k + 2)) HT.out (Z_gt.out.more (by omega)) rfl (by omega)) ?_
  simp only [Act.put, nA, nB, nC]
  refine Seq.call rfl rfl rfl rfl (by kernel_rfl) (fun w h => (turnedOf_w (k := (1 * k + 2)) (a_t := (rt (-gt))) HT.out (Z_p5.out.more (by omega)) (Z_p6.out.more (by omega)) (RawT.rc (Z_gt.out.rz.neg.more (by omega)))  hok.out (by omega) (by omega) w h).mono (fun e w2 hh => ⟨hh.1.trans HTO.out, hh.2⟩)) ?_
  simp only [Act.put, nA, nB, nC]
  refine Seq.pure rfl rfl (by intro w; go_simp; try rfl) ?_
  simp only [Act.put, nA, nB, nC]
  refine Seq.pure (v := .agg (VC (tuQ (-gt) p5) (tuQ (-gt) p6))) rfl rfl (fun w => rfl) ?_
  simp only [Act.put, nA, nB, nC]
  refine Seq.pure (v := .bool true) rfl rfl (fun w => rfl) ?_
  simp only [Act.put, nA, nB, nC]
  refine Seq.alloc rfl rfl rfl (z := .agg (SW rz0 rz0)) (by kernel_rfl) rfl ?_
  intro bk6 _ _ hbk6_r
  simp only [Act.put, nA, nB, nC]
  refine Seq.store rfl rfl rfl rfl rfl (by repeat (first | exact rS | refine rN (by assumption) ?_)) (n := 6) rfl rfl (by kernel_rfl) (VC_one _ _) ?_
  simp only [Act.put, nA, nB, nC]
  refine Seq.pure rfl rfl (by intro w; go_simp; try rfl) ?_
  simp only [Act.put, nA, nB, nC]
  refine Seq.done fun ws3 hws => ?_
  have HS3 := hws.list1 (p := bk6) (by repeat (first | exact rS | refine rN (by assumption) ?_))
  clear HS2 hws
  go_upto_region 4 with (fail)
  refine wp_seq_text [] (StR.no HS3) ?_
  iterate 2 (refine Seq.pure rfl rfl (by intro w; go_simp; try rfl) ?_; simp only [Act.put, nA, nB, nC])
  refine Seq.done fun ws4 hws => ?_
  have HS4 := hws.st
  clear HS3 hws
  go_upto_region 6 with (fail)
  refine wp_seq_text [] (StR.no HS4) ?_
  refine Seq.pure rfl rfl (by intro w; go_simp; try rfl) ?_
  simp only [Act.put, nA, nB, nC]
  refine Seq.loadAt rfl rfl rfl rfl (by repeat (first | exact mC | apply mT)) (n := 4) (cs' := UW false gt_t) (Nat.le_of_ble_eq_true rfl) (by kernel_rfl) rfl ?_
  simp only [Act.put, nA, nB, nC]
  refine Seq.call rfl rfl rfl rfl (by kernel_rfl) (cosine_w (k := (1 * k + 2)) (t_t := gt_t) HT.out (Z_gt.out.more (by omega))  HC.out HS0.out (by omega) (by omega)) ?_
  simp only [Act.put, nA, nB, nC]
  refine Seq.pure rfl rfl (by intro w; go_simp; try rfl) ?_
  simp only [Act.put, nA, nB, nC]
  refine Seq.pure (v := .agg (RC c)) rfl rfl (fun w => rfl) ?_
  simp only [Act.put, nA, nB, nC]
  refine Seq.pure (v := .agg (RC s)) rfl rfl (fun w => rfl) ?_
  simp only [Act.put, nA, nB, nC]
  refine Seq.alloc rfl rfl rfl (z := .agg (RT.c rz0)) (by kernel_rfl) rfl ?_
  intro bk8 _ _ hbk8_r
  simp only [Act.put, nA, nB, nC]
  refine Seq.alloc rfl rfl rfl (z := .agg (RT.c rz0)) (by kernel_rfl) rfl ?_
  intro bk9 _ _ hbk9_r
  obtain ⟨ne_bk9_bk8, hbk9_r⟩ := Reg.ne_of_put hbk9_r
  have ne_bk8_bk9 := Ne.symm ne_bk9_bk8
  simp only [Act.put, nA, nB, nC]
  refine Seq.store rfl rfl rfl rfl rfl (by repeat (first | exact rS | refine rN (by assumption) ?_)) (n := 3) rfl rfl (by kernel_rfl) (RC_one _) ?_
  simp only [Act.put, nA, nB, nC]
  refine Seq.store rfl rfl rfl rfl rfl (by repeat (first | exact rS | refine rN (by assumption) ?_)) (n := 3) rfl rfl (by kernel_rfl) (RC_one _) ?_
  simp only [Act.put, nA, nB, nC]
  refine Seq.done fun ws5 hws => ?_
  have HS5 := hws.list2 (p := bk8) (q := bk9) (by repeat (first | exact rS | refine rN (by assumption) ?_)) (by repeat (first | exact rS | refine rN (by assumption) ?_)) (by assumption)
  clear HS4 hws
  go_upto_region 7 with (fail)
  refine wp_seq [] (by kernel_rfl) (by kernel_rfl) Reg.fin_no (StR.no HS5) ?_
  refine Seq.pure rfl rfl (by intro w; go_simp; try rfl) ?_
  simp only [Act.put, nA, nB, nC]
  refine Seq.loadAt rfl rfl rfl rfl (by repeat (first | exact mC | apply mT)) (n := 6) (cs' := VC p1 p2) (Nat.le_of_ble_eq_true rfl) (by kernel_rfl) rfl ?_
  simp only [Act.put, nA, nB, nC]
  iterate 2 (refine Seq.pure rfl rfl (by intro w; go_simp; try rfl) ?_; simp only [Act.put, nA, nB, nC])
  refine Seq.loadAt rfl rfl rfl rfl (by repeat (first | exact mC | apply mT)) (n := 3) (cs' := RT.c g1_t) (Nat.le_of_ble_eq_true rfl) (by kernel_rfl) rfl ?_
  simp only [Act.put, nA, nB, nC]
  refine Seq.call rfl rfl rfl rfl (by kernel_rfl) (neg_w (k := (1 * k + 2)) HT.out (Z_g1.out.more (by omega)) rfl (by omega)) ?_
  simp only [Act.put, nA, nB, nC]
  iterate 2 (refine Seq.pure rfl rfl (by intro w; go_simp; try rfl) ?_; simp only [Act.put, nA, nB, nC])
  refine Seq.loadAt rfl rfl rfl rfl (by repeat (first | exact mC | apply mT)) (n := 3) (cs' := RT.c g1_t) (Nat.le_of_ble_eq_true rfl) (by kernel_rfl) rfl ?_
  simp only [Act.put, nA, nB, nC]
  refine Seq.call rfl rfl rfl rfl (by kernel_rfl) (neg_w (k := (1 * k + 2)) HT.out (Z_g1.out.more (by omega)) rfl (by omega)) ?_
  simp only [Act.put, nA, nB, nC]
  refine Seq.pure (v := .agg (VC (-g1) (-g1))) rfl rfl (fun w => bld_RSpan (x := (rt (-g1))) (y := (rt (-g1))) rfl rfl rfl w) ?_
  simp only [Act.put, nA, nB, nC]
  refine Seq.call rfl rfl rfl rfl (by kernel_rfl) (plus_q (k := (1 * k + 2)) HT.out (Z_p1.out.more (by omega)) (Z_p2.out.more (by omega)) (Z_g1.out.rz.neg.more (by omega)) (Z_g1.out.rz.neg.more (by omega))  (Rat.sub_eq_add_neg _ _).symm (Rat.sub_eq_add_neg _ _).symm (by omega) (by omega)) ?_
  simp only [Act.put, nA, nB, nC]
  refine Seq.alloc rfl rfl rfl (z := .agg (SW rz0 rz0)) (by kernel_rfl) rfl ?_
  intro bk10 _ _ hbk10_r
  simp only [Act.put, nA, nB, nC]
  refine Seq.store rfl rfl rfl rfl rfl (by repeat (first | exact rS | refine rN (by assumption) ?_)) (n := 6) rfl rfl (by kernel_rfl) (VC_one _ _) ?_
  simp only [Act.put, nA, nB, nC]
  refine Seq.done fun ws6 hws => ?_
  have HS6 := hws.list1 (p := bk10) (by repeat (first | exact rS | refine rN (by assumption) ?_))
  clear HS5 hws
  go_upto_region 8 with (fail)
  refine wp_seq [] (by kernel_rfl) (by kernel_rfl) Reg.fin_no (StR.no HS6) ?_
  refine Seq.pure rfl rfl (by intro w; go_simp; try rfl) ?_
  simp only [Act.put, nA, nB, nC]
  refine Seq.loadAt rfl rfl rfl rfl (by repeat (first | exact mC | apply mT)) (n := 6) (cs' := VC p3 p4) (Nat.le_of_ble_eq_true rfl) (by kernel_rfl) rfl ?_
  simp only [Act.put, nA, nB, nC]
  iterate 2 (refine Seq.pure rfl rfl (by intro w; go_simp; try rfl) ?_; simp only [Act.put, nA, nB, nC])
  refine Seq.loadAt rfl rfl rfl rfl (by repeat (first | exact mC | apply mT)) (n := 3) (cs' := RT.c g2_t) (Nat.le_of_ble_eq_true rfl) (by kernel_rfl) rfl ?_
  simp only [Act.put, nA, nB, nC]
  refine Seq.call rfl rfl rfl rfl (by kernel_rfl) (neg_w (k := (1 * k + 2)) HT.out (Z_g2.out.more (by omega)) rfl (by omega)) ?_
  simp only [Act.put, nA, nB, nC]
  iterate 2 (refine Seq.pure rfl rfl (by intro w; go_simp; try rfl) ?_; simp only [Act.put, nA, nB, nC])
  refine Seq.loadAt rfl rfl rfl rfl (by repeat (first | exact mC | apply mT)) (n := 3) (cs' := RT.c g2_t) (Nat.le_of_ble_eq_true rfl) (by kernel_rfl) rfl ?_
  simp only [Act.put, nA, nB, nC]
  refine Seq.call rfl rfl rfl rfl (by kernel_rfl) (neg_w (k := (1 * k + 2)) HT.out (Z_g2.out.more (by omega)) rfl (by omega)) ?_
  simp only [Act.put, nA, nB, nC]
  refine Seq.pure (v := .agg (VC (-g2) (-g2))) rfl rfl (fun w => bld_RSpan (x := (rt (-g2))) (y := (rt (-g2))) rfl rfl rfl w) ?_
  simp only [Act.put, nA, nB, nC]
  refine Seq.call rfl rfl rfl rfl (by kernel_rfl) (plus_q (k := (1 * k + 2)) HT.out (Z_p3.out.more (by omega)) (Z_p4.out.more (by omega)) (Z_g2.out.rz.neg.more (by omega)) (Z_g2.out.rz.neg.more (by omega))  (Rat.sub_eq_add_neg _ _).symm (Rat.sub_eq_add_neg _ _).symm (by omega) (by omega)) ?_
  simp only [Act.put, nA, nB, nC]
  refine Seq.alloc rfl rfl rfl (z := .agg (SW rz0 rz0)) (by kernel_rfl) rfl ?_
  intro bk11 _ _ hbk11_r
  simp only [Act.put, nA, nB, nC]
  refine Seq.store rfl rfl rfl rfl rfl (by repeat (first | exact rS | refine rN (by assumption) ?_)) (n := 6) rfl rfl (by kernel_rfl) (VC_one _ _) ?_
  simp only [Act.put, nA, nB, nC]
  refine Seq.done fun ws7 hws => ?_
  have HS7 := hws.list1 (p := bk11) (by repeat (first | exact rS | refine rN (by assumption) ?_))
  clear HS6 hws
  go_upto_region 9 with (fail)
  refine wp_seq [] (by kernel_rfl) (by kernel_rfl) Reg.fin_no (StR.no HS7) ?_
  refine Seq.load rfl rfl rfl rfl (by repeat (first | exact mC | apply mT)) (n := 6) rfl (by kernel_rfl) ?_
  simp only [Act.put, nA, nB, nC]
  refine Seq.load rfl rfl rfl rfl (by repeat (first | exact mC | apply mT)) (n := 6) rfl (by kernel_rfl) ?_
  simp only [Act.put, nA, nB, nC]
  refine Seq.load rfl rfl rfl rfl (by repeat (first | exact mC | apply mT)) (n := 3) rfl (by kernel_rfl) ?_
  simp only [Act.put, nA, nB, nC]
  refine Seq.load rfl rfl rfl rfl (by repeat (first | exact mC | apply mT)) (n := 3) rfl (by kernel_rfl) ?_
  simp only [Act.put, nA, nB, nC]
  refine Seq.call rfl rfl rfl rfl (by kernel_rfl) (neg_q (k := (8 * k + 10)) HT.out (Z_s.out.more (by omega)) rfl (by omega)) ?_
  simp only [Act.put, nA, nB, nC]
  refine Seq.call rfl rfl rfl rfl (by kernel_rfl) (rotated_q (k := (8 * k + 10)) HT.out ((Z_p1.out.sub Z_g1.out.rz).more (by omega)) ((Z_p2.out.sub Z_g1.out.rz).more (by omega)) ((Z_p3.out.sub Z_g2.out.rz).more (by omega)) ((Z_p4.out.sub Z_g2.out.rz).more (by omega)) (Z_c.out.more (by omega)) (Z_s.out.neg.more (by omega))  HX.out.1 HX.out.2.1 HX.out.2.2.1 HX.out.2.2.2 (by omega) (by omega)) ?_
  simp only [Act.put, nA, nB, nC]
  refine Seq.pure rfl rfl (by intro w; go_simp; try rfl) ?_
  simp only [Act.put, nA, nB, nC]
  refine Seq.pure (v := .agg (VC x0 x1)) rfl rfl (fun w => rfl) ?_
  simp only [Act.put, nA, nB, nC]
  refine Seq.pure (v := .agg (VC y0 y1)) rfl rfl (fun w => rfl) ?_
  simp only [Act.put, nA, nB, nC]
  refine Seq.alloc rfl rfl rfl (z := .agg (SW rz0 rz0)) (by kernel_rfl) rfl ?_
  intro bk12 _ _ hbk12_r
  simp only [Act.put, nA, nB, nC]
  refine Seq.alloc rfl rfl rfl (z := .agg (SW rz0 rz0)) (by kernel_rfl) rfl ?_
  intro bk13 _ _ hbk13_r
  obtain ⟨ne_bk13_bk12, hbk13_r⟩ := Reg.ne_of_put hbk13_r
  have ne_bk12_bk13 := Ne.symm ne_bk13_bk12
  simp only [Act.put, nA, nB, nC]
  refine Seq.store rfl rfl rfl rfl rfl (by repeat (first | exact rS | refine rN (by assumption) ?_)) (n := 6) rfl rfl (by kernel_rfl) (VC_one _ _) ?_
  simp only [Act.put, nA, nB, nC]
  refine Seq.store rfl rfl rfl rfl rfl (by repeat (first | exact rS | refine rN (by assumption) ?_)) (n := 6) rfl rfl (by kernel_rfl) (VC_one _ _) ?_
  simp only [Act.put, nA, nB, nC]
  refine Seq.done fun ws8 hws => ?_
  have HS8 := hws.list2 (p := bk12) (q := bk13) (by repeat (first | exact rS | refine rN (by assumption) ?_)) (by repeat (first | exact rS | refine rN (by assumption) ?_)) (by assumption)
  clear HS7 hws
  go_upto_region 10 with (fail)
  have HPbk4 := HS8.f9
  refine wp_seq_text [] (StR.move (StR.no HPbk4)) ?_
  refine Seq.load rfl rfl rfl rfl (by repeat (first | exact mC | apply mT)) (n := 6) rfl (by kernel_rfl) ?_
  simp only [Act.put, nA, nB, nC]
  refine Seq.load rfl rfl rfl rfl (by repeat (first | exact mC | apply mT)) (n := 6) rfl (by kernel_rfl) ?_
  simp only [Act.put, nA, nB, nC]
  refine Seq.load rfl rfl rfl rfl (by repeat (first | exact mC | apply mT)) (n := 6) rfl (by kernel_rfl) ?_
  simp only [Act.put, nA, nB, nC]
  refine Seq.pure (v := .agg (PW (rt x0) (rt x1) (rt y0) (rt y1) (rt (tuQ (-gt) p5)) (rt (tuQ (-gt) p6)))) rfl rfl (fun w => bld_RPose (x := (rt x0)) (y := (rt x1)) (z := (rt y0)) (u := (rt y1)) (v := (rt (tuQ (-gt) p5))) (t := (rt (tuQ (-gt) p6))) rfl rfl rfl rfl w) ?_
  simp only [Act.put, nA, nB, nC]
  refine Seq.store rfl rfl rfl rfl rfl (by repeat (first | exact rS | refine rN (by assumption) ?_)) (n := 18) rfl rfl (by kernel_rfl) (PW_one _ _ _ _ _ _) ?_
  simp only [Act.put, nA, nB, nC]
  refine Seq.pure rfl rfl (by intro w; go_simp; try rfl) ?_
  simp only [Act.put, nA, nB, nC]
  refine Seq.done fun ws9 hws => ?_
  have HS9 := hws.list1 (p := bk4) (by repeat (first | exact rS | refine rN (by assumption) ?_))
  clear HS8 hws HPbk4
  go_wp2_with fail
  exact ret_own2 rfl rfl rfl rfl HS9 (by repeat (first | exact mC | apply mT)) (n := 18) rfl (by kernel_rfl) ⟨HR.out, HS9.below⟩
set_option maxHeartbeats 2000000 in
set_option maxRecDepth 20000 in
theorem putOf_half {k : Nat} {p1 : Rat} {p2 : Rat} {p3 : Rat} {p4 : Rat} {p5 : Rat} {p6 : Rat} {g1 : Rat} {g1_g : Bool} {g1_t : RT} {g2 : Rat} {g2_g : Bool} {g2_t : RT} {gh : Bool} {gt : Rat} {gt_g : Bool} {gt_t : RT} {W : World} {l : List Own} (hT : Tab W) (Zp1 : Rz k p1) (Zp2 : Rz k p2) (Zp3 : Rz k p3) (Zp4 : Rz k p4) (Zp5 : Rz k p5) (Zp6 : Rz k p6) (Zg1 : RawT k g1 g1_g g1_t) (Zg2 : RawT k g2 g2_g g2_t) (Zgt : RawT k gt gt_g gt_t) (hgh : gh = true) (hk0 : 2 ≤ k) (hk : k ≤ 1000000000000) (w : World) (h : St W l w) :
    Calls Tryd.prog 14 #[.agg (PW (rt p1) (rt p2) (rt p3) (rt p4) (rt p5) (rt p6)), .agg (FW g1_t g2_t gh gt_t)] w fun e w' => e = .returned (.tuple #[.agg (PW rz0 rz0 rz0 rz0 rz0 rz0), .int .i64 3]) ∧ Below w.heap.size w w' := by
  have HT := Lib.hid (tabS hT h); clear hT h
  have Z_p1 := Lib.hid Zp1; clear Zp1
  have Z_p2 := Lib.hid Zp2; clear Zp2
  have Z_p3 := Lib.hid Zp3; clear Zp3
  have Z_p4 := Lib.hid Zp4; clear Zp4
  have Z_p5 := Lib.hid Zp5; clear Zp5
  have Z_p6 := Lib.hid Zp6; clear Zp6
  have Z_g1 := Lib.hid Zg1; clear Zg1
  have Z_g2 := Lib.hid Zg2; clear Zg2
  have Z_gt := Lib.hid Zgt; clear Zgt
  subst hgh
  go_enter Tryd.func14, Tryd.ntmps14
  have HS : St w [] w := St.start
  go_upto_region 0 with (fail)
  refine wp_seq_text [] (StR.no HS) ?_
  refine Seq.box rfl rfl rfl (v := .agg (PW (rt p1) (rt p2) (rt p3) (rt p4) (rt p5) (rt p6))) (cs := PW (rt p1) (rt p2) (rt p3) (rt p4) (rt p5) (rt p6)) rfl rfl ?_
  intro bk2 _ _ hbk2_r
  simp only [Act.put, nA, nB, nC]
  refine Seq.box rfl rfl rfl (v := .agg (FW g1_t g2_t true gt_t)) (cs := FW g1_t g2_t true gt_t) rfl rfl ?_
  intro bk3 _ _ hbk3_r
  obtain ⟨ne_bk3_bk2, hbk3_r⟩ := Reg.ne_of_put hbk3_r
  have ne_bk2_bk3 := Ne.symm ne_bk3_bk2
  simp only [Act.put, nA, nB, nC]
  refine Seq.alloc rfl rfl rfl (z := .agg (PW rz0 rz0 rz0 rz0 rz0 rz0)) (by kernel_rfl) rfl ?_
  intro bk4 _ _ hbk4_r
  obtain ⟨ne_bk4_bk3, hbk4_r⟩ := Reg.ne_of_put hbk4_r
  have ne_bk3_bk4 := Ne.symm ne_bk4_bk3
  obtain ⟨ne_bk4_bk2, hbk4_r⟩ := Reg.ne_of_put hbk4_r
  have ne_bk2_bk4 := Ne.symm ne_bk4_bk2
  simp only [Act.put, nA, nB, nC]
  refine Seq.pure rfl rfl (by intro w; go_simp; try rfl) ?_
  simp only [Act.put, nA, nB, nC]
  refine Seq.done fun ws1 hws => ?_
  have HS1 := hws.list3 (p := bk2) (q := bk3) (r := bk4) (by repeat (first | exact rS | refine rN (by assumption) ?_)) (by repeat (first | exact rS | refine rN (by assumption) ?_)) (by repeat (first | exact rS | refine rN (by assumption) ?_)) (by assumption) (by assumption) (by assumption)
  clear HS hws
  go_upto_region 1 with (fail)
  refine wp_seq_text [] (StR.no HS1) ?_
  iterate 2 (refine Seq.pure rfl rfl (by intro w; go_simp; try rfl) ?_; simp only [Act.put, nA, nB, nC])
  refine Seq.loadCell rfl rfl rfl rfl (by repeat (first | exact mC | apply mT)) (v := .bool true) rfl (by kernel_rfl) rfl ?_
  simp only [Act.put, nA, nB, nC]
  refine Seq.done fun ws2 hws => ?_
  have HS2 := hws.st
  clear HS1 hws
  go_upto_region 2 with (fail)
  have HPbk4 := HS2.f2
  refine wp_seq_text [] (StR.move (StR.no HPbk4)) ?_
  refine Seq.pure (v := .agg (PW rz0 rz0 rz0 rz0 rz0 rz0)) rfl rfl (by intro w; go_simp; try rfl) ?_
  simp only [Act.put, nA, nB, nC]
  refine Seq.store rfl rfl rfl rfl rfl (by repeat (first | exact rS | refine rN (by assumption) ?_)) (n := 18) rfl rfl (by kernel_rfl) (PW_one _ _ _ _ _ _) ?_
  simp only [Act.put, nA, nB, nC]
  refine Seq.pure rfl rfl (by intro w; go_simp; try rfl) ?_
  simp only [Act.put, nA, nB, nC]
  refine Seq.done fun ws3 hws => ?_
  have HS3 := hws.list1 (p := bk4) (by repeat (first | exact rS | refine rN (by assumption) ?_))
  clear HS2 hws HPbk4
  go_wp2_with fail
  exact ret_own2 rfl rfl rfl rfl HS3 (by repeat (first | exact mC | apply mT)) (n := 18) rfl (by kernel_rfl) ⟨rfl, HS3.below⟩
set_option maxHeartbeats 2000000 in
set_option maxRecDepth 20000 in
theorem putOf_no {k : Nat} {p1 : Rat} {p2 : Rat} {p3 : Rat} {p4 : Rat} {p5 : Rat} {p6 : Rat} {g1 : Rat} {g1_g : Bool} {g1_t : RT} {g2 : Rat} {g2_g : Bool} {g2_t : RT} {gh : Bool} {gt : Rat} {gt_g : Bool} {gt_t : RT} {W : World} {l : List Own} (hT : Tab W) (Zp1 : Rz k p1) (Zp2 : Rz k p2) (Zp3 : Rz k p3) (Zp4 : Rz k p4) (Zp5 : Rz k p5) (Zp6 : Rz k p6) (Zg1 : RawT k g1 g1_g g1_t) (Zg2 : RawT k g2 g2_g g2_t) (Zgt : RawT k gt gt_g gt_t) (hgh : gh = false) (hok : tOk gt p5 p6 = false) (hk0 : 2 ≤ k) (hk : k ≤ 999999999998) (w : World) (h : St W l w) :
    Calls Tryd.prog 14 #[.agg (PW (rt p1) (rt p2) (rt p3) (rt p4) (rt p5) (rt p6)), .agg (FW g1_t g2_t gh gt_t)] w fun e w' => e = .returned (.tuple #[.agg (PW rz0 rz0 rz0 rz0 rz0 rz0), .int .i64 18]) ∧ Below w.heap.size w w' := by
  have HT := Lib.hid (tabS hT h); clear hT h
  have Z_p1 := Lib.hid Zp1; clear Zp1
  have Z_p2 := Lib.hid Zp2; clear Zp2
  have Z_p3 := Lib.hid Zp3; clear Zp3
  have Z_p4 := Lib.hid Zp4; clear Zp4
  have Z_p5 := Lib.hid Zp5; clear Zp5
  have Z_p6 := Lib.hid Zp6; clear Zp6
  have Z_g1 := Lib.hid Zg1; clear Zg1
  have Z_g2 := Lib.hid Zg2; clear Zg2
  have Z_gt := Lib.hid Zgt; clear Zgt
  subst hgh
  have hok := Lib.hid hok
  go_enter Tryd.func14, Tryd.ntmps14
  have HS : St w [] w := St.start
  go_upto_region 0 with (fail)
  refine wp_seq_text [] (StR.no HS) ?_
  refine Seq.box rfl rfl rfl (v := .agg (PW (rt p1) (rt p2) (rt p3) (rt p4) (rt p5) (rt p6))) (cs := PW (rt p1) (rt p2) (rt p3) (rt p4) (rt p5) (rt p6)) rfl rfl ?_
  intro bk2 _ _ hbk2_r
  simp only [Act.put, nA, nB, nC]
  refine Seq.box rfl rfl rfl (v := .agg (FW g1_t g2_t false gt_t)) (cs := FW g1_t g2_t false gt_t) rfl rfl ?_
  intro bk3 _ _ hbk3_r
  obtain ⟨ne_bk3_bk2, hbk3_r⟩ := Reg.ne_of_put hbk3_r
  have ne_bk2_bk3 := Ne.symm ne_bk3_bk2
  simp only [Act.put, nA, nB, nC]
  refine Seq.alloc rfl rfl rfl (z := .agg (PW rz0 rz0 rz0 rz0 rz0 rz0)) (by kernel_rfl) rfl ?_
  intro bk4 _ _ hbk4_r
  obtain ⟨ne_bk4_bk3, hbk4_r⟩ := Reg.ne_of_put hbk4_r
  have ne_bk3_bk4 := Ne.symm ne_bk4_bk3
  obtain ⟨ne_bk4_bk2, hbk4_r⟩ := Reg.ne_of_put hbk4_r
  have ne_bk2_bk4 := Ne.symm ne_bk4_bk2
  simp only [Act.put, nA, nB, nC]
  refine Seq.pure rfl rfl (by intro w; go_simp; try rfl) ?_
  simp only [Act.put, nA, nB, nC]
  refine Seq.done fun ws1 hws => ?_
  have HS1 := hws.list3 (p := bk2) (q := bk3) (r := bk4) (by repeat (first | exact rS | refine rN (by assumption) ?_)) (by repeat (first | exact rS | refine rN (by assumption) ?_)) (by repeat (first | exact rS | refine rN (by assumption) ?_)) (by assumption) (by assumption) (by assumption)
  clear HS hws
  go_upto_region 1 with (fail)
  refine wp_seq_text [] (StR.no HS1) ?_
  iterate 2 (refine Seq.pure rfl rfl (by intro w; go_simp; try rfl) ?_; simp only [Act.put, nA, nB, nC])
  refine Seq.loadCell rfl rfl rfl rfl (by repeat (first | exact mC | apply mT)) (v := .bool false) rfl (by kernel_rfl) rfl ?_
  simp only [Act.put, nA, nB, nC]
  refine Seq.done fun ws2 hws => ?_
  have HS2 := hws.st
  clear HS1 hws
  go_upto_region 3 with (fail)
  refine wp_seq_text [] (StR.no HS2) ?_
  refine Seq.pure rfl rfl (by intro w; go_simp; try rfl) ?_
  simp only [Act.put, nA, nB, nC]
  refine Seq.loadAt rfl rfl rfl rfl (by repeat (first | exact mC | apply mT)) (n := 6) (cs' := VC p5 p6) (Nat.le_of_ble_eq_true rfl) (by kernel_rfl) rfl ?_
  simp only [Act.put, nA, nB, nC]
  iterate 2 (refine Seq.pure rfl rfl (by intro w; go_simp; try rfl) ?_; simp only [Act.put, nA, nB, nC])
  refine Seq.loadAt rfl rfl rfl rfl (by repeat (first | exact mC | apply mT)) (n := 3) (cs' := RT.c gt_t) (Nat.le_of_ble_eq_true rfl) (by kernel_rfl) rfl ?_
  simp only [Act.put, nA, nB, nC]
  refine Seq.call rfl rfl rfl rfl (by kernel_rfl) (turnedOf_w (k := (1 * k + 2)) (a_t := gt_t) HT.out (Z_p5.out.more (by omega)) (Z_p6.out.more (by omega)) (Z_gt.out.more (by omega))  hok.out (by omega) (by omega)) ?_
  simp only [Act.put, nA, nB, nC]
  refine Seq.pure rfl rfl (by intro w; go_simp; try rfl) ?_
  simp only [Act.put, nA, nB, nC]
  refine Seq.pure (v := .agg (SW (toR0 gt p5 p6) (toR1 gt p5 p6))) rfl rfl (fun w => rfl) ?_
  simp only [Act.put, nA, nB, nC]
  refine Seq.pure (v := .bool false) rfl rfl (fun w => rfl) ?_
  simp only [Act.put, nA, nB, nC]
  refine Seq.alloc rfl rfl rfl (z := .agg (SW rz0 rz0)) (by kernel_rfl) rfl ?_
  intro bk6 _ _ hbk6_r
  simp only [Act.put, nA, nB, nC]
  refine Seq.store rfl rfl rfl rfl rfl (by repeat (first | exact rS | refine rN (by assumption) ?_)) (n := 6) rfl rfl (by kernel_rfl) (SW_one _ _) ?_
  simp only [Act.put, nA, nB, nC]
  refine Seq.pure rfl rfl (by intro w; go_simp; try rfl) ?_
  simp only [Act.put, nA, nB, nC]
  refine Seq.done fun ws3 hws => ?_
  have HS3 := hws.list1 (p := bk6) (by repeat (first | exact rS | refine rN (by assumption) ?_))
  clear HS2 hws
  go_upto_region 4 with (fail)
  refine wp_seq_text [] (StR.no HS3) ?_
  iterate 2 (refine Seq.pure rfl rfl (by intro w; go_simp; try rfl) ?_; simp only [Act.put, nA, nB, nC])
  refine Seq.done fun ws4 hws => ?_
  have HS4 := hws.st
  clear HS3 hws
  go_upto_region 5 with (fail)
  have HPbk4 := HS4.f3
  refine wp_seq_text [] (StR.move (StR.no HPbk4)) ?_
  refine Seq.pure (v := .agg (PW rz0 rz0 rz0 rz0 rz0 rz0)) rfl rfl (by intro w; go_simp; try rfl) ?_
  simp only [Act.put, nA, nB, nC]
  refine Seq.store rfl rfl rfl rfl rfl (by repeat (first | exact rS | refine rN (by assumption) ?_)) (n := 18) rfl rfl (by kernel_rfl) (PW_one _ _ _ _ _ _) ?_
  simp only [Act.put, nA, nB, nC]
  refine Seq.pure rfl rfl (by intro w; go_simp; try rfl) ?_
  simp only [Act.put, nA, nB, nC]
  refine Seq.done fun ws5 hws => ?_
  have HS5 := hws.list1 (p := bk4) (by repeat (first | exact rS | refine rN (by assumption) ?_))
  clear HS4 hws HPbk4
  go_wp2_with fail
  exact ret_own2 rfl rfl rfl rfl HS5 (by repeat (first | exact mC | apply mT)) (n := 18) rfl (by kernel_rfl) ⟨rfl, HS5.below⟩
set_option maxHeartbeats 2000000 in
set_option maxRecDepth 20000 in
theorem putOf_ok {k : Nat} {p1 : Rat} {p2 : Rat} {p3 : Rat} {p4 : Rat} {p5 : Rat} {p6 : Rat} {g1 : Rat} {g1_g : Bool} {g1_t : RT} {g2 : Rat} {g2_g : Bool} {g2_t : RT} {gh : Bool} {gt : Rat} {gt_g : Bool} {gt_t : RT} {z0 : Rat} {z1 : Rat} {z2 : Rat} {z3 : Rat} {z4 : Rat} {z5 : Rat} {W : World} {l : List Own} (hT : Tab W) (Zp1 : Rz k p1) (Zp2 : Rz k p2) (Zp3 : Rz k p3) (Zp4 : Rz k p4) (Zp5 : Rz k p5) (Zp6 : Rz k p6) (Zg1 : RawT k g1 g1_g g1_t) (Zg2 : RawT k g2 g2_g g2_t) (Zgt : RawT k gt gt_g gt_t) (hgh : gh = false) (hok : tOk gt p5 p6 = true) (hz0 : pX0 p1 p2 p3 p4 g1 g2 gt = z0) (hz1 : pX1 p1 p2 p3 p4 g1 g2 gt = z1) (hz2 : pY0 p1 p2 p3 p4 g1 g2 gt = z2) (hz3 : pY1 p1 p2 p3 p4 g1 g2 gt = z3) (hz4 : tuQ gt p5 = z4) (hz5 : tuQ gt p6 = z5) (hk0 : 2 ≤ k) (hk : k ≤ 16666666665) (w : World) (h : St W l w) :
    Calls Tryd.prog 14 #[.agg (PW (rt p1) (rt p2) (rt p3) (rt p4) (rt p5) (rt p6)), .agg (FW g1_t g2_t gh gt_t)] w fun e w' => e = .returned (.tuple #[.agg (PW (rt z0) (rt z1) (rt z2) (rt z3) (rt z4) (rt z5)), .int .i64 0]) ∧ Below w.heap.size w w' := by
  subst hz0
  subst hz1
  subst hz2
  subst hz3
  subst hz4
  subst hz5
  have HT := Lib.hid (tabS hT h); clear hT h
  have Z_p1 := Lib.hid Zp1; clear Zp1
  have Z_p2 := Lib.hid Zp2; clear Zp2
  have Z_p3 := Lib.hid Zp3; clear Zp3
  have Z_p4 := Lib.hid Zp4; clear Zp4
  have Z_p5 := Lib.hid Zp5; clear Zp5
  have Z_p6 := Lib.hid Zp6; clear Zp6
  have Z_g1 := Lib.hid Zg1; clear Zg1
  have Z_g2 := Lib.hid Zg2; clear Zg2
  have Z_gt := Lib.hid Zgt; clear Zgt
  subst hgh
  obtain ⟨c, hc⟩ : ∃ c, cosT false gt = c := ⟨_, rfl⟩
  obtain ⟨s, hs⟩ : ∃ c, sinT gt = c := ⟨_, rfl⟩
  have Z_c := Lib.hid (show Rz (8 * k + 10) c from hc ▸ Rz.cosT false Z_gt.out.rz)
  have Z_s := Lib.hid (show Rz (8 * k + 10) s from hs ▸ Rz.sinT Z_gt.out.rz)
  have hok := Lib.hid hok
  obtain ⟨x0, hx0⟩ : ∃ z, rX0 c s p1 p2 p3 p4 = z := ⟨_, rfl⟩
  obtain ⟨x1, hx1⟩ : ∃ z, rX1 c s p1 p2 p3 p4 = z := ⟨_, rfl⟩
  obtain ⟨y0, hy0⟩ : ∃ z, rY0 c s p1 p2 p3 p4 = z := ⟨_, rfl⟩
  obtain ⟨y1, hy1⟩ : ∃ z, rY1 c s p1 p2 p3 p4 = z := ⟨_, rfl⟩
  have HX := Lib.hid (show rX0 c s p1 p2 p3 p4 = x0 ∧ rX1 c s p1 p2 p3 p4 = x1 ∧ rY0 c s p1 p2 p3 p4 = y0 ∧ rY1 c s p1 p2 p3 p4 = y1 from ⟨hx0, hx1, hy0, hy1⟩)
  have HL := Lib.hid (show x0 ≤ x1 ∧ y0 ≤ y1 from by rw [← hx0, ← hx1, ← hy0, ← hy1]; exact r_le _ _ _ _ _ _)
  have HZ4 := r_rz (kc := 8 * k + 10) (kx := 4 * k + 1) Z_c.out Z_s.out (Z_p1.out.more (by omega)) (Z_p2.out.more (by omega)) (Z_p3.out.more (by omega)) (Z_p4.out.more (by omega))
  have Z_x0 := Lib.hid (show Rz (60 * k + 90) x0 from (hx0 ▸ HZ4.1).more (by omega))
  have Z_x1 := Lib.hid (show Rz (60 * k + 90) x1 from (hx1 ▸ HZ4.2.1).more (by omega))
  have Z_y0 := Lib.hid (show Rz (60 * k + 90) y0 from (hy0 ▸ HZ4.2.2.1).more (by omega))
  have Z_y1 := Lib.hid (show Rz (60 * k + 90) y1 from (hy1 ▸ HZ4.2.2.2).more (by omega))
  clear HZ4
  have HR := Lib.hid (show Ending.returned (.tuple #[.agg (PW (rt (x0 + g1)) (rt (x1 + g1)) (rt (y0 + g2)) (rt (y1 + g2)) (rt (tuQ gt p5)) (rt (tuQ gt p6))), .int .i64 0]) = .returned (.tuple #[.agg (PW (rt (pX0 p1 p2 p3 p4 g1 g2 gt)) (rt (pX1 p1 p2 p3 p4 g1 g2 gt)) (rt (pY0 p1 p2 p3 p4 g1 g2 gt)) (rt (pY1 p1 p2 p3 p4 g1 g2 gt)) (rt (tuQ gt p5)) (rt (tuQ gt p6))), .int .i64 0]) from by rw [← hx0, ← hx1, ← hy0, ← hy1, ← hc, ← hs]; unfold pX0 pX1 pY0 pY1; rfl)
  clear hx0 hx1 hy0 hy1
  have HC := Lib.hid hc; clear hc
  have HS0 := Lib.hid hs; clear hs
  have HTO := Lib.hid (show Ending.returned (.tuple #[.agg (SW (toR0 gt p5 p6) (toR1 gt p5 p6)), .bool true]) = .returned (.tuple #[.agg (VC (tuQ gt p5) (tuQ gt p6)), .bool true]) from by rw [(toR_ok hok.out).1, (toR_ok hok.out).2]; rfl)
  go_enter Tryd.func14, Tryd.ntmps14
  have HS : St w [] w := St.start
  go_upto_region 0 with (fail)
  refine wp_seq_text [] (StR.no HS) ?_
  refine Seq.box rfl rfl rfl (v := .agg (PW (rt p1) (rt p2) (rt p3) (rt p4) (rt p5) (rt p6))) (cs := PW (rt p1) (rt p2) (rt p3) (rt p4) (rt p5) (rt p6)) rfl rfl ?_
  intro bk2 _ _ hbk2_r
  simp only [Act.put, nA, nB, nC]
  refine Seq.box rfl rfl rfl (v := .agg (FW g1_t g2_t false gt_t)) (cs := FW g1_t g2_t false gt_t) rfl rfl ?_
  intro bk3 _ _ hbk3_r
  obtain ⟨ne_bk3_bk2, hbk3_r⟩ := Reg.ne_of_put hbk3_r
  have ne_bk2_bk3 := Ne.symm ne_bk3_bk2
  simp only [Act.put, nA, nB, nC]
  refine Seq.alloc rfl rfl rfl (z := .agg (PW rz0 rz0 rz0 rz0 rz0 rz0)) (by kernel_rfl) rfl ?_
  intro bk4 _ _ hbk4_r
  obtain ⟨ne_bk4_bk3, hbk4_r⟩ := Reg.ne_of_put hbk4_r
  have ne_bk3_bk4 := Ne.symm ne_bk4_bk3
  obtain ⟨ne_bk4_bk2, hbk4_r⟩ := Reg.ne_of_put hbk4_r
  have ne_bk2_bk4 := Ne.symm ne_bk4_bk2
  simp only [Act.put, nA, nB, nC]
  refine Seq.pure rfl rfl (by intro w; go_simp; try rfl) ?_
  simp only [Act.put, nA, nB, nC]
  refine Seq.done fun ws1 hws => ?_
  have HS1 := hws.list3 (p := bk2) (q := bk3) (r := bk4) (by repeat (first | exact rS | refine rN (by assumption) ?_)) (by repeat (first | exact rS | refine rN (by assumption) ?_)) (by repeat (first | exact rS | refine rN (by assumption) ?_)) (by assumption) (by assumption) (by assumption)
  clear HS hws
  go_upto_region 1 with (fail)
  refine wp_seq_text [] (StR.no HS1) ?_
  iterate 2 (refine Seq.pure rfl rfl (by intro w; go_simp; try rfl) ?_; simp only [Act.put, nA, nB, nC])
  refine Seq.loadCell rfl rfl rfl rfl (by repeat (first | exact mC | apply mT)) (v := .bool false) rfl (by kernel_rfl) rfl ?_
  simp only [Act.put, nA, nB, nC]
  refine Seq.done fun ws2 hws => ?_
  have HS2 := hws.st
  clear HS1 hws
  go_upto_region 3 with (fail)
  refine wp_seq_text [] (StR.no HS2) ?_
  refine Seq.pure rfl rfl (by intro w; go_simp; try rfl) ?_
  simp only [Act.put, nA, nB, nC]
  refine Seq.loadAt rfl rfl rfl rfl (by repeat (first | exact mC | apply mT)) (n := 6) (cs' := VC p5 p6) (Nat.le_of_ble_eq_true rfl) (by kernel_rfl) rfl ?_
  simp only [Act.put, nA, nB, nC]
  iterate 2 (refine Seq.pure rfl rfl (by intro w; go_simp; try rfl) ?_; simp only [Act.put, nA, nB, nC])
  refine Seq.loadAt rfl rfl rfl rfl (by repeat (first | exact mC | apply mT)) (n := 3) (cs' := RT.c gt_t) (Nat.le_of_ble_eq_true rfl) (by kernel_rfl) rfl ?_
  simp only [Act.put, nA, nB, nC]
  refine Seq.call rfl rfl rfl rfl (by kernel_rfl) (fun w h => (turnedOf_w (k := (1 * k + 2)) (a_t := gt_t) HT.out (Z_p5.out.more (by omega)) (Z_p6.out.more (by omega)) (Z_gt.out.more (by omega))  hok.out (by omega) (by omega) w h).mono (fun e w2 hh => ⟨hh.1.trans HTO.out, hh.2⟩)) ?_
  simp only [Act.put, nA, nB, nC]
  refine Seq.pure rfl rfl (by intro w; go_simp; try rfl) ?_
  simp only [Act.put, nA, nB, nC]
  refine Seq.pure (v := .agg (VC (tuQ gt p5) (tuQ gt p6))) rfl rfl (fun w => rfl) ?_
  simp only [Act.put, nA, nB, nC]
  refine Seq.pure (v := .bool true) rfl rfl (fun w => rfl) ?_
  simp only [Act.put, nA, nB, nC]
  refine Seq.alloc rfl rfl rfl (z := .agg (SW rz0 rz0)) (by kernel_rfl) rfl ?_
  intro bk6 _ _ hbk6_r
  simp only [Act.put, nA, nB, nC]
  refine Seq.store rfl rfl rfl rfl rfl (by repeat (first | exact rS | refine rN (by assumption) ?_)) (n := 6) rfl rfl (by kernel_rfl) (VC_one _ _) ?_
  simp only [Act.put, nA, nB, nC]
  refine Seq.pure rfl rfl (by intro w; go_simp; try rfl) ?_
  simp only [Act.put, nA, nB, nC]
  refine Seq.done fun ws3 hws => ?_
  have HS3 := hws.list1 (p := bk6) (by repeat (first | exact rS | refine rN (by assumption) ?_))
  clear HS2 hws
  go_upto_region 4 with (fail)
  refine wp_seq_text [] (StR.no HS3) ?_
  iterate 2 (refine Seq.pure rfl rfl (by intro w; go_simp; try rfl) ?_; simp only [Act.put, nA, nB, nC])
  refine Seq.done fun ws4 hws => ?_
  have HS4 := hws.st
  clear HS3 hws
  go_upto_region 6 with (fail)
  refine wp_seq_text [] (StR.no HS4) ?_
  refine Seq.pure rfl rfl (by intro w; go_simp; try rfl) ?_
  simp only [Act.put, nA, nB, nC]
  refine Seq.loadAt rfl rfl rfl rfl (by repeat (first | exact mC | apply mT)) (n := 4) (cs' := UW false gt_t) (Nat.le_of_ble_eq_true rfl) (by kernel_rfl) rfl ?_
  simp only [Act.put, nA, nB, nC]
  refine Seq.call rfl rfl rfl rfl (by kernel_rfl) (cosine_w (k := (1 * k + 2)) (t_t := gt_t) HT.out (Z_gt.out.more (by omega))  HC.out HS0.out (by omega) (by omega)) ?_
  simp only [Act.put, nA, nB, nC]
  refine Seq.pure rfl rfl (by intro w; go_simp; try rfl) ?_
  simp only [Act.put, nA, nB, nC]
  refine Seq.pure (v := .agg (RC c)) rfl rfl (fun w => rfl) ?_
  simp only [Act.put, nA, nB, nC]
  refine Seq.pure (v := .agg (RC s)) rfl rfl (fun w => rfl) ?_
  simp only [Act.put, nA, nB, nC]
  refine Seq.alloc rfl rfl rfl (z := .agg (RT.c rz0)) (by kernel_rfl) rfl ?_
  intro bk8 _ _ hbk8_r
  simp only [Act.put, nA, nB, nC]
  refine Seq.alloc rfl rfl rfl (z := .agg (RT.c rz0)) (by kernel_rfl) rfl ?_
  intro bk9 _ _ hbk9_r
  obtain ⟨ne_bk9_bk8, hbk9_r⟩ := Reg.ne_of_put hbk9_r
  have ne_bk8_bk9 := Ne.symm ne_bk9_bk8
  simp only [Act.put, nA, nB, nC]
  refine Seq.store rfl rfl rfl rfl rfl (by repeat (first | exact rS | refine rN (by assumption) ?_)) (n := 3) rfl rfl (by kernel_rfl) (RC_one _) ?_
  simp only [Act.put, nA, nB, nC]
  refine Seq.store rfl rfl rfl rfl rfl (by repeat (first | exact rS | refine rN (by assumption) ?_)) (n := 3) rfl rfl (by kernel_rfl) (RC_one _) ?_
  simp only [Act.put, nA, nB, nC]
  refine Seq.done fun ws5 hws => ?_
  have HS5 := hws.list2 (p := bk8) (q := bk9) (by repeat (first | exact rS | refine rN (by assumption) ?_)) (by repeat (first | exact rS | refine rN (by assumption) ?_)) (by assumption)
  clear HS4 hws
  go_upto_region 7 with (fail)
  refine wp_seq_text [] (StR.no HS5) ?_
  refine Seq.pure rfl rfl (by intro w; go_simp; try rfl) ?_
  simp only [Act.put, nA, nB, nC]
  refine Seq.loadAt rfl rfl rfl rfl (by repeat (first | exact mC | apply mT)) (n := 6) (cs' := VC p1 p2) (Nat.le_of_ble_eq_true rfl) (by kernel_rfl) rfl ?_
  simp only [Act.put, nA, nB, nC]
  refine Seq.pure rfl rfl (by intro w; go_simp; try rfl) ?_
  simp only [Act.put, nA, nB, nC]
  refine Seq.loadAt rfl rfl rfl rfl (by repeat (first | exact mC | apply mT)) (n := 6) (cs' := VC p3 p4) (Nat.le_of_ble_eq_true rfl) (by kernel_rfl) rfl ?_
  simp only [Act.put, nA, nB, nC]
  refine Seq.load rfl rfl rfl rfl (by repeat (first | exact mC | apply mT)) (n := 3) rfl (by kernel_rfl) ?_
  simp only [Act.put, nA, nB, nC]
  refine Seq.load rfl rfl rfl rfl (by repeat (first | exact mC | apply mT)) (n := 3) rfl (by kernel_rfl) ?_
  simp only [Act.put, nA, nB, nC]
  refine Seq.call rfl rfl rfl rfl (by kernel_rfl) (rotated_q (k := (8 * k + 10)) HT.out (Z_p1.out.more (by omega)) (Z_p2.out.more (by omega)) (Z_p3.out.more (by omega)) (Z_p4.out.more (by omega)) (Z_c.out.more (by omega)) (Z_s.out.more (by omega))  HX.out.1 HX.out.2.1 HX.out.2.2.1 HX.out.2.2.2 (by omega) (by omega)) ?_
  simp only [Act.put, nA, nB, nC]
  refine Seq.pure rfl rfl (by intro w; go_simp; try rfl) ?_
  simp only [Act.put, nA, nB, nC]
  refine Seq.pure (v := .agg (VC x0 x1)) rfl rfl (fun w => rfl) ?_
  simp only [Act.put, nA, nB, nC]
  refine Seq.pure (v := .agg (VC y0 y1)) rfl rfl (fun w => rfl) ?_
  simp only [Act.put, nA, nB, nC]
  refine Seq.alloc rfl rfl rfl (z := .agg (SW rz0 rz0)) (by kernel_rfl) rfl ?_
  intro bk10 _ _ hbk10_r
  simp only [Act.put, nA, nB, nC]
  refine Seq.alloc rfl rfl rfl (z := .agg (SW rz0 rz0)) (by kernel_rfl) rfl ?_
  intro bk11 _ _ hbk11_r
  obtain ⟨ne_bk11_bk10, hbk11_r⟩ := Reg.ne_of_put hbk11_r
  have ne_bk10_bk11 := Ne.symm ne_bk11_bk10
  simp only [Act.put, nA, nB, nC]
  refine Seq.store rfl rfl rfl rfl rfl (by repeat (first | exact rS | refine rN (by assumption) ?_)) (n := 6) rfl rfl (by kernel_rfl) (VC_one _ _) ?_
  simp only [Act.put, nA, nB, nC]
  refine Seq.store rfl rfl rfl rfl rfl (by repeat (first | exact rS | refine rN (by assumption) ?_)) (n := 6) rfl rfl (by kernel_rfl) (VC_one _ _) ?_
  simp only [Act.put, nA, nB, nC]
  refine Seq.done fun ws6 hws => ?_
  have HS6 := hws.list2 (p := bk10) (q := bk11) (by repeat (first | exact rS | refine rN (by assumption) ?_)) (by repeat (first | exact rS | refine rN (by assumption) ?_)) (by assumption)
  clear HS5 hws
  go_upto_region 8 with (fail)
  have HPbk4 := HS6.f7
  refine wp_seq [] (by kernel_rfl) (by kernel_rfl) (Reg.fin.put Reg.fin_no _ _) (StR.move (StR.no HPbk4)) ?_
  refine Seq.load rfl rfl rfl rfl (by repeat (first | exact mC | apply mT)) (n := 6) rfl (by kernel_rfl) ?_
  simp only [Act.put, nA, nB, nC]
  iterate 2 (refine Seq.pure rfl rfl (by intro w; go_simp; try rfl) ?_; simp only [Act.put, nA, nB, nC])
  refine Seq.loadAt rfl rfl rfl rfl (by repeat (first | exact mC | apply mT)) (n := 3) (cs' := RT.c g1_t) (Nat.le_of_ble_eq_true rfl) (by kernel_rfl) rfl ?_
  simp only [Act.put, nA, nB, nC]
  iterate 2 (refine Seq.pure rfl rfl (by intro w; go_simp; try rfl) ?_; simp only [Act.put, nA, nB, nC])
  refine Seq.loadAt rfl rfl rfl rfl (by repeat (first | exact mC | apply mT)) (n := 3) (cs' := RT.c g1_t) (Nat.le_of_ble_eq_true rfl) (by kernel_rfl) rfl ?_
  simp only [Act.put, nA, nB, nC]
  refine Seq.pure (v := .agg (SW g1_t g1_t)) rfl rfl (fun w => bld_RSpan (x := g1_t) (y := g1_t) rfl rfl rfl w) ?_
  simp only [Act.put, nA, nB, nC]
  refine Seq.call rfl rfl rfl rfl (by kernel_rfl) (plus_w (k := (60 * k + 90)) (b1_t := g1_t) (b2_t := g1_t) HT.out (Z_x0.out.more (by omega)) (Z_x1.out.more (by omega)) (Z_g1.out.more (by omega)) (Z_g1.out.more (by omega))  rfl rfl (by omega) (by omega)) ?_
  simp only [Act.put, nA, nB, nC]
  refine Seq.load rfl rfl rfl rfl (by repeat (first | exact mC | apply mT)) (n := 6) rfl (by kernel_rfl) ?_
  simp only [Act.put, nA, nB, nC]
  iterate 2 (refine Seq.pure rfl rfl (by intro w; go_simp; try rfl) ?_; simp only [Act.put, nA, nB, nC])
  refine Seq.loadAt rfl rfl rfl rfl (by repeat (first | exact mC | apply mT)) (n := 3) (cs' := RT.c g2_t) (Nat.le_of_ble_eq_true rfl) (by kernel_rfl) rfl ?_
  simp only [Act.put, nA, nB, nC]
  iterate 2 (refine Seq.pure rfl rfl (by intro w; go_simp; try rfl) ?_; simp only [Act.put, nA, nB, nC])
  refine Seq.loadAt rfl rfl rfl rfl (by repeat (first | exact mC | apply mT)) (n := 3) (cs' := RT.c g2_t) (Nat.le_of_ble_eq_true rfl) (by kernel_rfl) rfl ?_
  simp only [Act.put, nA, nB, nC]
  refine Seq.pure (v := .agg (SW g2_t g2_t)) rfl rfl (fun w => bld_RSpan (x := g2_t) (y := g2_t) rfl rfl rfl w) ?_
  simp only [Act.put, nA, nB, nC]
  refine Seq.call rfl rfl rfl rfl (by kernel_rfl) (plus_w (k := (60 * k + 90)) (b1_t := g2_t) (b2_t := g2_t) HT.out (Z_y0.out.more (by omega)) (Z_y1.out.more (by omega)) (Z_g2.out.more (by omega)) (Z_g2.out.more (by omega))  rfl rfl (by omega) (by omega)) ?_
  simp only [Act.put, nA, nB, nC]
  refine Seq.load rfl rfl rfl rfl (by repeat (first | exact mC | apply mT)) (n := 6) rfl (by kernel_rfl) ?_
  simp only [Act.put, nA, nB, nC]
  refine Seq.pure (v := .agg (PW (rt (x0 + g1)) (rt (x1 + g1)) (rt (y0 + g2)) (rt (y1 + g2)) (rt (tuQ gt p5)) (rt (tuQ gt p6)))) rfl rfl (fun w => bld_RPose (x := (rt (x0 + g1))) (y := (rt (x1 + g1))) (z := (rt (y0 + g2))) (u := (rt (y1 + g2))) (v := (rt (tuQ gt p5))) (t := (rt (tuQ gt p6))) rfl rfl rfl rfl w) ?_
  simp only [Act.put, nA, nB, nC]
  refine Seq.store rfl rfl rfl rfl rfl (by repeat (first | exact rS | refine rN (by assumption) ?_)) (n := 18) rfl rfl (by kernel_rfl) (PW_one _ _ _ _ _ _) ?_
  simp only [Act.put, nA, nB, nC]
  refine Seq.pure rfl rfl (by intro w; go_simp; try rfl) ?_
  simp only [Act.put, nA, nB, nC]
  refine Seq.done fun ws7 hws => ?_
  have HS7 := hws.list1 (p := bk4) (by repeat (first | exact rS | refine rN (by assumption) ?_))
  clear HS6 hws HPbk4
  go_wp2_with fail
  exact ret_own2 rfl rfl rfl rfl HS7 (by repeat (first | exact mC | apply mT)) (n := 18) rfl (by kernel_rfl) ⟨HR.out, HS7.below⟩
end Go.Proofs.YtoejojfjiikogaaDoor
