/- carry.Grip, Put. -/
import Derived.Test.YtoejojfjiikogaaDoorCaB
import Derived.LoopN

namespace Go.Proofs.YtoejojfjiikogaaDoor
open Go.RowKit
set_option linter.unusedVariables false
set_option linter.unusedSimpArgs false

set_option maxHeartbeats 2000000 in
set_option maxRecDepth 20000 in
theorem grip_half {k : Nat} {pxl pxh : Rat} {pxg : Bool} {px1 px2 : RT} {pyl pyh : Rat} {pyg : Bool} {py1 py2 : RT} {ptl pth : Rat} {ptg : Bool} {pt1 pt2 : RT} {g1 : Rat} {g1_g : Bool} {g1_t : RT} {g2 : Rat} {g2_g : Bool} {g2_t : RT} {gh : Bool} {gt : Rat} {gt_g : Bool} {gt_t : RT} {W : World} {l : List Own} (hT : Tab W) (Zpx : RawS k pxl pxh pxg px1 px2) (Zpy : RawS k pyl pyh pyg py1 py2) (Zpt : RawS k ptl pth ptg pt1 pt2) (Zg1 : RawT k g1 g1_g g1_t) (Zg2 : RawT k g2 g2_g g2_t) (Zgt : RawT k gt gt_g gt_t) (hgh : gh = true) (hk0 : 2 ≤ k) (hk : k ≤ 1000000000000) (w : World) (h : St W l w) :
    Calls Tryd.prog 40 #[.agg (PW px1 px2 py1 py2 pt1 pt2), .agg (FW g1_t g2_t gh gt_t)] w fun e w' => e = .returned (.tuple #[.agg (PW rz0 rz0 rz0 rz0 rz0 rz0), .int .i64 3]) ∧ Below w.heap.size w w' := by
  have HT := Lib.hid (tabS hT h); clear hT h
  have Z_px := Lib.hid Zpx; clear Zpx
  have Z_py := Lib.hid Zpy; clear Zpy
  have Z_pt := Lib.hid Zpt; clear Zpt
  have Z_g1 := Lib.hid Zg1; clear Zg1
  have Z_g2 := Lib.hid Zg2; clear Zg2
  have Z_gt := Lib.hid Zgt; clear Zgt
  subst hgh
  go_enter Tryd.func40, Tryd.ntmps40
  have HS : St w [] w := St.start
  go_upto_region 0 with (fail)
  refine wp_seq_text [] (StR.no HS) ?_
  refine Seq.box rfl rfl rfl (v := .agg (PW px1 px2 py1 py2 pt1 pt2)) (cs := PW px1 px2 py1 py2 pt1 pt2) rfl rfl ?_
  intro bk2 _ _ hbk2_r
  simp only [Act.put, nA, nB, nC]
  refine Seq.box rfl rfl rfl (v := .agg (FW g1_t g2_t true gt_t)) (cs := FW g1_t g2_t true gt_t) rfl rfl ?_
  intro bk3 _ _ hbk3_r
  obtain ⟨ne_bk3_bk2, hbk3_r⟩ := Reg.ne_of_put hbk3_r
  have ne_bk2_bk3 := Ne.symm ne_bk3_bk2
  simp only [Act.put, nA, nB, nC]
  refine Seq.alloc rfl rfl rfl (z := .agg (PW rz0 rz0 rz0 rz0 rz0 rz0)) (by kernel_rfl) rfl ?_
  intro bk4 _ _ hbk4_r
  obtain ⟨ne_bk4_bk3, hbk4_r⟩ := Reg.ne_of_put hbk4_r
  have ne_bk3_bk4 := Ne.symm ne_bk4_bk3
  obtain ⟨ne_bk4_bk2, hbk4_r⟩ := Reg.ne_of_put hbk4_r
  have ne_bk2_bk4 := Ne.symm ne_bk4_bk2
  simp only [Act.put, nA, nB, nC]
  refine Seq.pure rfl rfl (by intro w; go_simp; try rfl) ?_
  simp only [Act.put, nA, nB, nC]
  refine Seq.done fun ws1 hws => ?_
  have HS1 := hws.list3 (p := bk2) (q := bk3) (r := bk4) (by repeat (first | exact rS | refine rN (by assumption) ?_)) (by repeat (first | exact rS | refine rN (by assumption) ?_)) (by repeat (first | exact rS | refine rN (by assumption) ?_)) (by assumption) (by assumption) (by assumption)
  clear HS hws
  go_upto_region 1 with (fail)
  refine wp_seq_text [] (StR.no HS1) ?_
  iterate 2 (refine Seq.pure rfl rfl (by intro w; go_simp; try rfl) ?_; simp only [Act.put, nA, nB, nC])
  refine Seq.loadCell rfl rfl rfl rfl (by repeat (first | exact mC | apply mT)) (v := .bool true) rfl (by kernel_rfl) rfl ?_
  simp only [Act.put, nA, nB, nC]
  refine Seq.done fun ws2 hws => ?_
  have HS2 := hws.st
  clear HS1 hws
  go_upto_region 2 with (fail)
  have HPbk4 := HS2.f2
  refine wp_seq_text [] (StR.move (StR.no HPbk4)) ?_
  refine Seq.pure (v := .agg (PW rz0 rz0 rz0 rz0 rz0 rz0)) rfl rfl (by intro w; go_simp; try rfl) ?_
  simp only [Act.put, nA, nB, nC]
  refine Seq.store rfl rfl rfl rfl rfl (by repeat (first | exact rS | refine rN (by assumption) ?_)) (n := 18) rfl rfl (by kernel_rfl) (PW_one _ _ _ _ _ _) ?_
  simp only [Act.put, nA, nB, nC]
  refine Seq.pure rfl rfl (by intro w; go_simp; try rfl) ?_
  simp only [Act.put, nA, nB, nC]
  refine Seq.done fun ws3 hws => ?_
  have HS3 := hws.list1 (p := bk4) (by repeat (first | exact rS | refine rN (by assumption) ?_))
  clear HS2 hws HPbk4
  go_wp2_with fail
  exact ret_own2 rfl rfl rfl rfl HS3 (by repeat (first | exact mC | apply mT)) (n := 18) rfl (by kernel_rfl) ⟨rfl, HS3.below⟩
set_option maxHeartbeats 2000000 in
set_option maxRecDepth 20000 in
theorem grip_no {k : Nat} {pxl pxh : Rat} {pxg : Bool} {px1 px2 : RT} {pyl pyh : Rat} {pyg : Bool} {py1 py2 : RT} {ptl pth : Rat} {ptg : Bool} {pt1 pt2 : RT} {g1 : Rat} {g1_g : Bool} {g1_t : RT} {g2 : Rat} {g2_g : Bool} {g2_t : RT} {gh : Bool} {gt : Rat} {gt_g : Bool} {gt_t : RT} {W : World} {l : List Own} (hT : Tab W) (Zpx : RawS k pxl pxh pxg px1 px2) (Zpy : RawS k pyl pyh pyg py1 py2) (Zpt : RawS k ptl pth ptg pt1 pt2) (Zg1 : RawT k g1 g1_g g1_t) (Zg2 : RawT k g2 g2_g g2_t) (Zgt : RawT k gt gt_g gt_t) (hgh : gh = false) (hok : tOk (-gt) ptl pth = false) (hk0 : 2 ≤ k) (hk : k ≤ 999999999994) (w : World) (h : St W l w) :
    Calls Tryd.prog 40 #[.agg (PW px1 px2 py1 py2 pt1 pt2), .agg (FW g1_t g2_t gh gt_t)] w fun e w' => e = .returned (.tuple #[.agg (PW rz0 rz0 rz0 rz0 rz0 rz0), .int .i64 18]) ∧ Below w.heap.size w w' := by
  have HT := Lib.hid (tabS hT h); clear hT h
  have Z_px := Lib.hid Zpx; clear Zpx
  have Z_py := Lib.hid Zpy; clear Zpy
  have Z_pt := Lib.hid Zpt; clear Zpt
  have Z_g1 := Lib.hid Zg1; clear Zg1
  have Z_g2 := Lib.hid Zg2; clear Zg2
  have Z_gt := Lib.hid Zgt; clear Zgt
  subst hgh
  have hok := Lib.hid hok
  go_enter Tryd.func40, Tryd.ntmps40
  have HS : St w [] w := St.start
  go_upto_region 0 with (fail)
  refine wp_seq_text [] (StR.no HS) ?_
  refine Seq.box rfl rfl rfl (v := .agg (PW px1 px2 py1 py2 pt1 pt2)) (cs := PW px1 px2 py1 py2 pt1 pt2) rfl rfl ?_
  intro bk2 _ _ hbk2_r
  simp only [Act.put, nA, nB, nC]
  refine Seq.box rfl rfl rfl (v := .agg (FW g1_t g2_t false gt_t)) (cs := FW g1_t g2_t false gt_t) rfl rfl ?_
  intro bk3 _ _ hbk3_r
  obtain ⟨ne_bk3_bk2, hbk3_r⟩ := Reg.ne_of_put hbk3_r
  have ne_bk2_bk3 := Ne.symm ne_bk3_bk2
  simp only [Act.put, nA, nB, nC]
  refine Seq.alloc rfl rfl rfl (z := .agg (PW rz0 rz0 rz0 rz0 rz0 rz0)) (by kernel_rfl) rfl ?_
  intro bk4 _ _ hbk4_r
  obtain ⟨ne_bk4_bk3, hbk4_r⟩ := Reg.ne_of_put hbk4_r
  have ne_bk3_bk4 := Ne.symm ne_bk4_bk3
  obtain ⟨ne_bk4_bk2, hbk4_r⟩ := Reg.ne_of_put hbk4_r
  have ne_bk2_bk4 := Ne.symm ne_bk4_bk2
  simp only [Act.put, nA, nB, nC]
  refine Seq.pure rfl rfl (by intro w; go_simp; try rfl) ?_
  simp only [Act.put, nA, nB, nC]
  refine Seq.done fun ws1 hws => ?_
  have HS1 := hws.list3 (p := bk2) (q := bk3) (r := bk4) (by repeat (first | exact rS | refine rN (by assumption) ?_)) (by repeat (first | exact rS | refine rN (by assumption) ?_)) (by repeat (first | exact rS | refine rN (by assumption) ?_)) (by assumption) (by assumption) (by assumption)
  clear HS hws
  go_upto_region 1 with (fail)
  refine wp_seq_text [] (StR.no HS1) ?_
  iterate 2 (refine Seq.pure rfl rfl (by intro w; go_simp; try rfl) ?_; simp only [Act.put, nA, nB, nC])
  refine Seq.loadCell rfl rfl rfl rfl (by repeat (first | exact mC | apply mT)) (v := .bool false) rfl (by kernel_rfl) rfl ?_
  simp only [Act.put, nA, nB, nC]
  refine Seq.done fun ws2 hws => ?_
  have HS2 := hws.st
  clear HS1 hws
  go_upto_region 3 with (fail)
  refine wp_seq [] (by kernel_rfl) (by kernel_rfl) Reg.fin_no (StR.no HS2) ?_
  refine Seq.pure rfl rfl (by intro w; go_simp; try rfl) ?_
  simp only [Act.put, nA, nB, nC]
  refine Seq.loadAt rfl rfl rfl rfl (by repeat (first | exact mC | apply mT)) (n := 6) (cs' := SW pt1 pt2) (Nat.le_of_ble_eq_true rfl) (by kernel_rfl) rfl ?_
  simp only [Act.put, nA, nB, nC]
  iterate 2 (refine Seq.pure rfl rfl (by intro w; go_simp; try rfl) ?_; simp only [Act.put, nA, nB, nC])
  refine Seq.loadAt rfl rfl rfl rfl (by repeat (first | exact mC | apply mT)) (n := 3) (cs' := RT.c gt_t) (Nat.le_of_ble_eq_true rfl) (by kernel_rfl) rfl ?_
  simp only [Act.put, nA, nB, nC]
  refine Seq.call rfl rfl rfl rfl (by kernel_rfl) (neg_w (k := (1 * k + 2)) HT.out (Z_gt.out.more (by omega)) rfl (by omega)) ?_
  simp only [Act.put, nA, nB, nC]
  refine Seq.call rfl rfl rfl rfl (by kernel_rfl) (turned_no (k := (1 * k + 2)) (s1 := pt1) (s2 := pt2) (a_t := (rt (-gt))) HT.out (Z_pt.out.more (by omega)) (RawT.rc (Z_gt.out.rz.neg.more (by omega))) hok.out  (by omega) (by omega)) ?_
  simp only [Act.put, nA, nB, nC]
  refine Seq.pure rfl rfl (by intro w; go_simp; try rfl) ?_
  simp only [Act.put, nA, nB, nC]
  refine Seq.pure (v := .agg (SW rz0 rz0)) rfl rfl (fun w => rfl) ?_
  simp only [Act.put, nA, nB, nC]
  refine Seq.pure (v := .int .i64 18) rfl rfl (fun w => rfl) ?_
  simp only [Act.put, nA, nB, nC]
  refine Seq.alloc rfl rfl rfl (z := .agg (SW rz0 rz0)) (by kernel_rfl) rfl ?_
  intro bk6 _ _ hbk6_r
  simp only [Act.put, nA, nB, nC]
  refine Seq.store rfl rfl rfl rfl rfl (by repeat (first | exact rS | refine rN (by assumption) ?_)) (n := 6) rfl rfl (by kernel_rfl) (SW_one _ _) ?_
  simp only [Act.put, nA, nB, nC]
  refine Seq.pure rfl rfl (by intro w; go_simp; try rfl) ?_
  simp only [Act.put, nA, nB, nC]
  refine Seq.done fun ws3 hws => ?_
  have HS3 := hws.list1 (p := bk6) (by repeat (first | exact rS | refine rN (by assumption) ?_))
  clear HS2 hws
  go_upto_region 4 with (fail)
  refine wp_seq_text [] (StR.no HS3) ?_
  iterate 2 (refine Seq.pure rfl rfl (by intro w; go_simp; try rfl) ?_; simp only [Act.put, nA, nB, nC])
  refine Seq.done fun ws4 hws => ?_
  have HS4 := hws.st
  clear HS3 hws
  go_upto_region 5 with (fail)
  have HPbk4 := HS4.f3
  refine wp_seq_text [] (StR.move (StR.no HPbk4)) ?_
  refine Seq.pure (v := .agg (PW rz0 rz0 rz0 rz0 rz0 rz0)) rfl rfl (by intro w; go_simp; try rfl) ?_
  simp only [Act.put, nA, nB, nC]
  refine Seq.pure rfl rfl (by intro w; go_simp; try rfl) ?_
  simp only [Act.put, nA, nB, nC]
  refine Seq.store rfl rfl rfl rfl rfl (by repeat (first | exact rS | refine rN (by assumption) ?_)) (n := 18) rfl rfl (by kernel_rfl) (PW_one _ _ _ _ _ _) ?_
  simp only [Act.put, nA, nB, nC]
  refine Seq.pure rfl rfl (by intro w; go_simp; try rfl) ?_
  simp only [Act.put, nA, nB, nC]
  refine Seq.done fun ws5 hws => ?_
  have HS5 := hws.list1 (p := bk4) (by repeat (first | exact rS | refine rN (by assumption) ?_))
  clear HS4 hws HPbk4
  go_wp2_with fail
  exact ret_own2 rfl rfl rfl rfl HS5 (by repeat (first | exact mC | apply mT)) (n := 18) rfl (by kernel_rfl) ⟨rfl, HS5.below⟩
set_option maxHeartbeats 2000000 in
set_option maxRecDepth 20000 in
theorem grip_ok {k : Nat} {pxl pxh : Rat} {pxg : Bool} {px1 px2 : RT} {pyl pyh : Rat} {pyg : Bool} {py1 py2 : RT} {ptl pth : Rat} {ptg : Bool} {pt1 pt2 : RT} {g1 : Rat} {g1_g : Bool} {g1_t : RT} {g2 : Rat} {g2_g : Bool} {g2_t : RT} {gh : Bool} {gt : Rat} {gt_g : Bool} {gt_t : RT} {z0 : Rat} {z1 : Rat} {z2 : Rat} {z3 : Rat} {z4 : Rat} {z5 : Rat} {W : World} {l : List Own} (hT : Tab W) (Zpx : RawS k pxl pxh pxg px1 px2) (Zpy : RawS k pyl pyh pyg py1 py2) (Zpt : RawS k ptl pth ptg pt1 pt2) (Zg1 : RawT k g1 g1_g g1_t) (Zg2 : RawT k g2 g2_g g2_t) (Zgt : RawT k gt gt_g gt_t) (hgh : gh = false) (hok : tOk (-gt) ptl pth = true) (hz0 : gX0 pxl pxh pyl pyh g1 g2 gt = z0) (hz1 : gX1 pxl pxh pyl pyh g1 g2 gt = z1) (hz2 : gY0 pxl pxh pyl pyh g1 g2 gt = z2) (hz3 : gY1 pxl pxh pyl pyh g1 g2 gt = z3) (hz4 : tuQ (-gt) ptl = z4) (hz5 : tuQ (-gt) pth = z5) (hk0 : 2 ≤ k) (hk : k ≤ 15624999999) (w : World) (h : St W l w) :
    Calls Tryd.prog 40 #[.agg (PW px1 px2 py1 py2 pt1 pt2), .agg (FW g1_t g2_t gh gt_t)] w fun e w' => e = .returned (.tuple #[.agg (PW (rt z0) (rt z1) (rt z2) (rt z3) (rt z4) (rt z5)), .int .i64 0]) ∧ Below w.heap.size w w' := by
  subst hz0
  subst hz1
  subst hz2
  subst hz3
  subst hz4
  subst hz5
  have HT := Lib.hid (tabS hT h); clear hT h
  have Z_px := Lib.hid Zpx; clear Zpx
  have Z_py := Lib.hid Zpy; clear Zpy
  have Z_pt := Lib.hid Zpt; clear Zpt
  have Z_g1 := Lib.hid Zg1; clear Zg1
  have Z_g2 := Lib.hid Zg2; clear Zg2
  have Z_gt := Lib.hid Zgt; clear Zgt
  subst hgh
  have hok := Lib.hid hok
  obtain ⟨x0, hx0⟩ : ∃ z, rX0 (cosT false (-gt)) (sinT (-gt)) (pxl - g1) (pxh - g1) (pyl - g2) (pyh - g2) = z := ⟨_, rfl⟩
  obtain ⟨x1, hx1⟩ : ∃ z, rX1 (cosT false (-gt)) (sinT (-gt)) (pxl - g1) (pxh - g1) (pyl - g2) (pyh - g2) = z := ⟨_, rfl⟩
  obtain ⟨y0, hy0⟩ : ∃ z, rY0 (cosT false (-gt)) (sinT (-gt)) (pxl - g1) (pxh - g1) (pyl - g2) (pyh - g2) = z := ⟨_, rfl⟩
  obtain ⟨y1, hy1⟩ : ∃ z, rY1 (cosT false (-gt)) (sinT (-gt)) (pxl - g1) (pxh - g1) (pyl - g2) (pyh - g2) = z := ⟨_, rfl⟩
  have HX := Lib.hid (show rX0 (cosT false (-gt)) (sinT (-gt)) (pxl - g1) (pxh - g1) (pyl - g2) (pyh - g2) = x0 ∧ rX1 (cosT false (-gt)) (sinT (-gt)) (pxl - g1) (pxh - g1) (pyl - g2) (pyh - g2) = x1 ∧ rY0 (cosT false (-gt)) (sinT (-gt)) (pxl - g1) (pxh - g1) (pyl - g2) (pyh - g2) = y0 ∧ rY1 (cosT false (-gt)) (sinT (-gt)) (pxl - g1) (pxh - g1) (pyl - g2) (pyh - g2) = y1 from ⟨hx0, hx1, hy0, hy1⟩)
  have HL := Lib.hid (show x0 ≤ x1 ∧ y0 ≤ y1 from by rw [← hx0, ← hx1, ← hy0, ← hy1]; exact r_le _ _ _ _ _ _)
  have HZ4 := r_rz (kc := 8 * k + 10) (kx := 4 * k + 1) (Rz.cosT false Z_gt.out.rz.neg) (Rz.sinT Z_gt.out.rz.neg) (((Z_px.out.rz (by omega)).1.sub Z_g1.out.rz).more (by omega)) (((Z_px.out.rz (by omega)).2.sub Z_g1.out.rz).more (by omega)) (((Z_py.out.rz (by omega)).1.sub Z_g2.out.rz).more (by omega)) (((Z_py.out.rz (by omega)).2.sub Z_g2.out.rz).more (by omega))
  have Z_x0 := Lib.hid (show Rz (60 * k + 90) x0 from (hx0 ▸ HZ4.1).more (by omega))
  have Z_x1 := Lib.hid (show Rz (60 * k + 90) x1 from (hx1 ▸ HZ4.2.1).more (by omega))
  have Z_y0 := Lib.hid (show Rz (60 * k + 90) y0 from (hy0 ▸ HZ4.2.2.1).more (by omega))
  have Z_y1 := Lib.hid (show Rz (60 * k + 90) y1 from (hy1 ▸ HZ4.2.2.2).more (by omega))
  clear HZ4
  have HR := Lib.hid (show Ending.returned (.tuple #[.agg (PW (rt x0) (rt x1) (rt y0) (rt y1) (rt (tuQ (-gt) ptl)) (rt (tuQ (-gt) pth))), .int .i64 0]) = .returned (.tuple #[.agg (PW (rt (gX0 pxl pxh pyl pyh g1 g2 gt)) (rt (gX1 pxl pxh pyl pyh g1 g2 gt)) (rt (gY0 pxl pxh pyl pyh g1 g2 gt)) (rt (gY1 pxl pxh pyl pyh g1 g2 gt)) (rt (tuQ (-gt) ptl)) (rt (tuQ (-gt) pth))), .int .i64 0]) from by rw [← hx0, ← hx1, ← hy0, ← hy1]; unfold gX0 gX1 gY0 gY1; rw [cosT_neg, sin_negQ])
  clear hx0 hx1 hy0 hy1
  go_enter Tryd.func40, Tryd.ntmps40
  have HS : St w [] w := St.start
  go_upto_region 0 with (fail)
  refine wp_seq_text [] (StR.no HS) ?_
  refine Seq.box rfl rfl rfl (v := .agg (PW px1 px2 py1 py2 pt1 pt2)) (cs := PW px1 px2 py1 py2 pt1 pt2) rfl rfl ?_
  intro bk2 _ _ hbk2_r
  simp only [Act.put, nA, nB, nC]
  refine Seq.box rfl rfl rfl (v := .agg (FW g1_t g2_t false gt_t)) (cs := FW g1_t g2_t false gt_t) rfl rfl ?_
  intro bk3 _ _ hbk3_r
  obtain ⟨ne_bk3_bk2, hbk3_r⟩ := Reg.ne_of_put hbk3_r
  have ne_bk2_bk3 := Ne.symm ne_bk3_bk2
  simp only [Act.put, nA, nB, nC]
  refine Seq.alloc rfl rfl rfl (z := .agg (PW rz0 rz0 rz0 rz0 rz0 rz0)) (by kernel_rfl) rfl ?_
  intro bk4 _ _ hbk4_r
  obtain ⟨ne_bk4_bk3, hbk4_r⟩ := Reg.ne_of_put hbk4_r
  have ne_bk3_bk4 := Ne.symm ne_bk4_bk3
  obtain ⟨ne_bk4_bk2, hbk4_r⟩ := Reg.ne_of_put hbk4_r
  have ne_bk2_bk4 := Ne.symm ne_bk4_bk2
  simp only [Act.put, nA, nB, nC]
  refine Seq.pure rfl rfl (by intro w; go_simp; try rfl) ?_
  simp only [Act.put, nA, nB, nC]
  refine Seq.done fun ws1 hws => ?_
  have HS1 := hws.list3 (p := bk2) (q := bk3) (r := bk4) (by repeat (first | exact rS | refine rN (by assumption) ?_)) (by repeat (first | exact rS | refine rN (by assumption) ?_)) (by repeat (first | exact rS | refine rN (by assumption) ?_)) (by assumption) (by assumption) (by assumption)
  clear HS hws
  go_upto_region 1 with (fail)
  refine wp_seq_text [] (StR.no HS1) ?_
  iterate 2 (refine Seq.pure rfl rfl (by intro w; go_simp; try rfl) ?_; simp only [Act.put, nA, nB, nC])
  refine Seq.loadCell rfl rfl rfl rfl (by repeat (first | exact mC | apply mT)) (v := .bool false) rfl (by kernel_rfl) rfl ?_
  simp only [Act.put, nA, nB, nC]
  refine Seq.done fun ws2 hws => ?_
  have HS2 := hws.st
  clear HS1 hws
  go_upto_region 3 with (fail)
  refine wp_seq [] (by kernel_rfl) (by kernel_rfl) Reg.fin_no (StR.no HS2) ?_
  refine Seq.pure rfl rfl (by intro w; go_simp; try rfl) ?_
  simp only [Act.put, nA, nB, nC]
  refine Seq.loadAt rfl rfl rfl rfl (by repeat (first | exact mC | apply mT)) (n := 6) (cs' := SW pt1 pt2) (Nat.le_of_ble_eq_true rfl) (by kernel_rfl) rfl ?_
  simp only [Act.put, nA, nB, nC]
  iterate 2 (refine Seq.pure rfl rfl (by intro w; go_simp; try rfl) ?_; simp only [Act.put, nA, nB, nC])
  refine Seq.loadAt rfl rfl rfl rfl (by repeat (first | exact mC | apply mT)) (n := 3) (cs' := RT.c gt_t) (Nat.le_of_ble_eq_true rfl) (by kernel_rfl) rfl ?_
  simp only [Act.put, nA, nB, nC]
  refine Seq.call rfl rfl rfl rfl (by kernel_rfl) (neg_w (k := (1 * k + 2)) HT.out (Z_gt.out.more (by omega)) rfl (by omega)) ?_
  simp only [Act.put, nA, nB, nC]
  refine Seq.call rfl rfl rfl rfl (by kernel_rfl) (turned_ok (k := (1 * k + 2)) (s1 := pt1) (s2 := pt2) (a_t := (rt (-gt))) HT.out (Z_pt.out.more (by omega)) (RawT.rc (Z_gt.out.rz.neg.more (by omega))) hok.out rfl rfl (by omega) (by omega)) ?_
  simp only [Act.put, nA, nB, nC]
  refine Seq.pure rfl rfl (by intro w; go_simp; try rfl) ?_
  simp only [Act.put, nA, nB, nC]
  refine Seq.pure (v := .agg (VC (tuQ (-gt) ptl) (tuQ (-gt) pth))) rfl rfl (fun w => rfl) ?_
  simp only [Act.put, nA, nB, nC]
  refine Seq.pure (v := .int .i64 0) rfl rfl (fun w => rfl) ?_
  simp only [Act.put, nA, nB, nC]
  refine Seq.alloc rfl rfl rfl (z := .agg (SW rz0 rz0)) (by kernel_rfl) rfl ?_
  intro bk6 _ _ hbk6_r
  simp only [Act.put, nA, nB, nC]
  refine Seq.store rfl rfl rfl rfl rfl (by repeat (first | exact rS | refine rN (by assumption) ?_)) (n := 6) rfl rfl (by kernel_rfl) (VC_one _ _) ?_
  simp only [Act.put, nA, nB, nC]
  refine Seq.pure rfl rfl (by intro w; go_simp; try rfl) ?_
  simp only [Act.put, nA, nB, nC]
  refine Seq.done fun ws3 hws => ?_
  have HS3 := hws.list1 (p := bk6) (by repeat (first | exact rS | refine rN (by assumption) ?_))
  clear HS2 hws
  go_upto_region 4 with (fail)
  refine wp_seq_text [] (StR.no HS3) ?_
  iterate 2 (refine Seq.pure rfl rfl (by intro w; go_simp; try rfl) ?_; simp only [Act.put, nA, nB, nC])
  refine Seq.done fun ws4 hws => ?_
  have HS4 := hws.st
  clear HS3 hws
  go_upto_region 6 with (fail)
  refine wp_seq [] (by kernel_rfl) (by kernel_rfl) Reg.fin_no (StR.no HS4) ?_
  refine Seq.pure rfl rfl (by intro w; go_simp; try rfl) ?_
  simp only [Act.put, nA, nB, nC]
  refine Seq.loadAt rfl rfl rfl rfl (by repeat (first | exact mC | apply mT)) (n := 6) (cs' := SW px1 px2) (Nat.le_of_ble_eq_true rfl) (by kernel_rfl) rfl ?_
  simp only [Act.put, nA, nB, nC]
  iterate 2 (refine Seq.pure rfl rfl (by intro w; go_simp; try rfl) ?_; simp only [Act.put, nA, nB, nC])
  refine Seq.loadAt rfl rfl rfl rfl (by repeat (first | exact mC | apply mT)) (n := 3) (cs' := RT.c g1_t) (Nat.le_of_ble_eq_true rfl) (by kernel_rfl) rfl ?_
  simp only [Act.put, nA, nB, nC]
  refine Seq.call rfl rfl rfl rfl (by kernel_rfl) (sof_w (k := (1 * k + 2)) (t_t := g1_t) HT.out (Z_g1.out.more (by omega))  rfl rfl (by omega) (by omega)) ?_
  simp only [Act.put, nA, nB, nC]
  refine Seq.call rfl rfl rfl rfl (by kernel_rfl) (ssub_w (k := (1 * k + 2)) (a1 := px1) (a2 := px2) (b1 := (rt g1)) (b2 := (rt g1)) HT.out (Z_px.out.more (by omega)) (RawS.of Rat.le_refl (Z_g1.out.rz.more (by omega)) (Z_g1.out.rz.more (by omega)))  rfl rfl (by omega) (by omega)) ?_
  simp only [Act.put, nA, nB, nC]
  refine Seq.pure rfl rfl (by intro w; go_simp; try rfl) ?_
  simp only [Act.put, nA, nB, nC]
  refine Seq.loadAt rfl rfl rfl rfl (by repeat (first | exact mC | apply mT)) (n := 6) (cs' := SW py1 py2) (Nat.le_of_ble_eq_true rfl) (by kernel_rfl) rfl ?_
  simp only [Act.put, nA, nB, nC]
  iterate 2 (refine Seq.pure rfl rfl (by intro w; go_simp; try rfl) ?_; simp only [Act.put, nA, nB, nC])
  refine Seq.loadAt rfl rfl rfl rfl (by repeat (first | exact mC | apply mT)) (n := 3) (cs' := RT.c g2_t) (Nat.le_of_ble_eq_true rfl) (by kernel_rfl) rfl ?_
  simp only [Act.put, nA, nB, nC]
  refine Seq.call rfl rfl rfl rfl (by kernel_rfl) (sof_w (k := (1 * k + 2)) (t_t := g2_t) HT.out (Z_g2.out.more (by omega))  rfl rfl (by omega) (by omega)) ?_
  simp only [Act.put, nA, nB, nC]
  refine Seq.call rfl rfl rfl rfl (by kernel_rfl) (ssub_w (k := (1 * k + 2)) (a1 := py1) (a2 := py2) (b1 := (rt g2)) (b2 := (rt g2)) HT.out (Z_py.out.more (by omega)) (RawS.of Rat.le_refl (Z_g2.out.rz.more (by omega)) (Z_g2.out.rz.more (by omega)))  rfl rfl (by omega) (by omega)) ?_
  simp only [Act.put, nA, nB, nC]
  refine Seq.pure rfl rfl (by intro w; go_simp; try rfl) ?_
  simp only [Act.put, nA, nB, nC]
  refine Seq.loadAt rfl rfl rfl rfl (by repeat (first | exact mC | apply mT)) (n := 4) (cs' := UW false gt_t) (Nat.le_of_ble_eq_true rfl) (by kernel_rfl) rfl ?_
  simp only [Act.put, nA, nB, nC]
  refine Seq.call rfl rfl rfl rfl (by kernel_rfl) (tback_w (k := (1 * k + 2)) (t_t := gt_t) HT.out (Z_gt.out.more (by omega))  rfl (by omega) (by omega)) ?_
  simp only [Act.put, nA, nB, nC]
  refine Seq.call rfl rfl rfl rfl (by kernel_rfl) (rotate_w (k := (4 * k + 2)) (x1 := (rt (pxl - g1))) (x2 := (rt (pxh - g1))) (y1 := (rt (pyl - g2))) (y2 := (rt (pyh - g2))) (t_t := (rt (-gt))) HT.out (RawS.of (sub_le2 Z_px.out.le Rat.le_refl) (((Z_px.out.rz (by omega)).1.sub Z_g1.out.rz).more (by omega)) (((Z_px.out.rz (by omega)).2.sub Z_g1.out.rz).more (by omega))) (RawS.of (sub_le2 Z_py.out.le Rat.le_refl) (((Z_py.out.rz (by omega)).1.sub Z_g2.out.rz).more (by omega)) (((Z_py.out.rz (by omega)).2.sub Z_g2.out.rz).more (by omega))) (RawT.rc (Z_gt.out.rz.neg.more (by omega)))  HX.out.1 HX.out.2.1 HX.out.2.2.1 HX.out.2.2.2 (by omega) (by omega)) ?_
  simp only [Act.put, nA, nB, nC]
  refine Seq.pure rfl rfl (by intro w; go_simp; try rfl) ?_
  simp only [Act.put, nA, nB, nC]
  refine Seq.pure (v := .agg (VC x0 x1)) rfl rfl (fun w => rfl) ?_
  simp only [Act.put, nA, nB, nC]
  refine Seq.pure (v := .agg (VC y0 y1)) rfl rfl (fun w => rfl) ?_
  simp only [Act.put, nA, nB, nC]
  refine Seq.alloc rfl rfl rfl (z := .agg (SW rz0 rz0)) (by kernel_rfl) rfl ?_
  intro bk8 _ _ hbk8_r
  simp only [Act.put, nA, nB, nC]
  refine Seq.alloc rfl rfl rfl (z := .agg (SW rz0 rz0)) (by kernel_rfl) rfl ?_
  intro bk9 _ _ hbk9_r
  obtain ⟨ne_bk9_bk8, hbk9_r⟩ := Reg.ne_of_put hbk9_r
  have ne_bk8_bk9 := Ne.symm ne_bk9_bk8
  simp only [Act.put, nA, nB, nC]
  refine Seq.store rfl rfl rfl rfl rfl (by repeat (first | exact rS | refine rN (by assumption) ?_)) (n := 6) rfl rfl (by kernel_rfl) (VC_one _ _) ?_
  simp only [Act.put, nA, nB, nC]
  refine Seq.store rfl rfl rfl rfl rfl (by repeat (first | exact rS | refine rN (by assumption) ?_)) (n := 6) rfl rfl (by kernel_rfl) (VC_one _ _) ?_
  simp only [Act.put, nA, nB, nC]
  refine Seq.done fun ws5 hws => ?_
  have HS5 := hws.list2 (p := bk8) (q := bk9) (by repeat (first | exact rS | refine rN (by assumption) ?_)) (by repeat (first | exact rS | refine rN (by assumption) ?_)) (by assumption)
  clear HS4 hws
  go_upto_region 7 with (fail)
  have HPbk4 := HS5.f5
  refine wp_seq_text [] (StR.move (StR.no HPbk4)) ?_
  refine Seq.load rfl rfl rfl rfl (by repeat (first | exact mC | apply mT)) (n := 6) rfl (by kernel_rfl) ?_
  simp only [Act.put, nA, nB, nC]
  refine Seq.load rfl rfl rfl rfl (by repeat (first | exact mC | apply mT)) (n := 6) rfl (by kernel_rfl) ?_
  simp only [Act.put, nA, nB, nC]
  refine Seq.load rfl rfl rfl rfl (by repeat (first | exact mC | apply mT)) (n := 6) rfl (by kernel_rfl) ?_
  simp only [Act.put, nA, nB, nC]
  refine Seq.pure (v := .agg (PW (rt x0) (rt x1) (rt y0) (rt y1) (rt (tuQ (-gt) ptl)) (rt (tuQ (-gt) pth)))) rfl rfl (fun w => bld_Pose (x := (rt x0)) (y := (rt x1)) (z := (rt y0)) (u := (rt y1)) (v := (rt (tuQ (-gt) ptl))) (t := (rt (tuQ (-gt) pth))) rfl rfl rfl rfl w) ?_
  simp only [Act.put, nA, nB, nC]
  refine Seq.store rfl rfl rfl rfl rfl (by repeat (first | exact rS | refine rN (by assumption) ?_)) (n := 18) rfl rfl (by kernel_rfl) (PW_one _ _ _ _ _ _) ?_
  simp only [Act.put, nA, nB, nC]
  refine Seq.pure rfl rfl (by intro w; go_simp; try rfl) ?_
  simp only [Act.put, nA, nB, nC]
  refine Seq.done fun ws6 hws => ?_
  have HS6 := hws.list1 (p := bk4) (by repeat (first | exact rS | refine rN (by assumption) ?_))
  clear HS5 hws HPbk4
  go_wp2_with fail
  exact ret_own2 rfl rfl rfl rfl HS6 (by repeat (first | exact mC | apply mT)) (n := 18) rfl (by kernel_rfl) ⟨HR.out, HS6.below⟩
set_option maxHeartbeats 2000000 in
set_option maxRecDepth 20000 in
theorem put_half {k : Nat} {pxl pxh : Rat} {pxg : Bool} {px1 px2 : RT} {pyl pyh : Rat} {pyg : Bool} {py1 py2 : RT} {ptl pth : Rat} {ptg : Bool} {pt1 pt2 : RT} {g1 : Rat} {g1_g : Bool} {g1_t : RT} {g2 : Rat} {g2_g : Bool} {g2_t : RT} {gh : Bool} {gt : Rat} {gt_g : Bool} {gt_t : RT} {W : World} {l : List Own} (hT : Tab W) (Zpx : RawS k pxl pxh pxg px1 px2) (Zpy : RawS k pyl pyh pyg py1 py2) (Zpt : RawS k ptl pth ptg pt1 pt2) (Zg1 : RawT k g1 g1_g g1_t) (Zg2 : RawT k g2 g2_g g2_t) (Zgt : RawT k gt gt_g gt_t) (hgh : gh = true) (hk0 : 2 ≤ k) (hk : k ≤ 1000000000000) (w : World) (h : St W l w) :
    Calls Tryd.prog 41 #[.agg (PW px1 px2 py1 py2 pt1 pt2), .agg (FW g1_t g2_t gh gt_t)] w fun e w' => e = .returned (.tuple #[.agg (PW rz0 rz0 rz0 rz0 rz0 rz0), .int .i64 3]) ∧ Below w.heap.size w w' := by
  have HT := Lib.hid (tabS hT h); clear hT h
  have Z_px := Lib.hid Zpx; clear Zpx
  have Z_py := Lib.hid Zpy; clear Zpy
  have Z_pt := Lib.hid Zpt; clear Zpt
  have Z_g1 := Lib.hid Zg1; clear Zg1
  have Z_g2 := Lib.hid Zg2; clear Zg2
  have Z_gt := Lib.hid Zgt; clear Zgt
  subst hgh
  go_enter Tryd.func41, Tryd.ntmps41
  have HS : St w [] w := St.start
  go_upto_region 0 with (fail)
  refine wp_seq_text [] (StR.no HS) ?_
  refine Seq.box rfl rfl rfl (v := .agg (PW px1 px2 py1 py2 pt1 pt2)) (cs := PW px1 px2 py1 py2 pt1 pt2) rfl rfl ?_
  intro bk2 _ _ hbk2_r
  simp only [Act.put, nA, nB, nC]
  refine Seq.box rfl rfl rfl (v := .agg (FW g1_t g2_t true gt_t)) (cs := FW g1_t g2_t true gt_t) rfl rfl ?_
  intro bk3 _ _ hbk3_r
  obtain ⟨ne_bk3_bk2, hbk3_r⟩ := Reg.ne_of_put hbk3_r
  have ne_bk2_bk3 := Ne.symm ne_bk3_bk2
  simp only [Act.put, nA, nB, nC]
  refine Seq.alloc rfl rfl rfl (z := .agg (PW rz0 rz0 rz0 rz0 rz0 rz0)) (by kernel_rfl) rfl ?_
  intro bk4 _ _ hbk4_r
  obtain ⟨ne_bk4_bk3, hbk4_r⟩ := Reg.ne_of_put hbk4_r
  have ne_bk3_bk4 := Ne.symm ne_bk4_bk3
  obtain ⟨ne_bk4_bk2, hbk4_r⟩ := Reg.ne_of_put hbk4_r
  have ne_bk2_bk4 := Ne.symm ne_bk4_bk2
  simp only [Act.put, nA, nB, nC]
  refine Seq.pure rfl rfl (by intro w; go_simp; try rfl) ?_
  simp only [Act.put, nA, nB, nC]
  refine Seq.done fun ws1 hws => ?_
  have HS1 := hws.list3 (p := bk2) (q := bk3) (r := bk4) (by repeat (first | exact rS | refine rN (by assumption) ?_)) (by repeat (first | exact rS | refine rN (by assumption) ?_)) (by repeat (first | exact rS | refine rN (by assumption) ?_)) (by assumption) (by assumption) (by assumption)
  clear HS hws
  go_upto_region 1 with (fail)
  refine wp_seq_text [] (StR.no HS1) ?_
  iterate 2 (refine Seq.pure rfl rfl (by intro w; go_simp; try rfl) ?_; simp only [Act.put, nA, nB, nC])
  refine Seq.loadCell rfl rfl rfl rfl (by repeat (first | exact mC | apply mT)) (v := .bool true) rfl (by kernel_rfl) rfl ?_
  simp only [Act.put, nA, nB, nC]
  refine Seq.done fun ws2 hws => ?_
  have HS2 := hws.st
  clear HS1 hws
  go_upto_region 2 with (fail)
  have HPbk4 := HS2.f2
  refine wp_seq_text [] (StR.move (StR.no HPbk4)) ?_
  refine Seq.pure (v := .agg (PW rz0 rz0 rz0 rz0 rz0 rz0)) rfl rfl (by intro w; go_simp; try rfl) ?_
  simp only [Act.put, nA, nB, nC]
  refine Seq.store rfl rfl rfl rfl rfl (by repeat (first | exact rS | refine rN (by assumption) ?_)) (n := 18) rfl rfl (by kernel_rfl) (PW_one _ _ _ _ _ _) ?_
  simp only [Act.put, nA, nB, nC]
  refine Seq.pure rfl rfl (by intro w; go_simp; try rfl) ?_
  simp only [Act.put, nA, nB, nC]
  refine Seq.done fun ws3 hws => ?_
  have HS3 := hws.list1 (p := bk4) (by repeat (first | exact rS | refine rN (by assumption) ?_))
  clear HS2 hws HPbk4
  go_wp2_with fail
  exact ret_own2 rfl rfl rfl rfl HS3 (by repeat (first | exact mC | apply mT)) (n := 18) rfl (by kernel_rfl) ⟨rfl, HS3.below⟩
set_option maxHeartbeats 2000000 in
set_option maxRecDepth 20000 in
theorem put_no {k : Nat} {pxl pxh : Rat} {pxg : Bool} {px1 px2 : RT} {pyl pyh : Rat} {pyg : Bool} {py1 py2 : RT} {ptl pth : Rat} {ptg : Bool} {pt1 pt2 : RT} {g1 : Rat} {g1_g : Bool} {g1_t : RT} {g2 : Rat} {g2_g : Bool} {g2_t : RT} {gh : Bool} {gt : Rat} {gt_g : Bool} {gt_t : RT} {W : World} {l : List Own} (hT : Tab W) (Zpx : RawS k pxl pxh pxg px1 px2) (Zpy : RawS k pyl pyh pyg py1 py2) (Zpt : RawS k ptl pth ptg pt1 pt2) (Zg1 : RawT k g1 g1_g g1_t) (Zg2 : RawT k g2 g2_g g2_t) (Zgt : RawT k gt gt_g gt_t) (hgh : gh = false) (hok : tOk gt ptl pth = false) (hk0 : 2 ≤ k) (hk : k ≤ 999999999994) (w : World) (h : St W l w) :
    Calls Tryd.prog 41 #[.agg (PW px1 px2 py1 py2 pt1 pt2), .agg (FW g1_t g2_t gh gt_t)] w fun e w' => e = .returned (.tuple #[.agg (PW rz0 rz0 rz0 rz0 rz0 rz0), .int .i64 18]) ∧ Below w.heap.size w w' := by
  have HT := Lib.hid (tabS hT h); clear hT h
  have Z_px := Lib.hid Zpx; clear Zpx
  have Z_py := Lib.hid Zpy; clear Zpy
  have Z_pt := Lib.hid Zpt; clear Zpt
  have Z_g1 := Lib.hid Zg1; clear Zg1
  have Z_g2 := Lib.hid Zg2; clear Zg2
  have Z_gt := Lib.hid Zgt; clear Zgt
  subst hgh
  have hok := Lib.hid hok
  go_enter Tryd.func41, Tryd.ntmps41
  have HS : St w [] w := St.start
  go_upto_region 0 with (fail)
  refine wp_seq_text [] (StR.no HS) ?_
  refine Seq.box rfl rfl rfl (v := .agg (PW px1 px2 py1 py2 pt1 pt2)) (cs := PW px1 px2 py1 py2 pt1 pt2) rfl rfl ?_
  intro bk2 _ _ hbk2_r
  simp only [Act.put, nA, nB, nC]
  refine Seq.box rfl rfl rfl (v := .agg (FW g1_t g2_t false gt_t)) (cs := FW g1_t g2_t false gt_t) rfl rfl ?_
  intro bk3 _ _ hbk3_r
  obtain ⟨ne_bk3_bk2, hbk3_r⟩ := Reg.ne_of_put hbk3_r
  have ne_bk2_bk3 := Ne.symm ne_bk3_bk2
  simp only [Act.put, nA, nB, nC]
  refine Seq.alloc rfl rfl rfl (z := .agg (PW rz0 rz0 rz0 rz0 rz0 rz0)) (by kernel_rfl) rfl ?_
  intro bk4 _ _ hbk4_r
  obtain ⟨ne_bk4_bk3, hbk4_r⟩ := Reg.ne_of_put hbk4_r
  have ne_bk3_bk4 := Ne.symm ne_bk4_bk3
  obtain ⟨ne_bk4_bk2, hbk4_r⟩ := Reg.ne_of_put hbk4_r
  have ne_bk2_bk4 := Ne.symm ne_bk4_bk2
  simp only [Act.put, nA, nB, nC]
  refine Seq.pure rfl rfl (by intro w; go_simp; try rfl) ?_
  simp only [Act.put, nA, nB, nC]
  refine Seq.done fun ws1 hws => ?_
  have HS1 := hws.list3 (p := bk2) (q := bk3) (r := bk4) (by repeat (first | exact rS | refine rN (by assumption) ?_)) (by repeat (first | exact rS | refine rN (by assumption) ?_)) (by repeat (first | exact rS | refine rN (by assumption) ?_)) (by assumption) (by assumption) (by assumption)
  clear HS hws
  go_upto_region 1 with (fail)
  refine wp_seq_text [] (StR.no HS1) ?_
  iterate 2 (refine Seq.pure rfl rfl (by intro w; go_simp; try rfl) ?_; simp only [Act.put, nA, nB, nC])
  refine Seq.loadCell rfl rfl rfl rfl (by repeat (first | exact mC | apply mT)) (v := .bool false) rfl (by kernel_rfl) rfl ?_
  simp only [Act.put, nA, nB, nC]
  refine Seq.done fun ws2 hws => ?_
  have HS2 := hws.st
  clear HS1 hws
  go_upto_region 3 with (fail)
  refine wp_seq_text [] (StR.no HS2) ?_
  refine Seq.pure rfl rfl (by intro w; go_simp; try rfl) ?_
  simp only [Act.put, nA, nB, nC]
  refine Seq.loadAt rfl rfl rfl rfl (by repeat (first | exact mC | apply mT)) (n := 6) (cs' := SW pt1 pt2) (Nat.le_of_ble_eq_true rfl) (by kernel_rfl) rfl ?_
  simp only [Act.put, nA, nB, nC]
  iterate 2 (refine Seq.pure rfl rfl (by intro w; go_simp; try rfl) ?_; simp only [Act.put, nA, nB, nC])
  refine Seq.loadAt rfl rfl rfl rfl (by repeat (first | exact mC | apply mT)) (n := 3) (cs' := RT.c gt_t) (Nat.le_of_ble_eq_true rfl) (by kernel_rfl) rfl ?_
  simp only [Act.put, nA, nB, nC]
  refine Seq.call rfl rfl rfl rfl (by kernel_rfl) (turned_no (k := (1 * k + 2)) (s1 := pt1) (s2 := pt2) (a_t := gt_t) HT.out (Z_pt.out.more (by omega)) (Z_gt.out.more (by omega)) hok.out  (by omega) (by omega)) ?_
  simp only [Act.put, nA, nB, nC]
  refine Seq.pure rfl rfl (by intro w; go_simp; try rfl) ?_
  simp only [Act.put, nA, nB, nC]
  refine Seq.pure (v := .agg (SW rz0 rz0)) rfl rfl (fun w => rfl) ?_
  simp only [Act.put, nA, nB, nC]
  refine Seq.pure (v := .int .i64 18) rfl rfl (fun w => rfl) ?_
  simp only [Act.put, nA, nB, nC]
  refine Seq.alloc rfl rfl rfl (z := .agg (SW rz0 rz0)) (by kernel_rfl) rfl ?_
  intro bk6 _ _ hbk6_r
  simp only [Act.put, nA, nB, nC]
  refine Seq.store rfl rfl rfl rfl rfl (by repeat (first | exact rS | refine rN (by assumption) ?_)) (n := 6) rfl rfl (by kernel_rfl) (SW_one _ _) ?_
  simp only [Act.put, nA, nB, nC]
  refine Seq.pure rfl rfl (by intro w; go_simp; try rfl) ?_
  simp only [Act.put, nA, nB, nC]
  refine Seq.done fun ws3 hws => ?_
  have HS3 := hws.list1 (p := bk6) (by repeat (first | exact rS | refine rN (by assumption) ?_))
  clear HS2 hws
  go_upto_region 4 with (fail)
  refine wp_seq_text [] (StR.no HS3) ?_
  iterate 2 (refine Seq.pure rfl rfl (by intro w; go_simp; try rfl) ?_; simp only [Act.put, nA, nB, nC])
  refine Seq.done fun ws4 hws => ?_
  have HS4 := hws.st
  clear HS3 hws
  go_upto_region 5 with (fail)
  have HPbk4 := HS4.f3
  refine wp_seq_text [] (StR.move (StR.no HPbk4)) ?_
  refine Seq.pure (v := .agg (PW rz0 rz0 rz0 rz0 rz0 rz0)) rfl rfl (by intro w; go_simp; try rfl) ?_
  simp only [Act.put, nA, nB, nC]
  refine Seq.pure rfl rfl (by intro w; go_simp; try rfl) ?_
  simp only [Act.put, nA, nB, nC]
  refine Seq.store rfl rfl rfl rfl rfl (by repeat (first | exact rS | refine rN (by assumption) ?_)) (n := 18) rfl rfl (by kernel_rfl) (PW_one _ _ _ _ _ _) ?_
  simp only [Act.put, nA, nB, nC]
  refine Seq.pure rfl rfl (by intro w; go_simp; try rfl) ?_
  simp only [Act.put, nA, nB, nC]
  refine Seq.done fun ws5 hws => ?_
  have HS5 := hws.list1 (p := bk4) (by repeat (first | exact rS | refine rN (by assumption) ?_))
  clear HS4 hws HPbk4
  go_wp2_with fail
  exact ret_own2 rfl rfl rfl rfl HS5 (by repeat (first | exact mC | apply mT)) (n := 18) rfl (by kernel_rfl) ⟨rfl, HS5.below⟩
set_option maxHeartbeats 2000000 in
set_option maxRecDepth 20000 in
theorem put_ok {k : Nat} {pxl pxh : Rat} {pxg : Bool} {px1 px2 : RT} {pyl pyh : Rat} {pyg : Bool} {py1 py2 : RT} {ptl pth : Rat} {ptg : Bool} {pt1 pt2 : RT} {g1 : Rat} {g1_g : Bool} {g1_t : RT} {g2 : Rat} {g2_g : Bool} {g2_t : RT} {gh : Bool} {gt : Rat} {gt_g : Bool} {gt_t : RT} {z0 : Rat} {z1 : Rat} {z2 : Rat} {z3 : Rat} {z4 : Rat} {z5 : Rat} {W : World} {l : List Own} (hT : Tab W) (Zpx : RawS k pxl pxh pxg px1 px2) (Zpy : RawS k pyl pyh pyg py1 py2) (Zpt : RawS k ptl pth ptg pt1 pt2) (Zg1 : RawT k g1 g1_g g1_t) (Zg2 : RawT k g2 g2_g g2_t) (Zgt : RawT k gt gt_g gt_t) (hgh : gh = false) (hok : tOk gt ptl pth = true) (hz0 : pX0 pxl pxh pyl pyh g1 g2 gt = z0) (hz1 : pX1 pxl pxh pyl pyh g1 g2 gt = z1) (hz2 : pY0 pxl pxh pyl pyh g1 g2 gt = z2) (hz3 : pY1 pxl pxh pyl pyh g1 g2 gt = z3) (hz4 : tuQ gt ptl = z4) (hz5 : tuQ gt pth = z5) (hk0 : 2 ≤ k) (hk : k ≤ 16666666665) (w : World) (h : St W l w) :
    Calls Tryd.prog 41 #[.agg (PW px1 px2 py1 py2 pt1 pt2), .agg (FW g1_t g2_t gh gt_t)] w fun e w' => e = .returned (.tuple #[.agg (PW (rt z0) (rt z1) (rt z2) (rt z3) (rt z4) (rt z5)), .int .i64 0]) ∧ Below w.heap.size w w' := by
  subst hz0
  subst hz1
  subst hz2
  subst hz3
  subst hz4
  subst hz5
  have HT := Lib.hid (tabS hT h); clear hT h
  have Z_px := Lib.hid Zpx; clear Zpx
  have Z_py := Lib.hid Zpy; clear Zpy
  have Z_pt := Lib.hid Zpt; clear Zpt
  have Z_g1 := Lib.hid Zg1; clear Zg1
  have Z_g2 := Lib.hid Zg2; clear Zg2
  have Z_gt := Lib.hid Zgt; clear Zgt
  subst hgh
  have hok := Lib.hid hok
  obtain ⟨x0, hx0⟩ : ∃ z, rX0 (cosT false gt) (sinT gt) pxl pxh pyl pyh = z := ⟨_, rfl⟩
  obtain ⟨x1, hx1⟩ : ∃ z, rX1 (cosT false gt) (sinT gt) pxl pxh pyl pyh = z := ⟨_, rfl⟩
  obtain ⟨y0, hy0⟩ : ∃ z, rY0 (cosT false gt) (sinT gt) pxl pxh pyl pyh = z := ⟨_, rfl⟩
  obtain ⟨y1, hy1⟩ : ∃ z, rY1 (cosT false gt) (sinT gt) pxl pxh pyl pyh = z := ⟨_, rfl⟩
  have HX := Lib.hid (show rX0 (cosT false gt) (sinT gt) pxl pxh pyl pyh = x0 ∧ rX1 (cosT false gt) (sinT gt) pxl pxh pyl pyh = x1 ∧ rY0 (cosT false gt) (sinT gt) pxl pxh pyl pyh = y0 ∧ rY1 (cosT false gt) (sinT gt) pxl pxh pyl pyh = y1 from ⟨hx0, hx1, hy0, hy1⟩)
  have HL := Lib.hid (show x0 ≤ x1 ∧ y0 ≤ y1 from by rw [← hx0, ← hx1, ← hy0, ← hy1]; exact r_le _ _ _ _ _ _)
  have HZ4 := r_rz (kc := 8 * k + 10) (kx := 4 * k + 1) (Rz.cosT false Z_gt.out.rz) (Rz.sinT Z_gt.out.rz) ((Z_px.out.rz (by omega)).1.more (by omega)) ((Z_px.out.rz (by omega)).2.more (by omega)) ((Z_py.out.rz (by omega)).1.more (by omega)) ((Z_py.out.rz (by omega)).2.more (by omega))
  have Z_x0 := Lib.hid (show Rz (60 * k + 90) x0 from (hx0 ▸ HZ4.1).more (by omega))
  have Z_x1 := Lib.hid (show Rz (60 * k + 90) x1 from (hx1 ▸ HZ4.2.1).more (by omega))
  have Z_y0 := Lib.hid (show Rz (60 * k + 90) y0 from (hy0 ▸ HZ4.2.2.1).more (by omega))
  have Z_y1 := Lib.hid (show Rz (60 * k + 90) y1 from (hy1 ▸ HZ4.2.2.2).more (by omega))
  clear HZ4
  have HR := Lib.hid (show Ending.returned (.tuple #[.agg (PW (rt (x0 + g1)) (rt (x1 + g1)) (rt (y0 + g2)) (rt (y1 + g2)) (rt (tuQ gt ptl)) (rt (tuQ gt pth))), .int .i64 0]) = .returned (.tuple #[.agg (PW (rt (pX0 pxl pxh pyl pyh g1 g2 gt)) (rt (pX1 pxl pxh pyl pyh g1 g2 gt)) (rt (pY0 pxl pxh pyl pyh g1 g2 gt)) (rt (pY1 pxl pxh pyl pyh g1 g2 gt)) (rt (tuQ gt ptl)) (rt (tuQ gt pth))), .int .i64 0]) from by rw [← hx0, ← hx1, ← hy0, ← hy1]; unfold pX0 pX1 pY0 pY1; rfl)
  clear hx0 hx1 hy0 hy1
  go_enter Tryd.func41, Tryd.ntmps41
  have HS : St w [] w := St.start
  go_upto_region 0 with (fail)
  refine wp_seq_text [] (StR.no HS) ?_
  refine Seq.box rfl rfl rfl (v := .agg (PW px1 px2 py1 py2 pt1 pt2)) (cs := PW px1 px2 py1 py2 pt1 pt2) rfl rfl ?_
  intro bk2 _ _ hbk2_r
  simp only [Act.put, nA, nB, nC]
  refine Seq.box rfl rfl rfl (v := .agg (FW g1_t g2_t false gt_t)) (cs := FW g1_t g2_t false gt_t) rfl rfl ?_
  intro bk3 _ _ hbk3_r
  obtain ⟨ne_bk3_bk2, hbk3_r⟩ := Reg.ne_of_put hbk3_r
  have ne_bk2_bk3 := Ne.symm ne_bk3_bk2
  simp only [Act.put, nA, nB, nC]
  refine Seq.alloc rfl rfl rfl (z := .agg (PW rz0 rz0 rz0 rz0 rz0 rz0)) (by kernel_rfl) rfl ?_
  intro bk4 _ _ hbk4_r
  obtain ⟨ne_bk4_bk3, hbk4_r⟩ := Reg.ne_of_put hbk4_r
  have ne_bk3_bk4 := Ne.symm ne_bk4_bk3
  obtain ⟨ne_bk4_bk2, hbk4_r⟩ := Reg.ne_of_put hbk4_r
  have ne_bk2_bk4 := Ne.symm ne_bk4_bk2
  simp only [Act.put, nA, nB, nC]
  refine Seq.pure rfl rfl (by intro w; go_simp; try rfl) ?_
  simp only [Act.put, nA, nB, nC]
  refine Seq.done fun ws1 hws => ?_
  have HS1 := hws.list3 (p := bk2) (q := bk3) (r := bk4) (by repeat (first | exact rS | refine rN (by assumption) ?_)) (by repeat (first | exact rS | refine rN (by assumption) ?_)) (by repeat (first | exact rS | refine rN (by assumption) ?_)) (by assumption) (by assumption) (by assumption)
  clear HS hws
  go_upto_region 1 with (fail)
  refine wp_seq_text [] (StR.no HS1) ?_
  iterate 2 (refine Seq.pure rfl rfl (by intro w; go_simp; try rfl) ?_; simp only [Act.put, nA, nB, nC])
  refine Seq.loadCell rfl rfl rfl rfl (by repeat (first | exact mC | apply mT)) (v := .bool false) rfl (by kernel_rfl) rfl ?_
  simp only [Act.put, nA, nB, nC]
  refine Seq.done fun ws2 hws => ?_
  have HS2 := hws.st
  clear HS1 hws
  go_upto_region 3 with (fail)
  refine wp_seq_text [] (StR.no HS2) ?_
  refine Seq.pure rfl rfl (by intro w; go_simp; try rfl) ?_
  simp only [Act.put, nA, nB, nC]
  refine Seq.loadAt rfl rfl rfl rfl (by repeat (first | exact mC | apply mT)) (n := 6) (cs' := SW pt1 pt2) (Nat.le_of_ble_eq_true rfl) (by kernel_rfl) rfl ?_
  simp only [Act.put, nA, nB, nC]
  iterate 2 (refine Seq.pure rfl rfl (by intro w; go_simp; try rfl) ?_; simp only [Act.put, nA, nB, nC])
  refine Seq.loadAt rfl rfl rfl rfl (by repeat (first | exact mC | apply mT)) (n := 3) (cs' := RT.c gt_t) (Nat.le_of_ble_eq_true rfl) (by kernel_rfl) rfl ?_
  simp only [Act.put, nA, nB, nC]
  refine Seq.call rfl rfl rfl rfl (by kernel_rfl) (turned_ok (k := (1 * k + 2)) (s1 := pt1) (s2 := pt2) (a_t := gt_t) HT.out (Z_pt.out.more (by omega)) (Z_gt.out.more (by omega)) hok.out rfl rfl (by omega) (by omega)) ?_
  simp only [Act.put, nA, nB, nC]
  refine Seq.pure rfl rfl (by intro w; go_simp; try rfl) ?_
  simp only [Act.put, nA, nB, nC]
  refine Seq.pure (v := .agg (VC (tuQ gt ptl) (tuQ gt pth))) rfl rfl (fun w => rfl) ?_
  simp only [Act.put, nA, nB, nC]
  refine Seq.pure (v := .int .i64 0) rfl rfl (fun w => rfl) ?_
  simp only [Act.put, nA, nB, nC]
  refine Seq.alloc rfl rfl rfl (z := .agg (SW rz0 rz0)) (by kernel_rfl) rfl ?_
  intro bk6 _ _ hbk6_r
  simp only [Act.put, nA, nB, nC]
  refine Seq.store rfl rfl rfl rfl rfl (by repeat (first | exact rS | refine rN (by assumption) ?_)) (n := 6) rfl rfl (by kernel_rfl) (VC_one _ _) ?_
  simp only [Act.put, nA, nB, nC]
  refine Seq.pure rfl rfl (by intro w; go_simp; try rfl) ?_
  simp only [Act.put, nA, nB, nC]
  refine Seq.done fun ws3 hws => ?_
  have HS3 := hws.list1 (p := bk6) (by repeat (first | exact rS | refine rN (by assumption) ?_))
  clear HS2 hws
  go_upto_region 4 with (fail)
  refine wp_seq_text [] (StR.no HS3) ?_
  iterate 2 (refine Seq.pure rfl rfl (by intro w; go_simp; try rfl) ?_; simp only [Act.put, nA, nB, nC])
  refine Seq.done fun ws4 hws => ?_
  have HS4 := hws.st
  clear HS3 hws
  go_upto_region 6 with (fail)
  refine wp_seq_text [] (StR.no HS4) ?_
  refine Seq.pure rfl rfl (by intro w; go_simp; try rfl) ?_
  simp only [Act.put, nA, nB, nC]
  refine Seq.loadAt rfl rfl rfl rfl (by repeat (first | exact mC | apply mT)) (n := 6) (cs' := SW px1 px2) (Nat.le_of_ble_eq_true rfl) (by kernel_rfl) rfl ?_
  simp only [Act.put, nA, nB, nC]
  refine Seq.pure rfl rfl (by intro w; go_simp; try rfl) ?_
  simp only [Act.put, nA, nB, nC]
  refine Seq.loadAt rfl rfl rfl rfl (by repeat (first | exact mC | apply mT)) (n := 6) (cs' := SW py1 py2) (Nat.le_of_ble_eq_true rfl) (by kernel_rfl) rfl ?_
  simp only [Act.put, nA, nB, nC]
  refine Seq.pure rfl rfl (by intro w; go_simp; try rfl) ?_
  simp only [Act.put, nA, nB, nC]
  refine Seq.loadAt rfl rfl rfl rfl (by repeat (first | exact mC | apply mT)) (n := 4) (cs' := UW false gt_t) (Nat.le_of_ble_eq_true rfl) (by kernel_rfl) rfl ?_
  simp only [Act.put, nA, nB, nC]
  refine Seq.call rfl rfl rfl rfl (by kernel_rfl) (rotate_w (k := (1 * k + 2)) (x1 := px1) (x2 := px2) (y1 := py1) (y2 := py2) (t_t := gt_t) HT.out (Z_px.out.more (by omega)) (Z_py.out.more (by omega)) (Z_gt.out.more (by omega))  HX.out.1 HX.out.2.1 HX.out.2.2.1 HX.out.2.2.2 (by omega) (by omega)) ?_
  simp only [Act.put, nA, nB, nC]
  refine Seq.pure rfl rfl (by intro w; go_simp; try rfl) ?_
  simp only [Act.put, nA, nB, nC]
  refine Seq.pure (v := .agg (VC x0 x1)) rfl rfl (fun w => rfl) ?_
  simp only [Act.put, nA, nB, nC]
  refine Seq.pure (v := .agg (VC y0 y1)) rfl rfl (fun w => rfl) ?_
  simp only [Act.put, nA, nB, nC]
  refine Seq.alloc rfl rfl rfl (z := .agg (SW rz0 rz0)) (by kernel_rfl) rfl ?_
  intro bk8 _ _ hbk8_r
  simp only [Act.put, nA, nB, nC]
  refine Seq.alloc rfl rfl rfl (z := .agg (SW rz0 rz0)) (by kernel_rfl) rfl ?_
  intro bk9 _ _ hbk9_r
  obtain ⟨ne_bk9_bk8, hbk9_r⟩ := Reg.ne_of_put hbk9_r
  have ne_bk8_bk9 := Ne.symm ne_bk9_bk8
  simp only [Act.put, nA, nB, nC]
  refine Seq.store rfl rfl rfl rfl rfl (by repeat (first | exact rS | refine rN (by assumption) ?_)) (n := 6) rfl rfl (by kernel_rfl) (VC_one _ _) ?_
  simp only [Act.put, nA, nB, nC]
  refine Seq.store rfl rfl rfl rfl rfl (by repeat (first | exact rS | refine rN (by assumption) ?_)) (n := 6) rfl rfl (by kernel_rfl) (VC_one _ _) ?_
  simp only [Act.put, nA, nB, nC]
  refine Seq.done fun ws5 hws => ?_
  have HS5 := hws.list2 (p := bk8) (q := bk9) (by repeat (first | exact rS | refine rN (by assumption) ?_)) (by repeat (first | exact rS | refine rN (by assumption) ?_)) (by assumption)
  clear HS4 hws
  go_upto_region 7 with (fail)
  have HPbk4 := HS5.f5
  refine wp_seq [] (by kernel_rfl) (by kernel_rfl) (Reg.fin.put Reg.fin_no _ _) (StR.move (StR.no HPbk4)) ?_
  refine Seq.load rfl rfl rfl rfl (by repeat (first | exact mC | apply mT)) (n := 6) rfl (by kernel_rfl) ?_
  simp only [Act.put, nA, nB, nC]
  iterate 2 (refine Seq.pure rfl rfl (by intro w; go_simp; try rfl) ?_; simp only [Act.put, nA, nB, nC])
  refine Seq.loadAt rfl rfl rfl rfl (by repeat (first | exact mC | apply mT)) (n := 3) (cs' := RT.c g1_t) (Nat.le_of_ble_eq_true rfl) (by kernel_rfl) rfl ?_
  simp only [Act.put, nA, nB, nC]
  refine Seq.call rfl rfl rfl rfl (by kernel_rfl) (sof_w (k := (1 * k + 2)) (t_t := g1_t) HT.out (Z_g1.out.more (by omega))  rfl rfl (by omega) (by omega)) ?_
  simp only [Act.put, nA, nB, nC]
  refine Seq.call rfl rfl rfl rfl (by kernel_rfl) (sadd_w (k := (60 * k + 90)) (a1 := (rt x0)) (a2 := (rt x1)) (b1 := (rt g1)) (b2 := (rt g1)) HT.out (RawS.of HL.out.1 (Z_x0.out.more (by omega)) (Z_x1.out.more (by omega))) (RawS.of Rat.le_refl (Z_g1.out.rz.more (by omega)) (Z_g1.out.rz.more (by omega)))  rfl rfl (by omega) (by omega)) ?_
  simp only [Act.put, nA, nB, nC]
  refine Seq.load rfl rfl rfl rfl (by repeat (first | exact mC | apply mT)) (n := 6) rfl (by kernel_rfl) ?_
  simp only [Act.put, nA, nB, nC]
  iterate 2 (refine Seq.pure rfl rfl (by intro w; go_simp; try rfl) ?_; simp only [Act.put, nA, nB, nC])
  refine Seq.loadAt rfl rfl rfl rfl (by repeat (first | exact mC | apply mT)) (n := 3) (cs' := RT.c g2_t) (Nat.le_of_ble_eq_true rfl) (by kernel_rfl) rfl ?_
  simp only [Act.put, nA, nB, nC]
  refine Seq.call rfl rfl rfl rfl (by kernel_rfl) (sof_w (k := (1 * k + 2)) (t_t := g2_t) HT.out (Z_g2.out.more (by omega))  rfl rfl (by omega) (by omega)) ?_
  simp only [Act.put, nA, nB, nC]
  refine Seq.call rfl rfl rfl rfl (by kernel_rfl) (sadd_w (k := (60 * k + 90)) (a1 := (rt y0)) (a2 := (rt y1)) (b1 := (rt g2)) (b2 := (rt g2)) HT.out (RawS.of HL.out.2 (Z_y0.out.more (by omega)) (Z_y1.out.more (by omega))) (RawS.of Rat.le_refl (Z_g2.out.rz.more (by omega)) (Z_g2.out.rz.more (by omega)))  rfl rfl (by omega) (by omega)) ?_
  simp only [Act.put, nA, nB, nC]
  refine Seq.load rfl rfl rfl rfl (by repeat (first | exact mC | apply mT)) (n := 6) rfl (by kernel_rfl) ?_
  simp only [Act.put, nA, nB, nC]
  refine Seq.pure (v := .agg (PW (rt (x0 + g1)) (rt (x1 + g1)) (rt (y0 + g2)) (rt (y1 + g2)) (rt (tuQ gt ptl)) (rt (tuQ gt pth)))) rfl rfl (fun w => bld_Pose (x := (rt (x0 + g1))) (y := (rt (x1 + g1))) (z := (rt (y0 + g2))) (u := (rt (y1 + g2))) (v := (rt (tuQ gt ptl))) (t := (rt (tuQ gt pth))) rfl rfl rfl rfl w) ?_
  simp only [Act.put, nA, nB, nC]
  refine Seq.store rfl rfl rfl rfl rfl (by repeat (first | exact rS | refine rN (by assumption) ?_)) (n := 18) rfl rfl (by kernel_rfl) (PW_one _ _ _ _ _ _) ?_
  simp only [Act.put, nA, nB, nC]
  refine Seq.pure rfl rfl (by intro w; go_simp; try rfl) ?_
  simp only [Act.put, nA, nB, nC]
  refine Seq.done fun ws6 hws => ?_
  have HS6 := hws.list1 (p := bk4) (by repeat (first | exact rS | refine rN (by assumption) ?_))
  clear HS5 hws HPbk4
  go_wp2_with fail
  exact ret_own2 rfl rfl rfl rfl HS6 (by repeat (first | exact mC | apply mT)) (n := 18) rfl (by kernel_rfl) ⟨HR.out, HS6.below⟩
end Go.Proofs.YtoejojfjiikogaaDoor
