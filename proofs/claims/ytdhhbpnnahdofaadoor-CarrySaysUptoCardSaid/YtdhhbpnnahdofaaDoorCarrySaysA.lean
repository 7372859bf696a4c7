/- CarrySays, whatever numbers come in. -/
import Derived.Test.YtdhhbpnnahdofaaDoorCaF
import Derived.Test.YtdhhbpnnahdofaaDoorCaE
import Derived.Test.YtdhhbpnnahdofaaDoorSp9
import Derived.LoopN

namespace Go.Proofs.YtdhhbpnnahdofaaDoor
open Go.RowKit
set_option linter.unusedVariables false
set_option linter.unusedSimpArgs false

set_option maxHeartbeats 8000000 in
set_option maxRecDepth 20000 in
theorem carrySays_law {k : Nat} {pxl pxh pyl pyh ptl pth : Rat} {pxg pyg ptg : Bool} {px1 px2 py1 py2 pt1 pt2 : RT} {g1 g2 gt h1 h2 ht : Rat} {g1_g g2_g gt_g h1_g h2_g ht_g gh hh : Bool} {g1_t g2_t gt_t h1_t h2_t ht_t : RT} {W : World} {l : List Own} (hT : Tab W) (Zpx : RawS k pxl pxh pxg px1 px2) (Zpy : RawS k pyl pyh pyg py1 py2) (Zpt : RawS k ptl pth ptg pt1 pt2) (Zg1 : RawT k g1 g1_g g1_t) (Zg2 : RawT k g2 g2_g g2_t) (Zgt : RawT k gt gt_g gt_t) (Zh1 : RawT k h1 h1_g h1_t) (Zh2 : RawT k h2 h2_g h2_t) (Zht : RawT k ht ht_g ht_t) (hk0 : 2 ≤ k) (hk : k ≤ 281531530) (w : World) (h : St W l w) :
    Calls Tryd.prog 6 #[.agg (PW px1 px2 py1 py2 pt1 pt2), .agg (FW g1_t g2_t gh gt_t), .agg (FW h1_t h2_t hh ht_t)] w fun e w' => e = .returned (.bool true) ∧ Below w.heap.size w w' := by
  have HT := Lib.hid (tabS hT h); clear hT h
  have Z_px := Lib.hid Zpx; clear Zpx
  have Z_py := Lib.hid Zpy; clear Zpy
  have Z_pt := Lib.hid Zpt; clear Zpt
  have Z_g1 := Lib.hid Zg1; clear Zg1
  have Z_g2 := Lib.hid Zg2; clear Zg2
  have Z_gt := Lib.hid Zgt; clear Zgt
  have Z_h1 := Lib.hid Zh1; clear Zh1
  have Z_h2 := Lib.hid Zh2; clear Zh2
  have Z_ht := Lib.hid Zht; clear Zht
  go_enter Tryd.func6, Tryd.ntmps6
  have HS : St w [] w := St.start
  go_upto_region 0 with (fail)
  refine wp_seq_text [] (StR.no HS) ?_
  refine Seq.box rfl rfl rfl (v := .agg (PW px1 px2 py1 py2 pt1 pt2)) (cs := PW px1 px2 py1 py2 pt1 pt2) rfl rfl ?_
  intro bk3 _ _ hbk3_r
  simp only [Act.put, nA, nB, nC]
  refine Seq.box rfl rfl rfl (v := .agg (FW g1_t g2_t gh gt_t)) (cs := FW g1_t g2_t gh gt_t) rfl rfl ?_
  intro bk4 _ _ hbk4_r
  obtain ⟨ne_bk4_bk3, hbk4_r⟩ := Reg.ne_of_put hbk4_r
  have ne_bk3_bk4 := Ne.symm ne_bk4_bk3
  simp only [Act.put, nA, nB, nC]
  refine Seq.box rfl rfl rfl (v := .agg (FW h1_t h2_t hh ht_t)) (cs := FW h1_t h2_t hh ht_t) rfl rfl ?_
  intro bk5 _ _ hbk5_r
  obtain ⟨ne_bk5_bk4, hbk5_r⟩ := Reg.ne_of_put hbk5_r
  have ne_bk4_bk5 := Ne.symm ne_bk5_bk4
  obtain ⟨ne_bk5_bk3, hbk5_r⟩ := Reg.ne_of_put hbk5_r
  have ne_bk3_bk5 := Ne.symm ne_bk5_bk3
  simp only [Act.put, nA, nB, nC]
  refine Seq.pure rfl rfl (by intro w; go_simp; try rfl) ?_
  simp only [Act.put, nA, nB, nC]
  refine Seq.done fun ws1 hws => ?_
  have HS1 := hws.list3 (p := bk3) (q := bk4) (r := bk5) (by repeat (first | exact rS | refine rN (by assumption) ?_)) (by repeat (first | exact rS | refine rN (by assumption) ?_)) (by repeat (first | exact rS | refine rN (by assumption) ?_)) (by assumption) (by assumption) (by assumption)
  clear HS hws
  go_upto_region 1 with (fail)
  refine wp_seq_text [] (StR.no HS1) ?_
  refine Seq.load rfl rfl rfl rfl (by repeat (first | exact mC | apply mT)) (n := 18) rfl (by kernel_rfl) ?_
  simp only [Act.put, nA, nB, nC]
  refine Seq.call rfl rfl rfl rfl (by kernel_rfl) (poseOf_w (k := (1 * k + 2)) (px1 := px1) (px2 := px2) (py1 := py1) (py2 := py2) (pt1 := pt1) (pt2 := pt2) HT.out (Z_px.out.more (by omega)) (Z_py.out.more (by omega)) (Z_pt.out.more (by omega))  rfl rfl rfl rfl rfl rfl (by omega) (by omega)) ?_
  simp only [Act.put, nA, nB, nC]
  refine Seq.alloc rfl rfl rfl (z := .agg (PW rz0 rz0 rz0 rz0 rz0 rz0)) (by kernel_rfl) rfl ?_
  intro bk7 _ _ hbk7_r
  simp only [Act.put, nA, nB, nC]
  refine Seq.store rfl rfl rfl rfl rfl (by repeat (first | exact rS | refine rN (by assumption) ?_)) (n := 18) rfl rfl (by kernel_rfl) (PW_one _ _ _ _ _ _) ?_
  simp only [Act.put, nA, nB, nC]
  refine Seq.done fun ws2 hws => ?_
  have HS2 := hws.list1 (p := bk7) (by repeat (first | exact rS | refine rN (by assumption) ?_))
  clear HS1 hws
  cases hgh : gh with
  | true =>
    have HGH := Lib.hid hgh
    go_upto_region 2 with (fail)
    refine wp_seq_text [] (StR.no HS2) ?_
    refine Seq.load rfl rfl rfl rfl (by repeat (first | exact mC | apply mT)) (n := 18) rfl (by kernel_rfl) ?_
    simp only [Act.put, nA, nB, nC]
    refine Seq.load rfl rfl rfl rfl (by repeat (first | exact mC | apply mT)) (n := 10) rfl (by kernel_rfl) ?_
    simp only [Act.put, nA, nB, nC]
    refine Seq.call rfl rfl rfl rfl (by kernel_rfl) (gripOf_half (k := (1 * k + 2)) (g1_t := g1_t) (g2_t := g2_t) (gt_t := gt_t) HT.out ((Z_px.out.rz (by omega)).1.more (by omega)) ((Z_px.out.rz (by omega)).2.more (by omega)) ((Z_py.out.rz (by omega)).1.more (by omega)) ((Z_py.out.rz (by omega)).2.more (by omega)) ((Z_pt.out.rz (by omega)).1.more (by omega)) ((Z_pt.out.rz (by omega)).2.more (by omega)) (Z_g1.out.more (by omega)) (Z_g2.out.more (by omega)) (Z_gt.out.more (by omega)) HGH.out  (by omega) (by omega)) ?_
    simp only [Act.put, nA, nB, nC]
    refine Seq.pure rfl rfl (by intro w; go_simp; try rfl) ?_
    simp only [Act.put, nA, nB, nC]
    refine Seq.pure (v := .agg (PW rz0 rz0 rz0 rz0 rz0 rz0)) rfl rfl (fun w => rfl) ?_
    simp only [Act.put, nA, nB, nC]
    refine Seq.pure (v := .int .i64 3) rfl rfl (fun w => rfl) ?_
    simp only [Act.put, nA, nB, nC]
    refine Seq.alloc rfl rfl rfl (z := .agg (PW rz0 rz0 rz0 rz0 rz0 rz0)) (by kernel_rfl) rfl ?_
    intro bk8 _ _ hbk8_r
    simp only [Act.put, nA, nB, nC]
    refine Seq.store rfl rfl rfl rfl rfl (by repeat (first | exact rS | refine rN (by assumption) ?_)) (n := 18) rfl rfl (by kernel_rfl) (PW_one _ _ _ _ _ _) ?_
    simp only [Act.put, nA, nB, nC]
    refine Seq.pure rfl rfl (by intro w; go_simp; try rfl) ?_
    simp only [Act.put, nA, nB, nC]
    refine Seq.done fun ws3 hws => ?_
    have HS3 := hws.list1 (p := bk8) (by repeat (first | exact rS | refine rN (by assumption) ?_))
    clear HS2 hws
    go_upto_region 3 with (fail)
    refine wp_seq_text [] (StR.no HS3) ?_
    refine Seq.load rfl rfl rfl rfl (by repeat (first | exact mC | apply mT)) (n := 18) rfl (by kernel_rfl) ?_
    simp only [Act.put, nA, nB, nC]
    refine Seq.load rfl rfl rfl rfl (by repeat (first | exact mC | apply mT)) (n := 10) rfl (by kernel_rfl) ?_
    simp only [Act.put, nA, nB, nC]
    refine Seq.call rfl rfl rfl rfl (by kernel_rfl) (putOf_half (k := (1 * k + 2)) (g1_t := g1_t) (g2_t := g2_t) (gt_t := gt_t) HT.out ((Z_px.out.rz (by omega)).1.more (by omega)) ((Z_px.out.rz (by omega)).2.more (by omega)) ((Z_py.out.rz (by omega)).1.more (by omega)) ((Z_py.out.rz (by omega)).2.more (by omega)) ((Z_pt.out.rz (by omega)).1.more (by omega)) ((Z_pt.out.rz (by omega)).2.more (by omega)) (Z_g1.out.more (by omega)) (Z_g2.out.more (by omega)) (Z_gt.out.more (by omega)) HGH.out  (by omega) (by omega)) ?_
    simp only [Act.put, nA, nB, nC]
    refine Seq.pure rfl rfl (by intro w; go_simp; try rfl) ?_
    simp only [Act.put, nA, nB, nC]
    refine Seq.pure (v := .agg (PW rz0 rz0 rz0 rz0 rz0 rz0)) rfl rfl (fun w => rfl) ?_
    simp only [Act.put, nA, nB, nC]
    refine Seq.pure (v := .int .i64 3) rfl rfl (fun w => rfl) ?_
    simp only [Act.put, nA, nB, nC]
    refine Seq.alloc rfl rfl rfl (z := .agg (PW rz0 rz0 rz0 rz0 rz0 rz0)) (by kernel_rfl) rfl ?_
    intro bk10 _ _ hbk10_r
    simp only [Act.put, nA, nB, nC]
    refine Seq.store rfl rfl rfl rfl rfl (by repeat (first | exact rS | refine rN (by assumption) ?_)) (n := 18) rfl rfl (by kernel_rfl) (PW_one _ _ _ _ _ _) ?_
    simp only [Act.put, nA, nB, nC]
    refine Seq.pure rfl rfl (by intro w; go_simp; try rfl) ?_
    simp only [Act.put, nA, nB, nC]
    refine Seq.done fun ws4 hws => ?_
    have HS4 := hws.list1 (p := bk10) (by repeat (first | exact rS | refine rN (by assumption) ?_))
    clear HS3 hws
    go_upto_region 4 with (fail)
    refine wp_seq_text [] (StR.no HS4) ?_
    refine Seq.load rfl rfl rfl rfl (by repeat (first | exact mC | apply mT)) (n := 18) rfl (by kernel_rfl) ?_
    simp only [Act.put, nA, nB, nC]
    refine Seq.load rfl rfl rfl rfl (by repeat (first | exact mC | apply mT)) (n := 10) rfl (by kernel_rfl) ?_
    simp only [Act.put, nA, nB, nC]
    refine Seq.call rfl rfl rfl rfl (by kernel_rfl) (grip_half (k := (1 * k + 2)) (px1 := px1) (px2 := px2) (py1 := py1) (py2 := py2) (pt1 := pt1) (pt2 := pt2) (g1_t := g1_t) (g2_t := g2_t) (gt_t := gt_t) HT.out (Z_px.out.more (by omega)) (Z_py.out.more (by omega)) (Z_pt.out.more (by omega)) (Z_g1.out.more (by omega)) (Z_g2.out.more (by omega)) (Z_gt.out.more (by omega)) HGH.out  (by omega) (by omega)) ?_
    simp only [Act.put, nA, nB, nC]
    refine Seq.pure rfl rfl (by intro w; go_simp; try rfl) ?_
    simp only [Act.put, nA, nB, nC]
    refine Seq.pure (v := .agg (PW rz0 rz0 rz0 rz0 rz0 rz0)) rfl rfl (fun w => rfl) ?_
    simp only [Act.put, nA, nB, nC]
    refine Seq.pure (v := .int .i64 3) rfl rfl (fun w => rfl) ?_
    simp only [Act.put, nA, nB, nC]
    refine Seq.alloc rfl rfl rfl (z := .agg (PW rz0 rz0 rz0 rz0 rz0 rz0)) (by kernel_rfl) rfl ?_
    intro bk12 _ _ hbk12_r
    simp only [Act.put, nA, nB, nC]
    refine Seq.store rfl rfl rfl rfl rfl (by repeat (first | exact rS | refine rN (by assumption) ?_)) (n := 18) rfl rfl (by kernel_rfl) (PW_one _ _ _ _ _ _) ?_
    simp only [Act.put, nA, nB, nC]
    refine Seq.pure rfl rfl (by intro w; go_simp; try rfl) ?_
    simp only [Act.put, nA, nB, nC]
    refine Seq.done fun ws5 hws => ?_
    have HS5 := hws.list1 (p := bk12) (by repeat (first | exact rS | refine rN (by assumption) ?_))
    clear HS4 hws
    go_upto_region 5 with (fail)
    refine wp_seq_text [] (StR.no HS5) ?_
    refine Seq.load rfl rfl rfl rfl (by repeat (first | exact mC | apply mT)) (n := 18) rfl (by kernel_rfl) ?_
    simp only [Act.put, nA, nB, nC]
    refine Seq.load rfl rfl rfl rfl (by repeat (first | exact mC | apply mT)) (n := 10) rfl (by kernel_rfl) ?_
    simp only [Act.put, nA, nB, nC]
    refine Seq.call rfl rfl rfl rfl (by kernel_rfl) (put_half (k := (1 * k + 2)) (px1 := px1) (px2 := px2) (py1 := py1) (py2 := py2) (pt1 := pt1) (pt2 := pt2) (g1_t := g1_t) (g2_t := g2_t) (gt_t := gt_t) HT.out (Z_px.out.more (by omega)) (Z_py.out.more (by omega)) (Z_pt.out.more (by omega)) (Z_g1.out.more (by omega)) (Z_g2.out.more (by omega)) (Z_gt.out.more (by omega)) HGH.out  (by omega) (by omega)) ?_
    simp only [Act.put, nA, nB, nC]
    refine Seq.pure rfl rfl (by intro w; go_simp; try rfl) ?_
    simp only [Act.put, nA, nB, nC]
    refine Seq.pure (v := .agg (PW rz0 rz0 rz0 rz0 rz0 rz0)) rfl rfl (fun w => rfl) ?_
    simp only [Act.put, nA, nB, nC]
    refine Seq.pure (v := .int .i64 3) rfl rfl (fun w => rfl) ?_
    simp only [Act.put, nA, nB, nC]
    refine Seq.alloc rfl rfl rfl (z := .agg (PW rz0 rz0 rz0 rz0 rz0 rz0)) (by kernel_rfl) rfl ?_
    intro bk14 _ _ hbk14_r
    simp only [Act.put, nA, nB, nC]
    refine Seq.store rfl rfl rfl rfl rfl (by repeat (first | exact rS | refine rN (by assumption) ?_)) (n := 18) rfl rfl (by kernel_rfl) (PW_one _ _ _ _ _ _) ?_
    simp only [Act.put, nA, nB, nC]
    refine Seq.pure rfl rfl (by intro w; go_simp; try rfl) ?_
    simp only [Act.put, nA, nB, nC]
    refine Seq.done fun ws6 hws => ?_
    have HS6 := hws.list1 (p := bk14) (by repeat (first | exact rS | refine rN (by assumption) ?_))
    clear HS5 hws
    go_upto_region 6 with (fail)
    refine wp_seq_text [] (StR.no HS6) ?_
    refine Seq.call rfl rfl rfl rfl (by kernel_rfl) (carried_q HT.out) ?_
    simp only [Act.put, nA, nB, nC]
    iterate 15 (refine Seq.pure rfl rfl (by intro w; go_simp; try rfl) ?_; simp only [Act.put, nA, nB, nC])
    iterate 4 (refine Seq.nw rfl ?_; simp only [Act.put, nA, nB, nC])
    iterate 6 (refine Seq.pure rfl rfl (by intro w; go_simp; try rfl) ?_; simp only [Act.put, nA, nB, nC])
    iterate 4 (refine Seq.nw rfl ?_; simp only [Act.put, nA, nB, nC])
    iterate 2 (refine Seq.pure rfl rfl (by intro w; go_simp; try rfl) ?_; simp only [Act.put, nA, nB, nC])
    refine Seq.done fun ws7 hws => ?_
    have HS7 := hws.st
    clear HS6 hws
    go_upto_region 8 with (fail)
    refine wp_seq_text [] (StR.no HS7) ?_
    refine Seq.load rfl rfl rfl rfl (by repeat (first | exact mC | apply mT)) (n := 18) rfl (by kernel_rfl) ?_
    simp only [Act.put, nA, nB, nC]
    refine Seq.load rfl rfl rfl rfl (by repeat (first | exact mC | apply mT)) (n := 10) rfl (by kernel_rfl) ?_
    simp only [Act.put, nA, nB, nC]
    refine Seq.call rfl rfl rfl rfl (by kernel_rfl) (grasp_half (k := (1 * k + 2)) (px1 := px1) (px2 := px2) (py1 := py1) (py2 := py2) (pt1 := pt1) (pt2 := pt2) (g1_t := g1_t) (g2_t := g2_t) (gt_t := gt_t) HT.out (Z_px.out.more (by omega)) (Z_py.out.more (by omega)) (Z_pt.out.more (by omega)) (Z_g1.out.more (by omega)) (Z_g2.out.more (by omega)) (Z_gt.out.more (by omega)) HGH.out  (by omega) (by omega)) ?_
    simp only [Act.put, nA, nB, nC]
    refine Seq.pure rfl rfl (by intro w; go_simp; try rfl) ?_
    simp only [Act.put, nA, nB, nC]
    refine Seq.pure (v := .agg (PW rz0 rz0 rz0 rz0 rz0 rz0)) rfl rfl (fun w => rfl) ?_
    simp only [Act.put, nA, nB, nC]
    refine Seq.pure (v := .int .i64 3) rfl rfl (fun w => rfl) ?_
    simp only [Act.put, nA, nB, nC]
    refine Seq.alloc rfl rfl rfl (z := .agg (PW rz0 rz0 rz0 rz0 rz0 rz0)) (by kernel_rfl) rfl ?_
    intro bk16 _ _ hbk16_r
    simp only [Act.put, nA, nB, nC]
    refine Seq.store rfl rfl rfl rfl rfl (by repeat (first | exact rS | refine rN (by assumption) ?_)) (n := 18) rfl rfl (by kernel_rfl) (PW_one _ _ _ _ _ _) ?_
    simp only [Act.put, nA, nB, nC]
    refine Seq.pure rfl rfl (by intro w; go_simp; try rfl) ?_
    simp only [Act.put, nA, nB, nC]
    refine Seq.done fun ws8 hws => ?_
    have HS8 := hws.list1 (p := bk16) (by repeat (first | exact rS | refine rN (by assumption) ?_))
    clear HS7 hws
    go_upto_region 9 with (fail)
    refine wp_seq_text [] (StR.no HS8) ?_
    iterate 3 (refine Seq.pure rfl rfl (by intro w; go_simp; try rfl) ?_; simp only [Act.put, nA, nB, nC])
    refine Seq.done fun ws9 hws => ?_
    have HS9 := hws.st
    clear HS8 hws
    go_upto_region 11 with (fail)
    refine wp_seq_text [] (StR.no HS9) ?_
    iterate 2 (refine Seq.pure rfl rfl (by intro w; go_simp; try rfl) ?_; simp only [Act.put, nA, nB, nC])
    refine Seq.done fun ws10 hws => ?_
    have HS10 := hws.st
    clear HS9 hws
    go_upto_region 16 with (fail)
    refine wp_seq_text [] (StR.no HS10) ?_
    refine Seq.load rfl rfl rfl rfl (by repeat (first | exact mC | apply mT)) (n := 18) rfl (by kernel_rfl) ?_
    simp only [Act.put, nA, nB, nC]
    refine Seq.load rfl rfl rfl rfl (by repeat (first | exact mC | apply mT)) (n := 10) rfl (by kernel_rfl) ?_
    simp only [Act.put, nA, nB, nC]
    refine Seq.load rfl rfl rfl rfl (by repeat (first | exact mC | apply mT)) (n := 10) rfl (by kernel_rfl) ?_
    simp only [Act.put, nA, nB, nC]
    refine Seq.call rfl rfl rfl rfl (by kernel_rfl) (carry_ghalf (k := k) HT.out Z_px.out Z_py.out Z_pt.out Z_g1.out Z_g2.out Z_gt.out Z_h1.out Z_h2.out Z_ht.out HGH.out hk0 (by omega)) ?_
    simp only [Act.put, nA, nB, nC]
    refine Seq.pure rfl rfl (by intro w; go_simp; try rfl) ?_
    simp only [Act.put, nA, nB, nC]
    refine Seq.pure (v := .agg (PW rz0 rz0 rz0 rz0 rz0 rz0)) rfl rfl (fun w => rfl) ?_
    simp only [Act.put, nA, nB, nC]
    refine Seq.pure (v := .int .i64 3) rfl rfl (fun w => rfl) ?_
    simp only [Act.put, nA, nB, nC]
    refine Seq.alloc rfl rfl rfl (z := .agg (PW rz0 rz0 rz0 rz0 rz0 rz0)) (by kernel_rfl) rfl ?_
    intro bk19 _ _ hbk19_r
    simp only [Act.put, nA, nB, nC]
    refine Seq.store rfl rfl rfl rfl rfl (by repeat (first | exact rS | refine rN (by assumption) ?_)) (n := 18) rfl rfl (by kernel_rfl) (PW_one _ _ _ _ _ _) ?_
    simp only [Act.put, nA, nB, nC]
    refine Seq.pure rfl rfl (by intro w; go_simp; try rfl) ?_
    simp only [Act.put, nA, nB, nC]
    refine Seq.done fun ws11 hws => ?_
    have HS11 := hws.list1 (p := bk19) (by repeat (first | exact rS | refine rN (by assumption) ?_))
    clear HS10 hws
    go_upto_region 17 with (fail)
    refine wp_seq_text [] (StR.no HS11) ?_
    iterate 2 (refine Seq.pure rfl rfl (by intro w; go_simp; try rfl) ?_; simp only [Act.put, nA, nB, nC])
    refine Seq.done fun ws12 hws => ?_
    have HS12 := hws.st
    clear HS11 hws
    go_upto_region 19 with (fail)
    refine wp_seq_text [] (StR.no HS12) ?_
    iterate 7 (refine Seq.pure rfl rfl (by intro w; go_simp; try rfl) ?_; simp only [Act.put, nA, nB, nC])
    iterate 3 (refine Seq.nw rfl ?_; simp only [Act.put, nA, nB, nC])
    iterate 3 (refine Seq.pure rfl rfl (by intro w; go_simp; try rfl) ?_; simp only [Act.put, nA, nB, nC])
    refine Seq.done fun ws13 hws => ?_
    have HS13 := hws.st
    clear HS12 hws
    go_wp2_with fail
    go_ret
    exact ⟨rfl, HS13.below⟩
  | false =>
    have HGH := Lib.hid hgh
    cases hokg : tOk (-gt) ptl pth with
    | true =>
      have HOKG := Lib.hid hokg
      obtain ⟨u0, hu0⟩ : ∃ z, gX0 pxl pxh pyl pyh g1 g2 gt = z := ⟨_, rfl⟩
      obtain ⟨u1, hu1⟩ : ∃ z, gX1 pxl pxh pyl pyh g1 g2 gt = z := ⟨_, rfl⟩
      obtain ⟨u2, hu2⟩ : ∃ z, gY0 pxl pxh pyl pyh g1 g2 gt = z := ⟨_, rfl⟩
      obtain ⟨u3, hu3⟩ : ∃ z, gY1 pxl pxh pyl pyh g1 g2 gt = z := ⟨_, rfl⟩
      obtain ⟨u4, hu4⟩ : ∃ z, tuQ (-gt) ptl = z := ⟨_, rfl⟩
      obtain ⟨u5, hu5⟩ : ∃ z, tuQ (-gt) pth = z := ⟨_, rfl⟩
      have HU := Lib.hid (show gX0 pxl pxh pyl pyh g1 g2 gt = u0 ∧ gX1 pxl pxh pyl pyh g1 g2 gt = u1 ∧ gY0 pxl pxh pyl pyh g1 g2 gt = u2 ∧ gY1 pxl pxh pyl pyh g1 g2 gt = u3 ∧ tuQ (-gt) ptl = u4 ∧ tuQ (-gt) pth = u5 from ⟨hu0, hu1, hu2, hu3, hu4, hu5⟩)
      have Z_u0 := Lib.hid (show Rz (48 * k + 60) u0 from (hu0 ▸ (g_rz (k := k) (Z_px.out.rz (by omega)).1 (Z_px.out.rz (by omega)).2 (Z_py.out.rz (by omega)).1 (Z_py.out.rz (by omega)).2 Z_g1.out.rz Z_g2.out.rz Z_gt.out.rz).1).more (by omega))
      have Z_u1 := Lib.hid (show Rz (48 * k + 60) u1 from (hu1 ▸ (g_rz (k := k) (Z_px.out.rz (by omega)).1 (Z_px.out.rz (by omega)).2 (Z_py.out.rz (by omega)).1 (Z_py.out.rz (by omega)).2 Z_g1.out.rz Z_g2.out.rz Z_gt.out.rz).2.1).more (by omega))
      have Z_u2 := Lib.hid (show Rz (48 * k + 60) u2 from (hu2 ▸ (g_rz (k := k) (Z_px.out.rz (by omega)).1 (Z_px.out.rz (by omega)).2 (Z_py.out.rz (by omega)).1 (Z_py.out.rz (by omega)).2 Z_g1.out.rz Z_g2.out.rz Z_gt.out.rz).2.2.1).more (by omega))
      have Z_u3 := Lib.hid (show Rz (48 * k + 60) u3 from (hu3 ▸ (g_rz (k := k) (Z_px.out.rz (by omega)).1 (Z_px.out.rz (by omega)).2 (Z_py.out.rz (by omega)).1 (Z_py.out.rz (by omega)).2 Z_g1.out.rz Z_g2.out.rz Z_gt.out.rz).2.2.2).more (by omega))
      have Z_u4 := Lib.hid (show Rz (48 * k + 60) u4 from (hu4 ▸ (tuQ_rz (k := k) Z_gt.out.rz.neg (Z_pt.out.rz (by omega)).1 (tOk_ne hokg).1)).more (by omega))
      have Z_u5 := Lib.hid (show Rz (48 * k + 60) u5 from (hu5 ▸ (tuQ_rz (k := k) Z_gt.out.rz.neg (Z_pt.out.rz (by omega)).2 (tOk_ne hokg).2)).more (by omega))
      have HLU := Lib.hid (show u0 ≤ u1 ∧ u2 ≤ u3 ∧ u4 ≤ u5 from ⟨by rw [← hu0, ← hu1]; exact (g_le _ _ _ _ _ _ _).1, by rw [← hu2, ← hu3]; exact (g_le _ _ _ _ _ _ _).2, by rw [← hu4, ← hu5]; exact tuQ_le hokg Z_pt.out.le⟩)
      clear hu0 hu1 hu2 hu3 hu4 hu5
      go_upto_region 2 with (fail)
      refine wp_seq_text [] (StR.no HS2) ?_
      refine Seq.load rfl rfl rfl rfl (by repeat (first | exact mC | apply mT)) (n := 18) rfl (by kernel_rfl) ?_
      simp only [Act.put, nA, nB, nC]
      refine Seq.load rfl rfl rfl rfl (by repeat (first | exact mC | apply mT)) (n := 10) rfl (by kernel_rfl) ?_
      simp only [Act.put, nA, nB, nC]
      refine Seq.call rfl rfl rfl rfl (by kernel_rfl) (gripOf_ok (k := (1 * k + 2)) (g1_t := g1_t) (g2_t := g2_t) (gt_t := gt_t) HT.out ((Z_px.out.rz (by omega)).1.more (by omega)) ((Z_px.out.rz (by omega)).2.more (by omega)) ((Z_py.out.rz (by omega)).1.more (by omega)) ((Z_py.out.rz (by omega)).2.more (by omega)) ((Z_pt.out.rz (by omega)).1.more (by omega)) ((Z_pt.out.rz (by omega)).2.more (by omega)) (Z_g1.out.more (by omega)) (Z_g2.out.more (by omega)) (Z_gt.out.more (by omega)) HGH.out HOKG.out HU.out.1 HU.out.2.1 HU.out.2.2.1 HU.out.2.2.2.1 HU.out.2.2.2.2.1 HU.out.2.2.2.2.2 (by omega) (by omega)) ?_
      simp only [Act.put, nA, nB, nC]
      refine Seq.pure rfl rfl (by intro w; go_simp; try rfl) ?_
      simp only [Act.put, nA, nB, nC]
      refine Seq.pure (v := .agg (PW (rt u0) (rt u1) (rt u2) (rt u3) (rt u4) (rt u5))) rfl rfl (fun w => rfl) ?_
      simp only [Act.put, nA, nB, nC]
      refine Seq.pure (v := .int .i64 0) rfl rfl (fun w => rfl) ?_
      simp only [Act.put, nA, nB, nC]
      refine Seq.alloc rfl rfl rfl (z := .agg (PW rz0 rz0 rz0 rz0 rz0 rz0)) (by kernel_rfl) rfl ?_
      intro bk8 _ _ hbk8_r
      simp only [Act.put, nA, nB, nC]
      refine Seq.store rfl rfl rfl rfl rfl (by repeat (first | exact rS | refine rN (by assumption) ?_)) (n := 18) rfl rfl (by kernel_rfl) (PW_one _ _ _ _ _ _) ?_
      simp only [Act.put, nA, nB, nC]
      refine Seq.pure rfl rfl (by intro w; go_simp; try rfl) ?_
      simp only [Act.put, nA, nB, nC]
      refine Seq.done fun ws3 hws => ?_
      have HS3 := hws.list1 (p := bk8) (by repeat (first | exact rS | refine rN (by assumption) ?_))
      clear HS2 hws
      cases hokp : tOk gt ptl pth with
      | true =>
        have HOKP := Lib.hid hokp
        obtain ⟨v0, hv0⟩ : ∃ z, pX0 pxl pxh pyl pyh g1 g2 gt = z := ⟨_, rfl⟩
        obtain ⟨v1, hv1⟩ : ∃ z, pX1 pxl pxh pyl pyh g1 g2 gt = z := ⟨_, rfl⟩
        obtain ⟨v2, hv2⟩ : ∃ z, pY0 pxl pxh pyl pyh g1 g2 gt = z := ⟨_, rfl⟩
        obtain ⟨v3, hv3⟩ : ∃ z, pY1 pxl pxh pyl pyh g1 g2 gt = z := ⟨_, rfl⟩
        obtain ⟨v4, hv4⟩ : ∃ z, tuQ gt ptl = z := ⟨_, rfl⟩
        obtain ⟨v5, hv5⟩ : ∃ z, tuQ gt pth = z := ⟨_, rfl⟩
        have HV := Lib.hid (show pX0 pxl pxh pyl pyh g1 g2 gt = v0 ∧ pX1 pxl pxh pyl pyh g1 g2 gt = v1 ∧ pY0 pxl pxh pyl pyh g1 g2 gt = v2 ∧ pY1 pxl pxh pyl pyh g1 g2 gt = v3 ∧ tuQ gt ptl = v4 ∧ tuQ gt pth = v5 from ⟨hv0, hv1, hv2, hv3, hv4, hv5⟩)
        have Z_v0 := Lib.hid (show Rz (74 * k + 90) v0 from (hv0 ▸ (p_rz (k := k) (Z_px.out.rz (by omega)).1 (Z_px.out.rz (by omega)).2 (Z_py.out.rz (by omega)).1 (Z_py.out.rz (by omega)).2 Z_g1.out.rz Z_g2.out.rz Z_gt.out.rz).1).more (by omega))
        have Z_v1 := Lib.hid (show Rz (74 * k + 90) v1 from (hv1 ▸ (p_rz (k := k) (Z_px.out.rz (by omega)).1 (Z_px.out.rz (by omega)).2 (Z_py.out.rz (by omega)).1 (Z_py.out.rz (by omega)).2 Z_g1.out.rz Z_g2.out.rz Z_gt.out.rz).2.1).more (by omega))
        have Z_v2 := Lib.hid (show Rz (74 * k + 90) v2 from (hv2 ▸ (p_rz (k := k) (Z_px.out.rz (by omega)).1 (Z_px.out.rz (by omega)).2 (Z_py.out.rz (by omega)).1 (Z_py.out.rz (by omega)).2 Z_g1.out.rz Z_g2.out.rz Z_gt.out.rz).2.2.1).more (by omega))
        have Z_v3 := Lib.hid (show Rz (74 * k + 90) v3 from (hv3 ▸ (p_rz (k := k) (Z_px.out.rz (by omega)).1 (Z_px.out.rz (by omega)).2 (Z_py.out.rz (by omega)).1 (Z_py.out.rz (by omega)).2 Z_g1.out.rz Z_g2.out.rz Z_gt.out.rz).2.2.2).more (by omega))
        have Z_v4 := Lib.hid (show Rz (74 * k + 90) v4 from (hv4 ▸ (tuQ_rz (k := k) Z_gt.out.rz (Z_pt.out.rz (by omega)).1 (tOk_ne hokp).1)).more (by omega))
        have Z_v5 := Lib.hid (show Rz (74 * k + 90) v5 from (hv5 ▸ (tuQ_rz (k := k) Z_gt.out.rz (Z_pt.out.rz (by omega)).2 (tOk_ne hokp).2)).more (by omega))
        have HLV := Lib.hid (show v0 ≤ v1 ∧ v2 ≤ v3 ∧ v4 ≤ v5 from ⟨by rw [← hv0, ← hv1]; exact (p_le _ _ _ _ _ _ _).1, by rw [← hv2, ← hv3]; exact (p_le _ _ _ _ _ _ _).2, by rw [← hv4, ← hv5]; exact tuQ_le hokp Z_pt.out.le⟩)
        clear hv0 hv1 hv2 hv3 hv4 hv5
        obtain ⟨b0, hb0⟩ : ∃ z, bX0 pxl ptl pth g1 g2 = z := ⟨_, rfl⟩
        obtain ⟨b1, hb1⟩ : ∃ z, bX1 pxh ptl pth g1 g2 = z := ⟨_, rfl⟩
        obtain ⟨b2, hb2⟩ : ∃ z, bY0 pyl ptl pth g1 g2 = z := ⟨_, rfl⟩
        obtain ⟨b3, hb3⟩ : ∃ z, bY1 pyh ptl pth g1 g2 = z := ⟨_, rfl⟩
        have HB := Lib.hid (show bX0 pxl ptl pth g1 g2 = b0 ∧ bX1 pxh ptl pth g1 g2 = b1 ∧ bY0 pyl ptl pth g1 g2 = b2 ∧ bY1 pyh ptl pth g1 g2 = b3 from ⟨hb0, hb1, hb2, hb3⟩)
        have Z_b0 := Lib.hid (show Rz (74 * k + 100) b0 from hb0 ▸ (b_rz (k := k) (Z_px.out.rz (by omega)).1 (Z_pt.out.rz (by omega)).1 (Z_pt.out.rz (by omega)).2 Z_g1.out.rz Z_g2.out.rz).1)
        have Z_b1 := Lib.hid (show Rz (74 * k + 100) b1 from hb1 ▸ (b_rz (k := k) (Z_px.out.rz (by omega)).2 (Z_pt.out.rz (by omega)).1 (Z_pt.out.rz (by omega)).2 Z_g1.out.rz Z_g2.out.rz).2.1)
        have Z_b2 := Lib.hid (show Rz (74 * k + 100) b2 from hb2 ▸ (b_rz (k := k) (Z_py.out.rz (by omega)).1 (Z_pt.out.rz (by omega)).1 (Z_pt.out.rz (by omega)).2 Z_g1.out.rz Z_g2.out.rz).2.2.1)
        have Z_b3 := Lib.hid (show Rz (74 * k + 100) b3 from hb3 ▸ (b_rz (k := k) (Z_py.out.rz (by omega)).2 (Z_pt.out.rz (by omega)).1 (Z_pt.out.rz (by omega)).2 Z_g1.out.rz Z_g2.out.rz).2.2.2)
        have HLB := Lib.hid (show b0 ≤ b1 ∧ b2 ≤ b3 from by rw [← hb0, ← hb1, ← hb2, ← hb3]; exact b_le Z_px.out.le Z_py.out.le Z_pt.out.le)
        clear hb0 hb1 hb2 hb3
        go_upto_region 3 with (fail)
        refine wp_seq_text [] (StR.no HS3) ?_
        refine Seq.load rfl rfl rfl rfl (by repeat (first | exact mC | apply mT)) (n := 18) rfl (by kernel_rfl) ?_
        simp only [Act.put, nA, nB, nC]
        refine Seq.load rfl rfl rfl rfl (by repeat (first | exact mC | apply mT)) (n := 10) rfl (by kernel_rfl) ?_
        simp only [Act.put, nA, nB, nC]
        refine Seq.call rfl rfl rfl rfl (by kernel_rfl) (putOf_ok (k := (1 * k + 2)) (g1_t := g1_t) (g2_t := g2_t) (gt_t := gt_t) HT.out ((Z_px.out.rz (by omega)).1.more (by omega)) ((Z_px.out.rz (by omega)).2.more (by omega)) ((Z_py.out.rz (by omega)).1.more (by omega)) ((Z_py.out.rz (by omega)).2.more (by omega)) ((Z_pt.out.rz (by omega)).1.more (by omega)) ((Z_pt.out.rz (by omega)).2.more (by omega)) (Z_g1.out.more (by omega)) (Z_g2.out.more (by omega)) (Z_gt.out.more (by omega)) HGH.out HOKP.out HV.out.1 HV.out.2.1 HV.out.2.2.1 HV.out.2.2.2.1 HV.out.2.2.2.2.1 HV.out.2.2.2.2.2 (by omega) (by omega)) ?_
        simp only [Act.put, nA, nB, nC]
        refine Seq.pure rfl rfl (by intro w; go_simp; try rfl) ?_
        simp only [Act.put, nA, nB, nC]
        refine Seq.pure (v := .agg (PW (rt v0) (rt v1) (rt v2) (rt v3) (rt v4) (rt v5))) rfl rfl (fun w => rfl) ?_
        simp only [Act.put, nA, nB, nC]
        refine Seq.pure (v := .int .i64 0) rfl rfl (fun w => rfl) ?_
        simp only [Act.put, nA, nB, nC]
        refine Seq.alloc rfl rfl rfl (z := .agg (PW rz0 rz0 rz0 rz0 rz0 rz0)) (by kernel_rfl) rfl ?_
        intro bk10 _ _ hbk10_r
        simp only [Act.put, nA, nB, nC]
        refine Seq.store rfl rfl rfl rfl rfl (by repeat (first | exact rS | refine rN (by assumption) ?_)) (n := 18) rfl rfl (by kernel_rfl) (PW_one _ _ _ _ _ _) ?_
        simp only [Act.put, nA, nB, nC]
        refine Seq.pure rfl rfl (by intro w; go_simp; try rfl) ?_
        simp only [Act.put, nA, nB, nC]
        refine Seq.done fun ws4 hws => ?_
        have HS4 := hws.list1 (p := bk10) (by repeat (first | exact rS | refine rN (by assumption) ?_))
        clear HS3 hws
        go_upto_region 4 with (fail)
        refine wp_seq_text [] (StR.no HS4) ?_
        refine Seq.load rfl rfl rfl rfl (by repeat (first | exact mC | apply mT)) (n := 18) rfl (by kernel_rfl) ?_
        simp only [Act.put, nA, nB, nC]
        refine Seq.load rfl rfl rfl rfl (by repeat (first | exact mC | apply mT)) (n := 10) rfl (by kernel_rfl) ?_
        simp only [Act.put, nA, nB, nC]
        refine Seq.call rfl rfl rfl rfl (by kernel_rfl) (grip_ok (k := (1 * k + 2)) (px1 := px1) (px2 := px2) (py1 := py1) (py2 := py2) (pt1 := pt1) (pt2 := pt2) (g1_t := g1_t) (g2_t := g2_t) (gt_t := gt_t) HT.out (Z_px.out.more (by omega)) (Z_py.out.more (by omega)) (Z_pt.out.more (by omega)) (Z_g1.out.more (by omega)) (Z_g2.out.more (by omega)) (Z_gt.out.more (by omega)) HGH.out HOKG.out HU.out.1 HU.out.2.1 HU.out.2.2.1 HU.out.2.2.2.1 HU.out.2.2.2.2.1 HU.out.2.2.2.2.2 (by omega) (by omega)) ?_
        simp only [Act.put, nA, nB, nC]
        refine Seq.pure rfl rfl (by intro w; go_simp; try rfl) ?_
        simp only [Act.put, nA, nB, nC]
        refine Seq.pure (v := .agg (PW (rt u0) (rt u1) (rt u2) (rt u3) (rt u4) (rt u5))) rfl rfl (fun w => rfl) ?_
        simp only [Act.put, nA, nB, nC]
        refine Seq.pure (v := .int .i64 0) rfl rfl (fun w => rfl) ?_
        simp only [Act.put, nA, nB, nC]
        refine Seq.alloc rfl rfl rfl (z := .agg (PW rz0 rz0 rz0 rz0 rz0 rz0)) (by kernel_rfl) rfl ?_
        intro bk12 _ _ hbk12_r
        simp only [Act.put, nA, nB, nC]
        refine Seq.store rfl rfl rfl rfl rfl (by repeat (first | exact rS | refine rN (by assumption) ?_)) (n := 18) rfl rfl (by kernel_rfl) (PW_one _ _ _ _ _ _) ?_
        simp only [Act.put, nA, nB, nC]
        refine Seq.pure rfl rfl (by intro w; go_simp; try rfl) ?_
        simp only [Act.put, nA, nB, nC]
        refine Seq.done fun ws5 hws => ?_
        have HS5 := hws.list1 (p := bk12) (by repeat (first | exact rS | refine rN (by assumption) ?_))
        clear HS4 hws
        go_upto_region 5 with (fail)
        refine wp_seq_text [] (StR.no HS5) ?_
        refine Seq.load rfl rfl rfl rfl (by repeat (first | exact mC | apply mT)) (n := 18) rfl (by kernel_rfl) ?_
        simp only [Act.put, nA, nB, nC]
        refine Seq.load rfl rfl rfl rfl (by repeat (first | exact mC | apply mT)) (n := 10) rfl (by kernel_rfl) ?_
        simp only [Act.put, nA, nB, nC]
        refine Seq.call rfl rfl rfl rfl (by kernel_rfl) (put_ok (k := (1 * k + 2)) (px1 := px1) (px2 := px2) (py1 := py1) (py2 := py2) (pt1 := pt1) (pt2 := pt2) (g1_t := g1_t) (g2_t := g2_t) (gt_t := gt_t) HT.out (Z_px.out.more (by omega)) (Z_py.out.more (by omega)) (Z_pt.out.more (by omega)) (Z_g1.out.more (by omega)) (Z_g2.out.more (by omega)) (Z_gt.out.more (by omega)) HGH.out HOKP.out HV.out.1 HV.out.2.1 HV.out.2.2.1 HV.out.2.2.2.1 HV.out.2.2.2.2.1 HV.out.2.2.2.2.2 (by omega) (by omega)) ?_
        simp only [Act.put, nA, nB, nC]
        refine Seq.pure rfl rfl (by intro w; go_simp; try rfl) ?_
        simp only [Act.put, nA, nB, nC]
        refine Seq.pure (v := .agg (PW (rt v0) (rt v1) (rt v2) (rt v3) (rt v4) (rt v5))) rfl rfl (fun w => rfl) ?_
        simp only [Act.put, nA, nB, nC]
        refine Seq.pure (v := .int .i64 0) rfl rfl (fun w => rfl) ?_
        simp only [Act.put, nA, nB, nC]
        refine Seq.alloc rfl rfl rfl (z := .agg (PW rz0 rz0 rz0 rz0 rz0 rz0)) (by kernel_rfl) rfl ?_
        intro bk14 _ _ hbk14_r
        simp only [Act.put, nA, nB, nC]
        refine Seq.store rfl rfl rfl rfl rfl (by repeat (first | exact rS | refine rN (by assumption) ?_)) (n := 18) rfl rfl (by kernel_rfl) (PW_one _ _ _ _ _ _) ?_
        simp only [Act.put, nA, nB, nC]
        refine Seq.pure rfl rfl (by intro w; go_simp; try rfl) ?_
        simp only [Act.put, nA, nB, nC]
        refine Seq.done fun ws6 hws => ?_
        have HS6 := hws.list1 (p := bk14) (by repeat (first | exact rS | refine rN (by assumption) ?_))
        clear HS5 hws
        go_upto_region 6 with (fail)
        refine wp_seq_text [] (StR.no HS6) ?_
        refine Seq.call rfl rfl rfl rfl (by kernel_rfl) (carried_q HT.out) ?_
        simp only [Act.put, nA, nB, nC]
        iterate 15 (refine Seq.pure rfl rfl (by intro w; go_simp; try rfl) ?_; simp only [Act.put, nA, nB, nC])
        refine Seq.load rfl rfl rfl rfl (by repeat (first | exact mC | apply mT)) (n := 18) rfl (by kernel_rfl) ?_
        simp only [Act.put, nA, nB, nC]
        refine Seq.load rfl rfl rfl rfl (by repeat (first | exact mC | apply mT)) (n := 18) rfl (by kernel_rfl) ?_
        simp only [Act.put, nA, nB, nC]
        refine Seq.call rfl rfl rfl rfl (by kernel_rfl) (same_e (k := (48 * k + 60)) HT.out (Z_u0.out.more (by omega)) (Z_u1.out.more (by omega)) (Z_u2.out.more (by omega)) (Z_u3.out.more (by omega)) (Z_u4.out.more (by omega)) (Z_u5.out.more (by omega)) (Z_u0.out.more (by omega)) (Z_u1.out.more (by omega)) (Z_u2.out.more (by omega)) (Z_u3.out.more (by omega)) (Z_u4.out.more (by omega)) (Z_u5.out.more (by omega)) HLU.out.1 HLU.out.2.1 HLU.out.2.2 ⟨rfl, rfl, rfl, rfl, rfl, rfl⟩  (by omega) (by omega)) ?_
        simp only [Act.put, nA, nB, nC]
        iterate 7 (refine Seq.pure rfl rfl (by intro w; go_simp; try rfl) ?_; simp only [Act.put, nA, nB, nC])
        refine Seq.load rfl rfl rfl rfl (by repeat (first | exact mC | apply mT)) (n := 18) rfl (by kernel_rfl) ?_
        simp only [Act.put, nA, nB, nC]
        refine Seq.load rfl rfl rfl rfl (by repeat (first | exact mC | apply mT)) (n := 18) rfl (by kernel_rfl) ?_
        simp only [Act.put, nA, nB, nC]
        refine Seq.call rfl rfl rfl rfl (by kernel_rfl) (same_e (k := (74 * k + 90)) HT.out (Z_v0.out.more (by omega)) (Z_v1.out.more (by omega)) (Z_v2.out.more (by omega)) (Z_v3.out.more (by omega)) (Z_v4.out.more (by omega)) (Z_v5.out.more (by omega)) (Z_v0.out.more (by omega)) (Z_v1.out.more (by omega)) (Z_v2.out.more (by omega)) (Z_v3.out.more (by omega)) (Z_v4.out.more (by omega)) (Z_v5.out.more (by omega)) HLV.out.1 HLV.out.2.1 HLV.out.2.2 ⟨rfl, rfl, rfl, rfl, rfl, rfl⟩  (by omega) (by omega)) ?_
        simp only [Act.put, nA, nB, nC]
        iterate 3 (refine Seq.pure rfl rfl (by intro w; go_simp; try rfl) ?_; simp only [Act.put, nA, nB, nC])
        refine Seq.done fun ws7 hws => ?_
        have HS7 := hws.st
        clear HS6 hws
        go_upto_region 8 with (fail)
        refine wp_seq_text [] (StR.no HS7) ?_
        refine Seq.load rfl rfl rfl rfl (by repeat (first | exact mC | apply mT)) (n := 18) rfl (by kernel_rfl) ?_
        simp only [Act.put, nA, nB, nC]
        refine Seq.load rfl rfl rfl rfl (by repeat (first | exact mC | apply mT)) (n := 10) rfl (by kernel_rfl) ?_
        simp only [Act.put, nA, nB, nC]
        refine Seq.call rfl rfl rfl rfl (by kernel_rfl) (grasp_ok (k := (1 * k + 2)) (px1 := px1) (px2 := px2) (py1 := py1) (py2 := py2) (pt1 := pt1) (pt2 := pt2) (g1_t := g1_t) (g2_t := g2_t) (gt_t := gt_t) HT.out (Z_px.out.more (by omega)) (Z_py.out.more (by omega)) (Z_pt.out.more (by omega)) (Z_g1.out.more (by omega)) (Z_g2.out.more (by omega)) (Z_gt.out.more (by omega)) HGH.out HOKP.out HB.out.1 HB.out.2.1 HB.out.2.2.1 HB.out.2.2.2 HV.out.2.2.2.2.1 HV.out.2.2.2.2.2 (by omega) (by omega)) ?_
        simp only [Act.put, nA, nB, nC]
        refine Seq.pure rfl rfl (by intro w; go_simp; try rfl) ?_
        simp only [Act.put, nA, nB, nC]
        refine Seq.pure (v := .agg (PW (rt b0) (rt b1) (rt b2) (rt b3) (rt v4) (rt v5))) rfl rfl (fun w => rfl) ?_
        simp only [Act.put, nA, nB, nC]
        refine Seq.pure (v := .int .i64 0) rfl rfl (fun w => rfl) ?_
        simp only [Act.put, nA, nB, nC]
        refine Seq.alloc rfl rfl rfl (z := .agg (PW rz0 rz0 rz0 rz0 rz0 rz0)) (by kernel_rfl) rfl ?_
        intro bk16 _ _ hbk16_r
        simp only [Act.put, nA, nB, nC]
        refine Seq.store rfl rfl rfl rfl rfl (by repeat (first | exact rS | refine rN (by assumption) ?_)) (n := 18) rfl rfl (by kernel_rfl) (PW_one _ _ _ _ _ _) ?_
        simp only [Act.put, nA, nB, nC]
        refine Seq.pure rfl rfl (by intro w; go_simp; try rfl) ?_
        simp only [Act.put, nA, nB, nC]
        refine Seq.done fun ws8 hws => ?_
        have HS8 := hws.list1 (p := bk16) (by repeat (first | exact rS | refine rN (by assumption) ?_))
        clear HS7 hws
        go_upto_region 9 with (fail)
        refine wp_seq_text [] (StR.no HS8) ?_
        iterate 3 (refine Seq.pure rfl rfl (by intro w; go_simp; try rfl) ?_; simp only [Act.put, nA, nB, nC])
        refine Seq.done fun ws9 hws => ?_
        have HS9 := hws.st
        clear HS8 hws
        go_upto_region 11 with (fail)
        refine wp_seq_text [] (StR.no HS9) ?_
        iterate 2 (refine Seq.pure rfl rfl (by intro w; go_simp; try rfl) ?_; simp only [Act.put, nA, nB, nC])
        refine Seq.done fun ws10 hws => ?_
        have HS10 := hws.st
        clear HS9 hws
        go_upto_region 12 with (fail)
        refine wp_seq_text [] (StR.no HS10) ?_
        refine Seq.load rfl rfl rfl rfl (by repeat (first | exact mC | apply mT)) (n := 18) rfl (by kernel_rfl) ?_
        simp only [Act.put, nA, nB, nC]
        refine Seq.pure rfl rfl (by intro w; go_simp; try rfl) ?_
        simp only [Act.put, nA, nB, nC]
        refine Seq.loadAt rfl rfl rfl rfl (by repeat (first | exact mC | apply mT)) (n := 6) (cs' := SW g1_t g2_t) (Nat.le_of_ble_eq_true rfl) (by kernel_rfl) rfl ?_
        simp only [Act.put, nA, nB, nC]
        refine Seq.call rfl rfl rfl rfl (by kernel_rfl) (pointOf_w (k := (1 * k + 2)) (v1_t := g1_t) (v2_t := g2_t) HT.out ((Z_px.out.rz (by omega)).1.more (by omega)) ((Z_px.out.rz (by omega)).2.more (by omega)) ((Z_py.out.rz (by omega)).1.more (by omega)) ((Z_py.out.rz (by omega)).2.more (by omega)) ((Z_pt.out.rz (by omega)).1.more (by omega)) ((Z_pt.out.rz (by omega)).2.more (by omega)) (Z_g1.out.more (by omega)) (Z_g2.out.more (by omega)) Z_pt.out.le HB.out.1 HB.out.2.1 HB.out.2.2.1 HB.out.2.2.2 (by omega) (by omega)) ?_
        simp only [Act.put, nA, nB, nC]
        refine Seq.alloc rfl rfl rfl (z := .agg (BW rz0 rz0 rz0 rz0)) (by kernel_rfl) rfl ?_
        intro bk18 _ _ hbk18_r
        simp only [Act.put, nA, nB, nC]
        refine Seq.store rfl rfl rfl rfl rfl (by repeat (first | exact rS | refine rN (by assumption) ?_)) (n := 12) rfl rfl (by kernel_rfl) (BC_one _ _ _ _) ?_
        simp only [Act.put, nA, nB, nC]
        refine Seq.done fun ws11 hws => ?_
        have HS11 := hws.list1 (p := bk18) (by repeat (first | exact rS | refine rN (by assumption) ?_))
        clear HS10 hws
        go_upto_region 13 with (fail)
        have HPbk10 := HS11.f4
        refine wp_seq [] (by kernel_rfl) (by kernel_rfl) (Reg.fin.put Reg.fin_no _ _) (StR.move (StR.no HPbk10)) ?_
        refine Seq.pure rfl rfl (by intro w; go_simp; try rfl) ?_
        simp only [Act.put, nA, nB, nC]
        refine Seq.loadAt rfl rfl rfl rfl (by repeat (first | exact mC | apply mT)) (n := 6) (cs' := VC b0 b1) (Nat.le_of_ble_eq_true rfl) (by kernel_rfl) rfl ?_
        simp only [Act.put, nA, nB, nC]
        refine Seq.pure rfl rfl (by intro w; go_simp; try rfl) ?_
        simp only [Act.put, nA, nB, nC]
        refine Seq.loadAt rfl rfl rfl rfl (by repeat (first | exact mC | apply mT)) (n := 6) (cs' := VC b2 b3) (Nat.le_of_ble_eq_true rfl) (by kernel_rfl) rfl ?_
        simp only [Act.put, nA, nB, nC]
        refine Seq.pure rfl rfl (by intro w; go_simp; try rfl) ?_
        simp only [Act.put, nA, nB, nC]
        refine Seq.storeAt (v := .agg (VC b0 b1)) rfl rfl rfl rfl rfl (by repeat (first | exact rS | refine rN (by assumption) ?_)) (Nat.le_of_ble_eq_true rfl) (by show _ = some 6; kernel_rfl) (VC_one _ _) (cs' := PW (rt b0) (rt b1) (rt v2) (rt v3) (rt v4) (rt v5)) rfl ?_
        simp only [Act.put, nA, nB, nC]
        refine Seq.pure rfl rfl (by intro w; go_simp; try rfl) ?_
        simp only [Act.put, nA, nB, nC]
        refine Seq.storeAt (v := .agg (VC b2 b3)) rfl rfl rfl rfl rfl (by repeat (first | exact rS | refine rN (by assumption) ?_)) (Nat.le_of_ble_eq_true rfl) (by show _ = some 6; kernel_rfl) (VC_one _ _) (cs' := PW (rt b0) (rt b1) (rt b2) (rt b3) (rt v4) (rt v5)) rfl ?_
        simp only [Act.put, nA, nB, nC]
        refine Seq.done fun ws12 hws => ?_
        have HS12 := hws.list1 (p := bk10) (by repeat (first | exact rS | refine rN (by assumption) ?_))
        clear HS11 hws HPbk10
        go_upto_region 14 with (fail)
        refine wp_seq_text [] (StR.no HS12) ?_
        refine Seq.load rfl rfl rfl rfl (by repeat (first | exact mC | apply mT)) (n := 18) rfl (by kernel_rfl) ?_
        simp only [Act.put, nA, nB, nC]
        refine Seq.load rfl rfl rfl rfl (by repeat (first | exact mC | apply mT)) (n := 18) rfl (by kernel_rfl) ?_
        simp only [Act.put, nA, nB, nC]
        refine Seq.call rfl rfl rfl rfl (by kernel_rfl) (same_e (k := (74 * k + 100)) HT.out (Z_b0.out.more (by omega)) (Z_b1.out.more (by omega)) (Z_b2.out.more (by omega)) (Z_b3.out.more (by omega)) (Z_v4.out.more (by omega)) (Z_v5.out.more (by omega)) (Z_b0.out.more (by omega)) (Z_b1.out.more (by omega)) (Z_b2.out.more (by omega)) (Z_b3.out.more (by omega)) (Z_v4.out.more (by omega)) (Z_v5.out.more (by omega)) HLB.out.1 HLB.out.2 HLV.out.2.2 ⟨rfl, rfl, rfl, rfl, rfl, rfl⟩  (by omega) (by omega)) ?_
        simp only [Act.put, nA, nB, nC]
        refine Seq.pure rfl rfl (by intro w; go_simp; try rfl) ?_
        simp only [Act.put, nA, nB, nC]
        refine Seq.done fun ws13 hws => ?_
        have HS13 := hws.st
        clear HS12 hws
        cases hhh : hh with
        | true =>
          have HHH := Lib.hid hhh
          go_upto_region 16 with (fail)
          refine wp_seq_text [] (StR.no HS13) ?_
          refine Seq.load rfl rfl rfl rfl (by repeat (first | exact mC | apply mT)) (n := 18) rfl (by kernel_rfl) ?_
          simp only [Act.put, nA, nB, nC]
          refine Seq.load rfl rfl rfl rfl (by repeat (first | exact mC | apply mT)) (n := 10) rfl (by kernel_rfl) ?_
          simp only [Act.put, nA, nB, nC]
          refine Seq.load rfl rfl rfl rfl (by repeat (first | exact mC | apply mT)) (n := 10) rfl (by kernel_rfl) ?_
          simp only [Act.put, nA, nB, nC]
          refine Seq.call rfl rfl rfl rfl (by kernel_rfl) (carry_phalf (k := k) HT.out Z_px.out Z_py.out Z_pt.out Z_g1.out Z_g2.out Z_gt.out Z_h1.out Z_h2.out Z_ht.out Z_u0.out Z_u1.out Z_u2.out Z_u3.out Z_u4.out Z_u5.out HLU.out HGH.out HOKG.out HU.out HHH.out hk0 (by omega)) ?_
          simp only [Act.put, nA, nB, nC]
          refine Seq.pure rfl rfl (by intro w; go_simp; try rfl) ?_
          simp only [Act.put, nA, nB, nC]
          refine Seq.pure (v := .agg (PW rz0 rz0 rz0 rz0 rz0 rz0)) rfl rfl (fun w => rfl) ?_
          simp only [Act.put, nA, nB, nC]
          refine Seq.pure (v := .int .i64 3) rfl rfl (fun w => rfl) ?_
          simp only [Act.put, nA, nB, nC]
          refine Seq.alloc rfl rfl rfl (z := .agg (PW rz0 rz0 rz0 rz0 rz0 rz0)) (by kernel_rfl) rfl ?_
          intro bk19 _ _ hbk19_r
          simp only [Act.put, nA, nB, nC]
          refine Seq.store rfl rfl rfl rfl rfl (by repeat (first | exact rS | refine rN (by assumption) ?_)) (n := 18) rfl rfl (by kernel_rfl) (PW_one _ _ _ _ _ _) ?_
          simp only [Act.put, nA, nB, nC]
          refine Seq.pure rfl rfl (by intro w; go_simp; try rfl) ?_
          simp only [Act.put, nA, nB, nC]
          refine Seq.done fun ws14 hws => ?_
          have HS14 := hws.list1 (p := bk19) (by repeat (first | exact rS | refine rN (by assumption) ?_))
          clear HS13 hws
          go_upto_region 17 with (fail)
          refine wp_seq_text [] (StR.no HS14) ?_
          iterate 2 (refine Seq.pure rfl rfl (by intro w; go_simp; try rfl) ?_; simp only [Act.put, nA, nB, nC])
          refine Seq.done fun ws15 hws => ?_
          have HS15 := hws.st
          clear HS14 hws
          go_upto_region 18 with (fail)
          have HPbk8 := HS15.f6
          refine wp_seq_text [0] (StR.move (StR.no HPbk8)) ?_
          refine Seq.get rfl rfl rfl rfl (by repeat (first | exact rS | refine rN (by assumption) ?_)) (n := 18) rfl (by kernel_rfl) ?_
          simp only [Act.put, nA, nB, nC]
          refine Seq.load rfl rfl rfl rfl (by repeat (first | exact mC | apply mT)) (n := 10) rfl (by kernel_rfl) ?_
          simp only [Act.put, nA, nB, nC]
          refine Seq.call rfl rfl rfl rfl (by kernel_rfl) (putOf_half (k := (48 * k + 60)) (g1_t := h1_t) (g2_t := h2_t) (gt_t := ht_t) HT.out (Z_u0.out.more (by omega)) (Z_u1.out.more (by omega)) (Z_u2.out.more (by omega)) (Z_u3.out.more (by omega)) (Z_u4.out.more (by omega)) (Z_u5.out.more (by omega)) (Z_h1.out.more (by omega)) (Z_h2.out.more (by omega)) (Z_ht.out.more (by omega)) HHH.out  (by omega) (by omega)) ?_
          simp only [Act.put, nA, nB, nC]
          refine Seq.pure rfl rfl (by intro w; go_simp; try rfl) ?_
          simp only [Act.put, nA, nB, nC]
          refine Seq.pure (v := .agg (PW rz0 rz0 rz0 rz0 rz0 rz0)) rfl rfl (fun w => rfl) ?_
          simp only [Act.put, nA, nB, nC]
          refine Seq.pure (v := .int .i64 3) rfl rfl (fun w => rfl) ?_
          simp only [Act.put, nA, nB, nC]
          refine Seq.store rfl rfl rfl rfl rfl (by repeat (first | exact rS | refine rN (by assumption) ?_)) (n := 18) rfl rfl (by kernel_rfl) (PW_one _ _ _ _ _ _) ?_
          simp only [Act.put, nA, nB, nC]
          refine Seq.pure rfl rfl (by intro w; go_simp; try rfl) ?_
          simp only [Act.put, nA, nB, nC]
          refine Seq.done fun ws16 hws => ?_
          have HS16 := hws.list1 (p := bk8) (by repeat (first | exact rS | refine rN (by assumption) ?_))
          clear HS15 hws HPbk8
          go_upto_region 19 with (fail)
          refine wp_seq_text [] (StR.no HS16) ?_
          iterate 7 (refine Seq.pure rfl rfl (by intro w; go_simp; try rfl) ?_; simp only [Act.put, nA, nB, nC])
          iterate 3 (refine Seq.nw rfl ?_; simp only [Act.put, nA, nB, nC])
          iterate 3 (refine Seq.pure rfl rfl (by intro w; go_simp; try rfl) ?_; simp only [Act.put, nA, nB, nC])
          refine Seq.done fun ws17 hws => ?_
          have HS17 := hws.st
          clear HS16 hws
          go_wp2_with fail
          go_ret
          exact ⟨rfl, HS17.below⟩
        | false =>
          have HHH := Lib.hid hhh
          cases hokh : tOk ht u4 u5 with
          | true =>
            have HOKH := Lib.hid hokh
            obtain ⟨w0, hw0⟩ : ∃ z, pX0 u0 u1 u2 u3 h1 h2 ht = z := ⟨_, rfl⟩
            obtain ⟨w1, hw1⟩ : ∃ z, pX1 u0 u1 u2 u3 h1 h2 ht = z := ⟨_, rfl⟩
            obtain ⟨w2, hw2⟩ : ∃ z, pY0 u0 u1 u2 u3 h1 h2 ht = z := ⟨_, rfl⟩
            obtain ⟨w3, hw3⟩ : ∃ z, pY1 u0 u1 u2 u3 h1 h2 ht = z := ⟨_, rfl⟩
            obtain ⟨w4, hw4⟩ : ∃ z, tuQ ht u4 = z := ⟨_, rfl⟩
            obtain ⟨w5, hw5⟩ : ∃ z, tuQ ht u5 = z := ⟨_, rfl⟩
            have HW := Lib.hid (show pX0 u0 u1 u2 u3 h1 h2 ht = w0 ∧ pX1 u0 u1 u2 u3 h1 h2 ht = w1 ∧ pY0 u0 u1 u2 u3 h1 h2 ht = w2 ∧ pY1 u0 u1 u2 u3 h1 h2 ht = w3 ∧ tuQ ht u4 = w4 ∧ tuQ ht u5 = w5 from ⟨hw0, hw1, hw2, hw3, hw4, hw5⟩)
            have Z_w0 := Lib.hid (show Rz (3552 * k + 4530) w0 from (hw0 ▸ (p_rz (k := 48 * k + 60) (Rz.more (l := 48 * k + 60) Z_u0.out (by omega)) (Rz.more (l := 48 * k + 60) Z_u1.out (by omega)) (Rz.more (l := 48 * k + 60) Z_u2.out (by omega)) (Rz.more (l := 48 * k + 60) Z_u3.out (by omega)) (Rz.more (l := 48 * k + 60) Z_h1.out.rz (by omega)) (Rz.more (l := 48 * k + 60) Z_h2.out.rz (by omega)) (Rz.more (l := 48 * k + 60) Z_ht.out.rz (by omega))).1).more (by omega))
            have Z_w1 := Lib.hid (show Rz (3552 * k + 4530) w1 from (hw1 ▸ (p_rz (k := 48 * k + 60) (Rz.more (l := 48 * k + 60) Z_u0.out (by omega)) (Rz.more (l := 48 * k + 60) Z_u1.out (by omega)) (Rz.more (l := 48 * k + 60) Z_u2.out (by omega)) (Rz.more (l := 48 * k + 60) Z_u3.out (by omega)) (Rz.more (l := 48 * k + 60) Z_h1.out.rz (by omega)) (Rz.more (l := 48 * k + 60) Z_h2.out.rz (by omega)) (Rz.more (l := 48 * k + 60) Z_ht.out.rz (by omega))).2.1).more (by omega))
            have Z_w2 := Lib.hid (show Rz (3552 * k + 4530) w2 from (hw2 ▸ (p_rz (k := 48 * k + 60) (Rz.more (l := 48 * k + 60) Z_u0.out (by omega)) (Rz.more (l := 48 * k + 60) Z_u1.out (by omega)) (Rz.more (l := 48 * k + 60) Z_u2.out (by omega)) (Rz.more (l := 48 * k + 60) Z_u3.out (by omega)) (Rz.more (l := 48 * k + 60) Z_h1.out.rz (by omega)) (Rz.more (l := 48 * k + 60) Z_h2.out.rz (by omega)) (Rz.more (l := 48 * k + 60) Z_ht.out.rz (by omega))).2.2.1).more (by omega))
            have Z_w3 := Lib.hid (show Rz (3552 * k + 4530) w3 from (hw3 ▸ (p_rz (k := 48 * k + 60) (Rz.more (l := 48 * k + 60) Z_u0.out (by omega)) (Rz.more (l := 48 * k + 60) Z_u1.out (by omega)) (Rz.more (l := 48 * k + 60) Z_u2.out (by omega)) (Rz.more (l := 48 * k + 60) Z_u3.out (by omega)) (Rz.more (l := 48 * k + 60) Z_h1.out.rz (by omega)) (Rz.more (l := 48 * k + 60) Z_h2.out.rz (by omega)) (Rz.more (l := 48 * k + 60) Z_ht.out.rz (by omega))).2.2.2).more (by omega))
            have Z_w4 := Lib.hid (show Rz (3552 * k + 4530) w4 from (hw4 ▸ (tuQ_rz (k := 48 * k + 60) (Rz.more (l := 48 * k + 60) Z_ht.out.rz (by omega)) (Rz.more (l := 48 * k + 60) Z_u4.out (by omega)) (tOk_ne hokh).1)).more (by omega))
            have Z_w5 := Lib.hid (show Rz (3552 * k + 4530) w5 from (hw5 ▸ (tuQ_rz (k := 48 * k + 60) (Rz.more (l := 48 * k + 60) Z_ht.out.rz (by omega)) (Rz.more (l := 48 * k + 60) Z_u5.out (by omega)) (tOk_ne hokh).2)).more (by omega))
            have HLW := Lib.hid (show w0 ≤ w1 ∧ w2 ≤ w3 ∧ w4 ≤ w5 from ⟨by rw [← hw0, ← hw1]; exact (p_le _ _ _ _ _ _ _).1, by rw [← hw2, ← hw3]; exact (p_le _ _ _ _ _ _ _).2, by rw [← hw4, ← hw5]; exact tuQ_le hokh HLU.out.2.2⟩)
            clear hw0 hw1 hw2 hw3 hw4 hw5
            go_upto_region 16 with (fail)
            refine wp_seq_text [] (StR.no HS13) ?_
            refine Seq.load rfl rfl rfl rfl (by repeat (first | exact mC | apply mT)) (n := 18) rfl (by kernel_rfl) ?_
            simp only [Act.put, nA, nB, nC]
            refine Seq.load rfl rfl rfl rfl (by repeat (first | exact mC | apply mT)) (n := 10) rfl (by kernel_rfl) ?_
            simp only [Act.put, nA, nB, nC]
            refine Seq.load rfl rfl rfl rfl (by repeat (first | exact mC | apply mT)) (n := 10) rfl (by kernel_rfl) ?_
            simp only [Act.put, nA, nB, nC]
            refine Seq.call rfl rfl rfl rfl (by kernel_rfl) (carry_ok (k := k) HT.out Z_px.out Z_py.out Z_pt.out Z_g1.out Z_g2.out Z_gt.out Z_h1.out Z_h2.out Z_ht.out Z_u0.out Z_u1.out Z_u2.out Z_u3.out Z_u4.out Z_u5.out HLU.out Z_w0.out Z_w1.out Z_w2.out Z_w3.out Z_w4.out Z_w5.out HGH.out HOKG.out HU.out HHH.out HOKH.out HW.out hk0 (by omega)) ?_
            simp only [Act.put, nA, nB, nC]
            refine Seq.pure rfl rfl (by intro w; go_simp; try rfl) ?_
            simp only [Act.put, nA, nB, nC]
            refine Seq.pure (v := .agg (PW (rt w0) (rt w1) (rt w2) (rt w3) (rt w4) (rt w5))) rfl rfl (fun w => rfl) ?_
            simp only [Act.put, nA, nB, nC]
            refine Seq.pure (v := .int .i64 0) rfl rfl (fun w => rfl) ?_
            simp only [Act.put, nA, nB, nC]
            refine Seq.alloc rfl rfl rfl (z := .agg (PW rz0 rz0 rz0 rz0 rz0 rz0)) (by kernel_rfl) rfl ?_
            intro bk19 _ _ hbk19_r
            simp only [Act.put, nA, nB, nC]
            refine Seq.store rfl rfl rfl rfl rfl (by repeat (first | exact rS | refine rN (by assumption) ?_)) (n := 18) rfl rfl (by kernel_rfl) (PW_one _ _ _ _ _ _) ?_
            simp only [Act.put, nA, nB, nC]
            refine Seq.pure rfl rfl (by intro w; go_simp; try rfl) ?_
            simp only [Act.put, nA, nB, nC]
            refine Seq.done fun ws14 hws => ?_
            have HS14 := hws.list1 (p := bk19) (by repeat (first | exact rS | refine rN (by assumption) ?_))
            clear HS13 hws
            go_upto_region 17 with (fail)
            refine wp_seq_text [] (StR.no HS14) ?_
            iterate 2 (refine Seq.pure rfl rfl (by intro w; go_simp; try rfl) ?_; simp only [Act.put, nA, nB, nC])
            refine Seq.done fun ws15 hws => ?_
            have HS15 := hws.st
            clear HS14 hws
            go_upto_region 18 with (fail)
            have HPbk8 := HS15.f6
            refine wp_seq_text [0] (StR.move (StR.no HPbk8)) ?_
            refine Seq.get rfl rfl rfl rfl (by repeat (first | exact rS | refine rN (by assumption) ?_)) (n := 18) rfl (by kernel_rfl) ?_
            simp only [Act.put, nA, nB, nC]
            refine Seq.load rfl rfl rfl rfl (by repeat (first | exact mC | apply mT)) (n := 10) rfl (by kernel_rfl) ?_
            simp only [Act.put, nA, nB, nC]
            refine Seq.call rfl rfl rfl rfl (by kernel_rfl) (putOf_ok (k := (48 * k + 60)) (g1_t := h1_t) (g2_t := h2_t) (gt_t := ht_t) HT.out (Z_u0.out.more (by omega)) (Z_u1.out.more (by omega)) (Z_u2.out.more (by omega)) (Z_u3.out.more (by omega)) (Z_u4.out.more (by omega)) (Z_u5.out.more (by omega)) (Z_h1.out.more (by omega)) (Z_h2.out.more (by omega)) (Z_ht.out.more (by omega)) HHH.out HOKH.out HW.out.1 HW.out.2.1 HW.out.2.2.1 HW.out.2.2.2.1 HW.out.2.2.2.2.1 HW.out.2.2.2.2.2 (by omega) (by omega)) ?_
            simp only [Act.put, nA, nB, nC]
            refine Seq.pure rfl rfl (by intro w; go_simp; try rfl) ?_
            simp only [Act.put, nA, nB, nC]
            refine Seq.pure (v := .agg (PW (rt w0) (rt w1) (rt w2) (rt w3) (rt w4) (rt w5))) rfl rfl (fun w => rfl) ?_
            simp only [Act.put, nA, nB, nC]
            refine Seq.pure (v := .int .i64 0) rfl rfl (fun w => rfl) ?_
            simp only [Act.put, nA, nB, nC]
            refine Seq.store rfl rfl rfl rfl rfl (by repeat (first | exact rS | refine rN (by assumption) ?_)) (n := 18) rfl rfl (by kernel_rfl) (PW_one _ _ _ _ _ _) ?_
            simp only [Act.put, nA, nB, nC]
            refine Seq.pure rfl rfl (by intro w; go_simp; try rfl) ?_
            simp only [Act.put, nA, nB, nC]
            refine Seq.done fun ws16 hws => ?_
            have HS16 := hws.list1 (p := bk8) (by repeat (first | exact rS | refine rN (by assumption) ?_))
            clear HS15 hws HPbk8
            go_upto_region 19 with (fail)
            refine wp_seq_text [] (StR.no HS16) ?_
            iterate 7 (refine Seq.pure rfl rfl (by intro w; go_simp; try rfl) ?_; simp only [Act.put, nA, nB, nC])
            refine Seq.load rfl rfl rfl rfl (by repeat (first | exact mC | apply mT)) (n := 18) rfl (by kernel_rfl) ?_
            simp only [Act.put, nA, nB, nC]
            refine Seq.load rfl rfl rfl rfl (by repeat (first | exact mC | apply mT)) (n := 18) rfl (by kernel_rfl) ?_
            simp only [Act.put, nA, nB, nC]
            refine Seq.call rfl rfl rfl rfl (by kernel_rfl) (same_e (k := (3552 * k + 4530)) HT.out (Z_w0.out.more (by omega)) (Z_w1.out.more (by omega)) (Z_w2.out.more (by omega)) (Z_w3.out.more (by omega)) (Z_w4.out.more (by omega)) (Z_w5.out.more (by omega)) (Z_w0.out.more (by omega)) (Z_w1.out.more (by omega)) (Z_w2.out.more (by omega)) (Z_w3.out.more (by omega)) (Z_w4.out.more (by omega)) (Z_w5.out.more (by omega)) HLW.out.1 HLW.out.2.1 HLW.out.2.2 ⟨rfl, rfl, rfl, rfl, rfl, rfl⟩  (by omega) (by omega)) ?_
            simp only [Act.put, nA, nB, nC]
            iterate 3 (refine Seq.pure rfl rfl (by intro w; go_simp; try rfl) ?_; simp only [Act.put, nA, nB, nC])
            refine Seq.done fun ws17 hws => ?_
            have HS17 := hws.st
            clear HS16 hws
            go_wp2_with fail
            go_ret
            exact ⟨rfl, HS17.below⟩
          | false =>
            have HOKH := Lib.hid hokh
            go_upto_region 16 with (fail)
            refine wp_seq_text [] (StR.no HS13) ?_
            refine Seq.load rfl rfl rfl rfl (by repeat (first | exact mC | apply mT)) (n := 18) rfl (by kernel_rfl) ?_
            simp only [Act.put, nA, nB, nC]
            refine Seq.load rfl rfl rfl rfl (by repeat (first | exact mC | apply mT)) (n := 10) rfl (by kernel_rfl) ?_
            simp only [Act.put, nA, nB, nC]
            refine Seq.load rfl rfl rfl rfl (by repeat (first | exact mC | apply mT)) (n := 10) rfl (by kernel_rfl) ?_
            simp only [Act.put, nA, nB, nC]
            refine Seq.call rfl rfl rfl rfl (by kernel_rfl) (carry_pno (k := k) HT.out Z_px.out Z_py.out Z_pt.out Z_g1.out Z_g2.out Z_gt.out Z_h1.out Z_h2.out Z_ht.out Z_u0.out Z_u1.out Z_u2.out Z_u3.out Z_u4.out Z_u5.out HLU.out HGH.out HOKG.out HU.out HHH.out HOKH.out hk0 (by omega)) ?_
            simp only [Act.put, nA, nB, nC]
            refine Seq.pure rfl rfl (by intro w; go_simp; try rfl) ?_
            simp only [Act.put, nA, nB, nC]
            refine Seq.pure (v := .agg (PW rz0 rz0 rz0 rz0 rz0 rz0)) rfl rfl (fun w => rfl) ?_
            simp only [Act.put, nA, nB, nC]
            refine Seq.pure (v := .int .i64 18) rfl rfl (fun w => rfl) ?_
            simp only [Act.put, nA, nB, nC]
            refine Seq.alloc rfl rfl rfl (z := .agg (PW rz0 rz0 rz0 rz0 rz0 rz0)) (by kernel_rfl) rfl ?_
            intro bk19 _ _ hbk19_r
            simp only [Act.put, nA, nB, nC]
            refine Seq.store rfl rfl rfl rfl rfl (by repeat (first | exact rS | refine rN (by assumption) ?_)) (n := 18) rfl rfl (by kernel_rfl) (PW_one _ _ _ _ _ _) ?_
            simp only [Act.put, nA, nB, nC]
            refine Seq.pure rfl rfl (by intro w; go_simp; try rfl) ?_
            simp only [Act.put, nA, nB, nC]
            refine Seq.done fun ws14 hws => ?_
            have HS14 := hws.list1 (p := bk19) (by repeat (first | exact rS | refine rN (by assumption) ?_))
            clear HS13 hws
            go_upto_region 17 with (fail)
            refine wp_seq_text [] (StR.no HS14) ?_
            iterate 2 (refine Seq.pure rfl rfl (by intro w; go_simp; try rfl) ?_; simp only [Act.put, nA, nB, nC])
            refine Seq.done fun ws15 hws => ?_
            have HS15 := hws.st
            clear HS14 hws
            go_upto_region 18 with (fail)
            have HPbk8 := HS15.f6
            refine wp_seq_text [0] (StR.move (StR.no HPbk8)) ?_
            refine Seq.get rfl rfl rfl rfl (by repeat (first | exact rS | refine rN (by assumption) ?_)) (n := 18) rfl (by kernel_rfl) ?_
            simp only [Act.put, nA, nB, nC]
            refine Seq.load rfl rfl rfl rfl (by repeat (first | exact mC | apply mT)) (n := 10) rfl (by kernel_rfl) ?_
            simp only [Act.put, nA, nB, nC]
            refine Seq.call rfl rfl rfl rfl (by kernel_rfl) (putOf_no (k := (48 * k + 60)) (g1_t := h1_t) (g2_t := h2_t) (gt_t := ht_t) HT.out (Z_u0.out.more (by omega)) (Z_u1.out.more (by omega)) (Z_u2.out.more (by omega)) (Z_u3.out.more (by omega)) (Z_u4.out.more (by omega)) (Z_u5.out.more (by omega)) (Z_h1.out.more (by omega)) (Z_h2.out.more (by omega)) (Z_ht.out.more (by omega)) HHH.out HOKH.out  (by omega) (by omega)) ?_
            simp only [Act.put, nA, nB, nC]
            refine Seq.pure rfl rfl (by intro w; go_simp; try rfl) ?_
            simp only [Act.put, nA, nB, nC]
            refine Seq.pure (v := .agg (PW rz0 rz0 rz0 rz0 rz0 rz0)) rfl rfl (fun w => rfl) ?_
            simp only [Act.put, nA, nB, nC]
            refine Seq.pure (v := .int .i64 18) rfl rfl (fun w => rfl) ?_
            simp only [Act.put, nA, nB, nC]
            refine Seq.store rfl rfl rfl rfl rfl (by repeat (first | exact rS | refine rN (by assumption) ?_)) (n := 18) rfl rfl (by kernel_rfl) (PW_one _ _ _ _ _ _) ?_
            simp only [Act.put, nA, nB, nC]
            refine Seq.pure rfl rfl (by intro w; go_simp; try rfl) ?_
            simp only [Act.put, nA, nB, nC]
            refine Seq.done fun ws16 hws => ?_
            have HS16 := hws.list1 (p := bk8) (by repeat (first | exact rS | refine rN (by assumption) ?_))
            clear HS15 hws HPbk8
            go_upto_region 19 with (fail)
            refine wp_seq_text [] (StR.no HS16) ?_
            iterate 7 (refine Seq.pure rfl rfl (by intro w; go_simp; try rfl) ?_; simp only [Act.put, nA, nB, nC])
            iterate 3 (refine Seq.nw rfl ?_; simp only [Act.put, nA, nB, nC])
            iterate 3 (refine Seq.pure rfl rfl (by intro w; go_simp; try rfl) ?_; simp only [Act.put, nA, nB, nC])
            refine Seq.done fun ws17 hws => ?_
            have HS17 := hws.st
            clear HS16 hws
            go_wp2_with fail
            go_ret
            exact ⟨rfl, HS17.below⟩
      | false =>
        have HOKP := Lib.hid hokp
        go_upto_region 3 with (fail)
        refine wp_seq_text [] (StR.no HS3) ?_
        refine Seq.load rfl rfl rfl rfl (by repeat (first | exact mC | apply mT)) (n := 18) rfl (by kernel_rfl) ?_
        simp only [Act.put, nA, nB, nC]
        refine Seq.load rfl rfl rfl rfl (by repeat (first | exact mC | apply mT)) (n := 10) rfl (by kernel_rfl) ?_
        simp only [Act.put, nA, nB, nC]
        refine Seq.call rfl rfl rfl rfl (by kernel_rfl) (putOf_no (k := (1 * k + 2)) (g1_t := g1_t) (g2_t := g2_t) (gt_t := gt_t) HT.out ((Z_px.out.rz (by omega)).1.more (by omega)) ((Z_px.out.rz (by omega)).2.more (by omega)) ((Z_py.out.rz (by omega)).1.more (by omega)) ((Z_py.out.rz (by omega)).2.more (by omega)) ((Z_pt.out.rz (by omega)).1.more (by omega)) ((Z_pt.out.rz (by omega)).2.more (by omega)) (Z_g1.out.more (by omega)) (Z_g2.out.more (by omega)) (Z_gt.out.more (by omega)) HGH.out HOKP.out  (by omega) (by omega)) ?_
        simp only [Act.put, nA, nB, nC]
        refine Seq.pure rfl rfl (by intro w; go_simp; try rfl) ?_
        simp only [Act.put, nA, nB, nC]
        refine Seq.pure (v := .agg (PW rz0 rz0 rz0 rz0 rz0 rz0)) rfl rfl (fun w => rfl) ?_
        simp only [Act.put, nA, nB, nC]
        refine Seq.pure (v := .int .i64 18) rfl rfl (fun w => rfl) ?_
        simp only [Act.put, nA, nB, nC]
        refine Seq.alloc rfl rfl rfl (z := .agg (PW rz0 rz0 rz0 rz0 rz0 rz0)) (by kernel_rfl) rfl ?_
        intro bk10 _ _ hbk10_r
        simp only [Act.put, nA, nB, nC]
        refine Seq.store rfl rfl rfl rfl rfl (by repeat (first | exact rS | refine rN (by assumption) ?_)) (n := 18) rfl rfl (by kernel_rfl) (PW_one _ _ _ _ _ _) ?_
        simp only [Act.put, nA, nB, nC]
        refine Seq.pure rfl rfl (by intro w; go_simp; try rfl) ?_
        simp only [Act.put, nA, nB, nC]
        refine Seq.done fun ws4 hws => ?_
        have HS4 := hws.list1 (p := bk10) (by repeat (first | exact rS | refine rN (by assumption) ?_))
        clear HS3 hws
        go_upto_region 4 with (fail)
        refine wp_seq_text [] (StR.no HS4) ?_
        refine Seq.load rfl rfl rfl rfl (by repeat (first | exact mC | apply mT)) (n := 18) rfl (by kernel_rfl) ?_
        simp only [Act.put, nA, nB, nC]
        refine Seq.load rfl rfl rfl rfl (by repeat (first | exact mC | apply mT)) (n := 10) rfl (by kernel_rfl) ?_
        simp only [Act.put, nA, nB, nC]
        refine Seq.call rfl rfl rfl rfl (by kernel_rfl) (grip_ok (k := (1 * k + 2)) (px1 := px1) (px2 := px2) (py1 := py1) (py2 := py2) (pt1 := pt1) (pt2 := pt2) (g1_t := g1_t) (g2_t := g2_t) (gt_t := gt_t) HT.out (Z_px.out.more (by omega)) (Z_py.out.more (by omega)) (Z_pt.out.more (by omega)) (Z_g1.out.more (by omega)) (Z_g2.out.more (by omega)) (Z_gt.out.more (by omega)) HGH.out HOKG.out HU.out.1 HU.out.2.1 HU.out.2.2.1 HU.out.2.2.2.1 HU.out.2.2.2.2.1 HU.out.2.2.2.2.2 (by omega) (by omega)) ?_
        simp only [Act.put, nA, nB, nC]
        refine Seq.pure rfl rfl (by intro w; go_simp; try rfl) ?_
        simp only [Act.put, nA, nB, nC]
        refine Seq.pure (v := .agg (PW (rt u0) (rt u1) (rt u2) (rt u3) (rt u4) (rt u5))) rfl rfl (fun w => rfl) ?_
        simp only [Act.put, nA, nB, nC]
        refine Seq.pure (v := .int .i64 0) rfl rfl (fun w => rfl) ?_
        simp only [Act.put, nA, nB, nC]
        refine Seq.alloc rfl rfl rfl (z := .agg (PW rz0 rz0 rz0 rz0 rz0 rz0)) (by kernel_rfl) rfl ?_
        intro bk12 _ _ hbk12_r
        simp only [Act.put, nA, nB, nC]
        refine Seq.store rfl rfl rfl rfl rfl (by repeat (first | exact rS | refine rN (by assumption) ?_)) (n := 18) rfl rfl (by kernel_rfl) (PW_one _ _ _ _ _ _) ?_
        simp only [Act.put, nA, nB, nC]
        refine Seq.pure rfl rfl (by intro w; go_simp; try rfl) ?_
        simp only [Act.put, nA, nB, nC]
        refine Seq.done fun ws5 hws => ?_
        have HS5 := hws.list1 (p := bk12) (by repeat (first | exact rS | refine rN (by assumption) ?_))
        clear HS4 hws
        go_upto_region 5 with (fail)
        refine wp_seq_text [] (StR.no HS5) ?_
        refine Seq.load rfl rfl rfl rfl (by repeat (first | exact mC | apply mT)) (n := 18) rfl (by kernel_rfl) ?_
        simp only [Act.put, nA, nB, nC]
        refine Seq.load rfl rfl rfl rfl (by repeat (first | exact mC | apply mT)) (n := 10) rfl (by kernel_rfl) ?_
        simp only [Act.put, nA, nB, nC]
        refine Seq.call rfl rfl rfl rfl (by kernel_rfl) (put_no (k := (1 * k + 2)) (px1 := px1) (px2 := px2) (py1 := py1) (py2 := py2) (pt1 := pt1) (pt2 := pt2) (g1_t := g1_t) (g2_t := g2_t) (gt_t := gt_t) HT.out (Z_px.out.more (by omega)) (Z_py.out.more (by omega)) (Z_pt.out.more (by omega)) (Z_g1.out.more (by omega)) (Z_g2.out.more (by omega)) (Z_gt.out.more (by omega)) HGH.out HOKP.out  (by omega) (by omega)) ?_
        simp only [Act.put, nA, nB, nC]
        refine Seq.pure rfl rfl (by intro w; go_simp; try rfl) ?_
        simp only [Act.put, nA, nB, nC]
        refine Seq.pure (v := .agg (PW rz0 rz0 rz0 rz0 rz0 rz0)) rfl rfl (fun w => rfl) ?_
        simp only [Act.put, nA, nB, nC]
        refine Seq.pure (v := .int .i64 18) rfl rfl (fun w => rfl) ?_
        simp only [Act.put, nA, nB, nC]
        refine Seq.alloc rfl rfl rfl (z := .agg (PW rz0 rz0 rz0 rz0 rz0 rz0)) (by kernel_rfl) rfl ?_
        intro bk14 _ _ hbk14_r
        simp only [Act.put, nA, nB, nC]
        refine Seq.store rfl rfl rfl rfl rfl (by repeat (first | exact rS | refine rN (by assumption) ?_)) (n := 18) rfl rfl (by kernel_rfl) (PW_one _ _ _ _ _ _) ?_
        simp only [Act.put, nA, nB, nC]
        refine Seq.pure rfl rfl (by intro w; go_simp; try rfl) ?_
        simp only [Act.put, nA, nB, nC]
        refine Seq.done fun ws6 hws => ?_
        have HS6 := hws.list1 (p := bk14) (by repeat (first | exact rS | refine rN (by assumption) ?_))
        clear HS5 hws
        go_upto_region 6 with (fail)
        refine wp_seq_text [] (StR.no HS6) ?_
        refine Seq.call rfl rfl rfl rfl (by kernel_rfl) (carried_q HT.out) ?_
        simp only [Act.put, nA, nB, nC]
        iterate 15 (refine Seq.pure rfl rfl (by intro w; go_simp; try rfl) ?_; simp only [Act.put, nA, nB, nC])
        refine Seq.load rfl rfl rfl rfl (by repeat (first | exact mC | apply mT)) (n := 18) rfl (by kernel_rfl) ?_
        simp only [Act.put, nA, nB, nC]
        refine Seq.load rfl rfl rfl rfl (by repeat (first | exact mC | apply mT)) (n := 18) rfl (by kernel_rfl) ?_
        simp only [Act.put, nA, nB, nC]
        refine Seq.call rfl rfl rfl rfl (by kernel_rfl) (same_e (k := (48 * k + 60)) HT.out (Z_u0.out.more (by omega)) (Z_u1.out.more (by omega)) (Z_u2.out.more (by omega)) (Z_u3.out.more (by omega)) (Z_u4.out.more (by omega)) (Z_u5.out.more (by omega)) (Z_u0.out.more (by omega)) (Z_u1.out.more (by omega)) (Z_u2.out.more (by omega)) (Z_u3.out.more (by omega)) (Z_u4.out.more (by omega)) (Z_u5.out.more (by omega)) HLU.out.1 HLU.out.2.1 HLU.out.2.2 ⟨rfl, rfl, rfl, rfl, rfl, rfl⟩  (by omega) (by omega)) ?_
        simp only [Act.put, nA, nB, nC]
        iterate 7 (refine Seq.pure rfl rfl (by intro w; go_simp; try rfl) ?_; simp only [Act.put, nA, nB, nC])
        iterate 4 (refine Seq.nw rfl ?_; simp only [Act.put, nA, nB, nC])
        iterate 2 (refine Seq.pure rfl rfl (by intro w; go_simp; try rfl) ?_; simp only [Act.put, nA, nB, nC])
        refine Seq.done fun ws7 hws => ?_
        have HS7 := hws.st
        clear HS6 hws
        go_upto_region 8 with (fail)
        refine wp_seq_text [] (StR.no HS7) ?_
        refine Seq.load rfl rfl rfl rfl (by repeat (first | exact mC | apply mT)) (n := 18) rfl (by kernel_rfl) ?_
        simp only [Act.put, nA, nB, nC]
        refine Seq.load rfl rfl rfl rfl (by repeat (first | exact mC | apply mT)) (n := 10) rfl (by kernel_rfl) ?_
        simp only [Act.put, nA, nB, nC]
        refine Seq.call rfl rfl rfl rfl (by kernel_rfl) (grasp_no (k := (1 * k + 2)) (px1 := px1) (px2 := px2) (py1 := py1) (py2 := py2) (pt1 := pt1) (pt2 := pt2) (g1_t := g1_t) (g2_t := g2_t) (gt_t := gt_t) HT.out (Z_px.out.more (by omega)) (Z_py.out.more (by omega)) (Z_pt.out.more (by omega)) (Z_g1.out.more (by omega)) (Z_g2.out.more (by omega)) (Z_gt.out.more (by omega)) HGH.out HOKP.out  (by omega) (by omega)) ?_
        simp only [Act.put, nA, nB, nC]
        refine Seq.pure rfl rfl (by intro w; go_simp; try rfl) ?_
        simp only [Act.put, nA, nB, nC]
        refine Seq.pure (v := .agg (PW rz0 rz0 rz0 rz0 rz0 rz0)) rfl rfl (fun w => rfl) ?_
        simp only [Act.put, nA, nB, nC]
        refine Seq.pure (v := .int .i64 18) rfl rfl (fun w => rfl) ?_
        simp only [Act.put, nA, nB, nC]
        refine Seq.alloc rfl rfl rfl (z := .agg (PW rz0 rz0 rz0 rz0 rz0 rz0)) (by kernel_rfl) rfl ?_
        intro bk16 _ _ hbk16_r
        simp only [Act.put, nA, nB, nC]
        refine Seq.store rfl rfl rfl rfl rfl (by repeat (first | exact rS | refine rN (by assumption) ?_)) (n := 18) rfl rfl (by kernel_rfl) (PW_one _ _ _ _ _ _) ?_
        simp only [Act.put, nA, nB, nC]
        refine Seq.pure rfl rfl (by intro w; go_simp; try rfl) ?_
        simp only [Act.put, nA, nB, nC]
        refine Seq.done fun ws8 hws => ?_
        have HS8 := hws.list1 (p := bk16) (by repeat (first | exact rS | refine rN (by assumption) ?_))
        clear HS7 hws
        go_upto_region 9 with (fail)
        refine wp_seq_text [] (StR.no HS8) ?_
        iterate 3 (refine Seq.pure rfl rfl (by intro w; go_simp; try rfl) ?_; simp only [Act.put, nA, nB, nC])
        refine Seq.done fun ws9 hws => ?_
        have HS9 := hws.st
        clear HS8 hws
        go_upto_region 11 with (fail)
        refine wp_seq_text [] (StR.no HS9) ?_
        iterate 2 (refine Seq.pure rfl rfl (by intro w; go_simp; try rfl) ?_; simp only [Act.put, nA, nB, nC])
        refine Seq.done fun ws10 hws => ?_
        have HS10 := hws.st
        clear HS9 hws
        cases hhh : hh with
        | true =>
          have HHH := Lib.hid hhh
          go_upto_region 16 with (fail)
          refine wp_seq_text [] (StR.no HS10) ?_
          refine Seq.load rfl rfl rfl rfl (by repeat (first | exact mC | apply mT)) (n := 18) rfl (by kernel_rfl) ?_
          simp only [Act.put, nA, nB, nC]
          refine Seq.load rfl rfl rfl rfl (by repeat (first | exact mC | apply mT)) (n := 10) rfl (by kernel_rfl) ?_
          simp only [Act.put, nA, nB, nC]
          refine Seq.load rfl rfl rfl rfl (by repeat (first | exact mC | apply mT)) (n := 10) rfl (by kernel_rfl) ?_
          simp only [Act.put, nA, nB, nC]
          refine Seq.call rfl rfl rfl rfl (by kernel_rfl) (carry_phalf (k := k) HT.out Z_px.out Z_py.out Z_pt.out Z_g1.out Z_g2.out Z_gt.out Z_h1.out Z_h2.out Z_ht.out Z_u0.out Z_u1.out Z_u2.out Z_u3.out Z_u4.out Z_u5.out HLU.out HGH.out HOKG.out HU.out HHH.out hk0 (by omega)) ?_
          simp only [Act.put, nA, nB, nC]
          refine Seq.pure rfl rfl (by intro w; go_simp; try rfl) ?_
          simp only [Act.put, nA, nB, nC]
          refine Seq.pure (v := .agg (PW rz0 rz0 rz0 rz0 rz0 rz0)) rfl rfl (fun w => rfl) ?_
          simp only [Act.put, nA, nB, nC]
          refine Seq.pure (v := .int .i64 3) rfl rfl (fun w => rfl) ?_
          simp only [Act.put, nA, nB, nC]
          refine Seq.alloc rfl rfl rfl (z := .agg (PW rz0 rz0 rz0 rz0 rz0 rz0)) (by kernel_rfl) rfl ?_
          intro bk19 _ _ hbk19_r
          simp only [Act.put, nA, nB, nC]
          refine Seq.store rfl rfl rfl rfl rfl (by repeat (first | exact rS | refine rN (by assumption) ?_)) (n := 18) rfl rfl (by kernel_rfl) (PW_one _ _ _ _ _ _) ?_
          simp only [Act.put, nA, nB, nC]
          refine Seq.pure rfl rfl (by intro w; go_simp; try rfl) ?_
          simp only [Act.put, nA, nB, nC]
          refine Seq.done fun ws11 hws => ?_
          have HS11 := hws.list1 (p := bk19) (by repeat (first | exact rS | refine rN (by assumption) ?_))
          clear HS10 hws
          go_upto_region 17 with (fail)
          refine wp_seq_text [] (StR.no HS11) ?_
          iterate 2 (refine Seq.pure rfl rfl (by intro w; go_simp; try rfl) ?_; simp only [Act.put, nA, nB, nC])
          refine Seq.done fun ws12 hws => ?_
          have HS12 := hws.st
          clear HS11 hws
          go_upto_region 18 with (fail)
          have HPbk8 := HS12.f5
          refine wp_seq_text [0] (StR.move (StR.no HPbk8)) ?_
          refine Seq.get rfl rfl rfl rfl (by repeat (first | exact rS | refine rN (by assumption) ?_)) (n := 18) rfl (by kernel_rfl) ?_
          simp only [Act.put, nA, nB, nC]
          refine Seq.load rfl rfl rfl rfl (by repeat (first | exact mC | apply mT)) (n := 10) rfl (by kernel_rfl) ?_
          simp only [Act.put, nA, nB, nC]
          refine Seq.call rfl rfl rfl rfl (by kernel_rfl) (putOf_half (k := (48 * k + 60)) (g1_t := h1_t) (g2_t := h2_t) (gt_t := ht_t) HT.out (Z_u0.out.more (by omega)) (Z_u1.out.more (by omega)) (Z_u2.out.more (by omega)) (Z_u3.out.more (by omega)) (Z_u4.out.more (by omega)) (Z_u5.out.more (by omega)) (Z_h1.out.more (by omega)) (Z_h2.out.more (by omega)) (Z_ht.out.more (by omega)) HHH.out  (by omega) (by omega)) ?_
          simp only [Act.put, nA, nB, nC]
          refine Seq.pure rfl rfl (by intro w; go_simp; try rfl) ?_
          simp only [Act.put, nA, nB, nC]
          refine Seq.pure (v := .agg (PW rz0 rz0 rz0 rz0 rz0 rz0)) rfl rfl (fun w => rfl) ?_
          simp only [Act.put, nA, nB, nC]
          refine Seq.pure (v := .int .i64 3) rfl rfl (fun w => rfl) ?_
          simp only [Act.put, nA, nB, nC]
          refine Seq.store rfl rfl rfl rfl rfl (by repeat (first | exact rS | refine rN (by assumption) ?_)) (n := 18) rfl rfl (by kernel_rfl) (PW_one _ _ _ _ _ _) ?_
          simp only [Act.put, nA, nB, nC]
          refine Seq.pure rfl rfl (by intro w; go_simp; try rfl) ?_
          simp only [Act.put, nA, nB, nC]
          refine Seq.done fun ws13 hws => ?_
          have HS13 := hws.list1 (p := bk8) (by repeat (first | exact rS | refine rN (by assumption) ?_))
          clear HS12 hws HPbk8
          go_upto_region 19 with (fail)
          refine wp_seq_text [] (StR.no HS13) ?_
          iterate 7 (refine Seq.pure rfl rfl (by intro w; go_simp; try rfl) ?_; simp only [Act.put, nA, nB, nC])
          iterate 3 (refine Seq.nw rfl ?_; simp only [Act.put, nA, nB, nC])
          iterate 3 (refine Seq.pure rfl rfl (by intro w; go_simp; try rfl) ?_; simp only [Act.put, nA, nB, nC])
          refine Seq.done fun ws14 hws => ?_
          have HS14 := hws.st
          clear HS13 hws
          go_wp2_with fail
          go_ret
          exact ⟨rfl, HS14.below⟩
        | false =>
          have HHH := Lib.hid hhh
          cases hokh : tOk ht u4 u5 with
          | true =>
            have HOKH := Lib.hid hokh
            obtain ⟨w0, hw0⟩ : ∃ z, pX0 u0 u1 u2 u3 h1 h2 ht = z := ⟨_, rfl⟩
            obtain ⟨w1, hw1⟩ : ∃ z, pX1 u0 u1 u2 u3 h1 h2 ht = z := ⟨_, rfl⟩
            obtain ⟨w2, hw2⟩ : ∃ z, pY0 u0 u1 u2 u3 h1 h2 ht = z := ⟨_, rfl⟩
            obtain ⟨w3, hw3⟩ : ∃ z, pY1 u0 u1 u2 u3 h1 h2 ht = z := ⟨_, rfl⟩
            obtain ⟨w4, hw4⟩ : ∃ z, tuQ ht u4 = z := ⟨_, rfl⟩
            obtain ⟨w5, hw5⟩ : ∃ z, tuQ ht u5 = z := ⟨_, rfl⟩
            have HW := Lib.hid (show pX0 u0 u1 u2 u3 h1 h2 ht = w0 ∧ pX1 u0 u1 u2 u3 h1 h2 ht = w1 ∧ pY0 u0 u1 u2 u3 h1 h2 ht = w2 ∧ pY1 u0 u1 u2 u3 h1 h2 ht = w3 ∧ tuQ ht u4 = w4 ∧ tuQ ht u5 = w5 from ⟨hw0, hw1, hw2, hw3, hw4, hw5⟩)
            have Z_w0 := Lib.hid (show Rz (3552 * k + 4530) w0 from (hw0 ▸ (p_rz (k := 48 * k + 60) (Rz.more (l := 48 * k + 60) Z_u0.out (by omega)) (Rz.more (l := 48 * k + 60) Z_u1.out (by omega)) (Rz.more (l := 48 * k + 60) Z_u2.out (by omega)) (Rz.more (l := 48 * k + 60) Z_u3.out (by omega)) (Rz.more (l := 48 * k + 60) Z_h1.out.rz (by omega)) (Rz.more (l := 48 * k + 60) Z_h2.out.rz (by omega)) (Rz.more (l := 48 * k + 60) Z_ht.out.rz (by omega))).1).more (by omega))
            have Z_w1 := Lib.hid (show Rz (3552 * k + 4530) w1 from (hw1 ▸ (p_rz (k := 48 * k + 60) (Rz.more (l := 48 * k + 60) Z_u0.out (by omega)) (Rz.more (l := 48 * k + 60) Z_u1.out (by omega)) (Rz.more (l := 48 * k + 60) Z_u2.out (by omega)) (Rz.more (l := 48 * k + 60) Z_u3.out (by omega)) (Rz.more (l := 48 * k + 60) Z_h1.out.rz (by omega)) (Rz.more (l := 48 * k + 60) Z_h2.out.rz (by omega)) (Rz.more (l := 48 * k + 60) Z_ht.out.rz (by omega))).2.1).more (by omega))
            have Z_w2 := Lib.hid (show Rz (3552 * k + 4530) w2 from (hw2 ▸ (p_rz (k := 48 * k + 60) (Rz.more (l := 48 * k + 60) Z_u0.out (by omega)) (Rz.more (l := 48 * k + 60) Z_u1.out (by omega)) (Rz.more (l := 48 * k + 60) Z_u2.out (by omega)) (Rz.more (l := 48 * k + 60) Z_u3.out (by omega)) (Rz.more (l := 48 * k + 60) Z_h1.out.rz (by omega)) (Rz.more (l := 48 * k + 60) Z_h2.out.rz (by omega)) (Rz.more (l := 48 * k + 60) Z_ht.out.rz (by omega))).2.2.1).more (by omega))
            have Z_w3 := Lib.hid (show Rz (3552 * k + 4530) w3 from (hw3 ▸ (p_rz (k := 48 * k + 60) (Rz.more (l := 48 * k + 60) Z_u0.out (by omega)) (Rz.more (l := 48 * k + 60) Z_u1.out (by omega)) (Rz.more (l := 48 * k + 60) Z_u2.out (by omega)) (Rz.more (l := 48 * k + 60) Z_u3.out (by omega)) (Rz.more (l := 48 * k + 60) Z_h1.out.rz (by omega)) (Rz.more (l := 48 * k + 60) Z_h2.out.rz (by omega)) (Rz.more (l := 48 * k + 60) Z_ht.out.rz (by omega))).2.2.2).more (by omega))
            have Z_w4 := Lib.hid (show Rz (3552 * k + 4530) w4 from (hw4 ▸ (tuQ_rz (k := 48 * k + 60) (Rz.more (l := 48 * k + 60) Z_ht.out.rz (by omega)) (Rz.more (l := 48 * k + 60) Z_u4.out (by omega)) (tOk_ne hokh).1)).more (by omega))
            have Z_w5 := Lib.hid (show Rz (3552 * k + 4530) w5 from (hw5 ▸ (tuQ_rz (k := 48 * k + 60) (Rz.more (l := 48 * k + 60) Z_ht.out.rz (by omega)) (Rz.more (l := 48 * k + 60) Z_u5.out (by omega)) (tOk_ne hokh).2)).more (by omega))
            have HLW := Lib.hid (show w0 ≤ w1 ∧ w2 ≤ w3 ∧ w4 ≤ w5 from ⟨by rw [← hw0, ← hw1]; exact (p_le _ _ _ _ _ _ _).1, by rw [← hw2, ← hw3]; exact (p_le _ _ _ _ _ _ _).2, by rw [← hw4, ← hw5]; exact tuQ_le hokh HLU.out.2.2⟩)
            clear hw0 hw1 hw2 hw3 hw4 hw5
            go_upto_region 16 with (fail)
            refine wp_seq_text [] (StR.no HS10) ?_
            refine Seq.load rfl rfl rfl rfl (by repeat (first | exact mC | apply mT)) (n := 18) rfl (by kernel_rfl) ?_
            simp only [Act.put, nA, nB, nC]
            refine Seq.load rfl rfl rfl rfl (by repeat (first | exact mC | apply mT)) (n := 10) rfl (by kernel_rfl) ?_
            simp only [Act.put, nA, nB, nC]
            refine Seq.load rfl rfl rfl rfl (by repeat (first | exact mC | apply mT)) (n := 10) rfl (by kernel_rfl) ?_
            simp only [Act.put, nA, nB, nC]
            refine Seq.call rfl rfl rfl rfl (by kernel_rfl) (carry_ok (k := k) HT.out Z_px.out Z_py.out Z_pt.out Z_g1.out Z_g2.out Z_gt.out Z_h1.out Z_h2.out Z_ht.out Z_u0.out Z_u1.out Z_u2.out Z_u3.out Z_u4.out Z_u5.out HLU.out Z_w0.out Z_w1.out Z_w2.out Z_w3.out Z_w4.out Z_w5.out HGH.out HOKG.out HU.out HHH.out HOKH.out HW.out hk0 (by omega)) ?_
            simp only [Act.put, nA, nB, nC]
            refine Seq.pure rfl rfl (by intro w; go_simp; try rfl) ?_
            simp only [Act.put, nA, nB, nC]
            refine Seq.pure (v := .agg (PW (rt w0) (rt w1) (rt w2) (rt w3) (rt w4) (rt w5))) rfl rfl (fun w => rfl) ?_
            simp only [Act.put, nA, nB, nC]
            refine Seq.pure (v := .int .i64 0) rfl rfl (fun w => rfl) ?_
            simp only [Act.put, nA, nB, nC]
            refine Seq.alloc rfl rfl rfl (z := .agg (PW rz0 rz0 rz0 rz0 rz0 rz0)) (by kernel_rfl) rfl ?_
            intro bk19 _ _ hbk19_r
            simp only [Act.put, nA, nB, nC]
            refine Seq.store rfl rfl rfl rfl rfl (by repeat (first | exact rS | refine rN (by assumption) ?_)) (n := 18) rfl rfl (by kernel_rfl) (PW_one _ _ _ _ _ _) ?_
            simp only [Act.put, nA, nB, nC]
            refine Seq.pure rfl rfl (by intro w; go_simp; try rfl) ?_
            simp only [Act.put, nA, nB, nC]
            refine Seq.done fun ws11 hws => ?_
            have HS11 := hws.list1 (p := bk19) (by repeat (first | exact rS | refine rN (by assumption) ?_))
            clear HS10 hws
            go_upto_region 17 with (fail)
            refine wp_seq_text [] (StR.no HS11) ?_
            iterate 2 (refine Seq.pure rfl rfl (by intro w; go_simp; try rfl) ?_; simp only [Act.put, nA, nB, nC])
            refine Seq.done fun ws12 hws => ?_
            have HS12 := hws.st
            clear HS11 hws
            go_upto_region 18 with (fail)
            have HPbk8 := HS12.f5
            refine wp_seq_text [0] (StR.move (StR.no HPbk8)) ?_
            refine Seq.get rfl rfl rfl rfl (by repeat (first | exact rS | refine rN (by assumption) ?_)) (n := 18) rfl (by kernel_rfl) ?_
            simp only [Act.put, nA, nB, nC]
            refine Seq.load rfl rfl rfl rfl (by repeat (first | exact mC | apply mT)) (n := 10) rfl (by kernel_rfl) ?_
            simp only [Act.put, nA, nB, nC]
            refine Seq.call rfl rfl rfl rfl (by kernel_rfl) (putOf_ok (k := (48 * k + 60)) (g1_t := h1_t) (g2_t := h2_t) (gt_t := ht_t) HT.out (Z_u0.out.more (by omega)) (Z_u1.out.more (by omega)) (Z_u2.out.more (by omega)) (Z_u3.out.more (by omega)) (Z_u4.out.more (by omega)) (Z_u5.out.more (by omega)) (Z_h1.out.more (by omega)) (Z_h2.out.more (by omega)) (Z_ht.out.more (by omega)) HHH.out HOKH.out HW.out.1 HW.out.2.1 HW.out.2.2.1 HW.out.2.2.2.1 HW.out.2.2.2.2.1 HW.out.2.2.2.2.2 (by omega) (by omega)) ?_
            simp only [Act.put, nA, nB, nC]
            refine Seq.pure rfl rfl (by intro w; go_simp; try rfl) ?_
            simp only [Act.put, nA, nB, nC]
            refine Seq.pure (v := .agg (PW (rt w0) (rt w1) (rt w2) (rt w3) (rt w4) (rt w5))) rfl rfl (fun w => rfl) ?_
            simp only [Act.put, nA, nB, nC]
            refine Seq.pure (v := .int .i64 0) rfl rfl (fun w => rfl) ?_
            simp only [Act.put, nA, nB, nC]
            refine Seq.store rfl rfl rfl rfl rfl (by repeat (first | exact rS | refine rN (by assumption) ?_)) (n := 18) rfl rfl (by kernel_rfl) (PW_one _ _ _ _ _ _) ?_
            simp only [Act.put, nA, nB, nC]
            refine Seq.pure rfl rfl (by intro w; go_simp; try rfl) ?_
            simp only [Act.put, nA, nB, nC]
            refine Seq.done fun ws13 hws => ?_
            have HS13 := hws.list1 (p := bk8) (by repeat (first | exact rS | refine rN (by assumption) ?_))
            clear HS12 hws HPbk8
            go_upto_region 19 with (fail)
            refine wp_seq_text [] (StR.no HS13) ?_
            iterate 7 (refine Seq.pure rfl rfl (by intro w; go_simp; try rfl) ?_; simp only [Act.put, nA, nB, nC])
            refine Seq.load rfl rfl rfl rfl (by repeat (first | exact mC | apply mT)) (n := 18) rfl (by kernel_rfl) ?_
            simp only [Act.put, nA, nB, nC]
            refine Seq.load rfl rfl rfl rfl (by repeat (first | exact mC | apply mT)) (n := 18) rfl (by kernel_rfl) ?_
            simp only [Act.put, nA, nB, nC]
            refine Seq.call rfl rfl rfl rfl (by kernel_rfl) (same_e (k := (3552 * k + 4530)) HT.out (Z_w0.out.more (by omega)) (Z_w1.out.more (by omega)) (Z_w2.out.more (by omega)) (Z_w3.out.more (by omega)) (Z_w4.out.more (by omega)) (Z_w5.out.more (by omega)) (Z_w0.out.more (by omega)) (Z_w1.out.more (by omega)) (Z_w2.out.more (by omega)) (Z_w3.out.more (by omega)) (Z_w4.out.more (by omega)) (Z_w5.out.more (by omega)) HLW.out.1 HLW.out.2.1 HLW.out.2.2 ⟨rfl, rfl, rfl, rfl, rfl, rfl⟩  (by omega) (by omega)) ?_
            simp only [Act.put, nA, nB, nC]
            iterate 3 (refine Seq.pure rfl rfl (by intro w; go_simp; try rfl) ?_; simp only [Act.put, nA, nB, nC])
            refine Seq.done fun ws14 hws => ?_
            have HS14 := hws.st
            clear HS13 hws
            go_wp2_with fail
            go_ret
            exact ⟨rfl, HS14.below⟩
          | false =>
            have HOKH := Lib.hid hokh
            go_upto_region 16 with (fail)
            refine wp_seq_text [] (StR.no HS10) ?_
            refine Seq.load rfl rfl rfl rfl (by repeat (first | exact mC | apply mT)) (n := 18) rfl (by kernel_rfl) ?_
            simp only [Act.put, nA, nB, nC]
            refine Seq.load rfl rfl rfl rfl (by repeat (first | exact mC | apply mT)) (n := 10) rfl (by kernel_rfl) ?_
            simp only [Act.put, nA, nB, nC]
            refine Seq.load rfl rfl rfl rfl (by repeat (first | exact mC | apply mT)) (n := 10) rfl (by kernel_rfl) ?_
            simp only [Act.put, nA, nB, nC]
            refine Seq.call rfl rfl rfl rfl (by kernel_rfl) (carry_pno (k := k) HT.out Z_px.out Z_py.out Z_pt.out Z_g1.out Z_g2.out Z_gt.out Z_h1.out Z_h2.out Z_ht.out Z_u0.out Z_u1.out Z_u2.out Z_u3.out Z_u4.out Z_u5.out HLU.out HGH.out HOKG.out HU.out HHH.out HOKH.out hk0 (by omega)) ?_
            simp only [Act.put, nA, nB, nC]
            refine Seq.pure rfl rfl (by intro w; go_simp; try rfl) ?_
            simp only [Act.put, nA, nB, nC]
            refine Seq.pure (v := .agg (PW rz0 rz0 rz0 rz0 rz0 rz0)) rfl rfl (fun w => rfl) ?_
            simp only [Act.put, nA, nB, nC]
            refine Seq.pure (v := .int .i64 18) rfl rfl (fun w => rfl) ?_
            simp only [Act.put, nA, nB, nC]
            refine Seq.alloc rfl rfl rfl (z := .agg (PW rz0 rz0 rz0 rz0 rz0 rz0)) (by kernel_rfl) rfl ?_
            intro bk19 _ _ hbk19_r
            simp only [Act.put, nA, nB, nC]
            refine Seq.store rfl rfl rfl rfl rfl (by repeat (first | exact rS | refine rN (by assumption) ?_)) (n := 18) rfl rfl (by kernel_rfl) (PW_one _ _ _ _ _ _) ?_
            simp only [Act.put, nA, nB, nC]
            refine Seq.pure rfl rfl (by intro w; go_simp; try rfl) ?_
            simp only [Act.put, nA, nB, nC]
            refine Seq.done fun ws11 hws => ?_
            have HS11 := hws.list1 (p := bk19) (by repeat (first | exact rS | refine rN (by assumption) ?_))
            clear HS10 hws
            go_upto_region 17 with (fail)
            refine wp_seq_text [] (StR.no HS11) ?_
            iterate 2 (refine Seq.pure rfl rfl (by intro w; go_simp; try rfl) ?_; simp only [Act.put, nA, nB, nC])
            refine Seq.done fun ws12 hws => ?_
            have HS12 := hws.st
            clear HS11 hws
            go_upto_region 18 with (fail)
            have HPbk8 := HS12.f5
            refine wp_seq_text [0] (StR.move (StR.no HPbk8)) ?_
            refine Seq.get rfl rfl rfl rfl (by repeat (first | exact rS | refine rN (by assumption) ?_)) (n := 18) rfl (by kernel_rfl) ?_
            simp only [Act.put, nA, nB, nC]
            refine Seq.load rfl rfl rfl rfl (by repeat (first | exact mC | apply mT)) (n := 10) rfl (by kernel_rfl) ?_
            simp only [Act.put, nA, nB, nC]
            refine Seq.call rfl rfl rfl rfl (by kernel_rfl) (putOf_no (k := (48 * k + 60)) (g1_t := h1_t) (g2_t := h2_t) (gt_t := ht_t) HT.out (Z_u0.out.more (by omega)) (Z_u1.out.more (by omega)) (Z_u2.out.more (by omega)) (Z_u3.out.more (by omega)) (Z_u4.out.more (by omega)) (Z_u5.out.more (by omega)) (Z_h1.out.more (by omega)) (Z_h2.out.more (by omega)) (Z_ht.out.more (by omega)) HHH.out HOKH.out  (by omega) (by omega)) ?_
            simp only [Act.put, nA, nB, nC]
            refine Seq.pure rfl rfl (by intro w; go_simp; try rfl) ?_
            simp only [Act.put, nA, nB, nC]
            refine Seq.pure (v := .agg (PW rz0 rz0 rz0 rz0 rz0 rz0)) rfl rfl (fun w => rfl) ?_
            simp only [Act.put, nA, nB, nC]
            refine Seq.pure (v := .int .i64 18) rfl rfl (fun w => rfl) ?_
            simp only [Act.put, nA, nB, nC]
            refine Seq.store rfl rfl rfl rfl rfl (by repeat (first | exact rS | refine rN (by assumption) ?_)) (n := 18) rfl rfl (by kernel_rfl) (PW_one _ _ _ _ _ _) ?_
            simp only [Act.put, nA, nB, nC]
            refine Seq.pure rfl rfl (by intro w; go_simp; try rfl) ?_
            simp only [Act.put, nA, nB, nC]
            refine Seq.done fun ws13 hws => ?_
            have HS13 := hws.list1 (p := bk8) (by repeat (first | exact rS | refine rN (by assumption) ?_))
            clear HS12 hws HPbk8
            go_upto_region 19 with (fail)
            refine wp_seq_text [] (StR.no HS13) ?_
            iterate 7 (refine Seq.pure rfl rfl (by intro w; go_simp; try rfl) ?_; simp only [Act.put, nA, nB, nC])
            iterate 3 (refine Seq.nw rfl ?_; simp only [Act.put, nA, nB, nC])
            iterate 3 (refine Seq.pure rfl rfl (by intro w; go_simp; try rfl) ?_; simp only [Act.put, nA, nB, nC])
            refine Seq.done fun ws14 hws => ?_
            have HS14 := hws.st
            clear HS13 hws
            go_wp2_with fail
            go_ret
            exact ⟨rfl, HS14.below⟩
    | false =>
      have HOKG := Lib.hid hokg
      go_upto_region 2 with (fail)
      refine wp_seq_text [] (StR.no HS2) ?_
      refine Seq.load rfl rfl rfl rfl (by repeat (first | exact mC | apply mT)) (n := 18) rfl (by kernel_rfl) ?_
      simp only [Act.put, nA, nB, nC]
      refine Seq.load rfl rfl rfl rfl (by repeat (first | exact mC | apply mT)) (n := 10) rfl (by kernel_rfl) ?_
      simp only [Act.put, nA, nB, nC]
      refine Seq.call rfl rfl rfl rfl (by kernel_rfl) (gripOf_no (k := (1 * k + 2)) (g1_t := g1_t) (g2_t := g2_t) (gt_t := gt_t) HT.out ((Z_px.out.rz (by omega)).1.more (by omega)) ((Z_px.out.rz (by omega)).2.more (by omega)) ((Z_py.out.rz (by omega)).1.more (by omega)) ((Z_py.out.rz (by omega)).2.more (by omega)) ((Z_pt.out.rz (by omega)).1.more (by omega)) ((Z_pt.out.rz (by omega)).2.more (by omega)) (Z_g1.out.more (by omega)) (Z_g2.out.more (by omega)) (Z_gt.out.more (by omega)) HGH.out HOKG.out  (by omega) (by omega)) ?_
      simp only [Act.put, nA, nB, nC]
      refine Seq.pure rfl rfl (by intro w; go_simp; try rfl) ?_
      simp only [Act.put, nA, nB, nC]
      refine Seq.pure (v := .agg (PW rz0 rz0 rz0 rz0 rz0 rz0)) rfl rfl (fun w => rfl) ?_
      simp only [Act.put, nA, nB, nC]
      refine Seq.pure (v := .int .i64 18) rfl rfl (fun w => rfl) ?_
      simp only [Act.put, nA, nB, nC]
      refine Seq.alloc rfl rfl rfl (z := .agg (PW rz0 rz0 rz0 rz0 rz0 rz0)) (by kernel_rfl) rfl ?_
      intro bk8 _ _ hbk8_r
      simp only [Act.put, nA, nB, nC]
      refine Seq.store rfl rfl rfl rfl rfl (by repeat (first | exact rS | refine rN (by assumption) ?_)) (n := 18) rfl rfl (by kernel_rfl) (PW_one _ _ _ _ _ _) ?_
      simp only [Act.put, nA, nB, nC]
      refine Seq.pure rfl rfl (by intro w; go_simp; try rfl) ?_
      simp only [Act.put, nA, nB, nC]
      refine Seq.done fun ws3 hws => ?_
      have HS3 := hws.list1 (p := bk8) (by repeat (first | exact rS | refine rN (by assumption) ?_))
      clear HS2 hws
      cases hokp : tOk gt ptl pth with
      | true =>
        have HOKP := Lib.hid hokp
        obtain ⟨v0, hv0⟩ : ∃ z, pX0 pxl pxh pyl pyh g1 g2 gt = z := ⟨_, rfl⟩
        obtain ⟨v1, hv1⟩ : ∃ z, pX1 pxl pxh pyl pyh g1 g2 gt = z := ⟨_, rfl⟩
        obtain ⟨v2, hv2⟩ : ∃ z, pY0 pxl pxh pyl pyh g1 g2 gt = z := ⟨_, rfl⟩
        obtain ⟨v3, hv3⟩ : ∃ z, pY1 pxl pxh pyl pyh g1 g2 gt = z := ⟨_, rfl⟩
        obtain ⟨v4, hv4⟩ : ∃ z, tuQ gt ptl = z := ⟨_, rfl⟩
        obtain ⟨v5, hv5⟩ : ∃ z, tuQ gt pth = z := ⟨_, rfl⟩
        have HV := Lib.hid (show pX0 pxl pxh pyl pyh g1 g2 gt = v0 ∧ pX1 pxl pxh pyl pyh g1 g2 gt = v1 ∧ pY0 pxl pxh pyl pyh g1 g2 gt = v2 ∧ pY1 pxl pxh pyl pyh g1 g2 gt = v3 ∧ tuQ gt ptl = v4 ∧ tuQ gt pth = v5 from ⟨hv0, hv1, hv2, hv3, hv4, hv5⟩)
        have Z_v0 := Lib.hid (show Rz (74 * k + 90) v0 from (hv0 ▸ (p_rz (k := k) (Z_px.out.rz (by omega)).1 (Z_px.out.rz (by omega)).2 (Z_py.out.rz (by omega)).1 (Z_py.out.rz (by omega)).2 Z_g1.out.rz Z_g2.out.rz Z_gt.out.rz).1).more (by omega))
        have Z_v1 := Lib.hid (show Rz (74 * k + 90) v1 from (hv1 ▸ (p_rz (k := k) (Z_px.out.rz (by omega)).1 (Z_px.out.rz (by omega)).2 (Z_py.out.rz (by omega)).1 (Z_py.out.rz (by omega)).2 Z_g1.out.rz Z_g2.out.rz Z_gt.out.rz).2.1).more (by omega))
        have Z_v2 := Lib.hid (show Rz (74 * k + 90) v2 from (hv2 ▸ (p_rz (k := k) (Z_px.out.rz (by omega)).1 (Z_px.out.rz (by omega)).2 (Z_py.out.rz (by omega)).1 (Z_py.out.rz (by omega)).2 Z_g1.out.rz Z_g2.out.rz Z_gt.out.rz).2.2.1).more (by omega))
        have Z_v3 := Lib.hid (show Rz (74 * k + 90) v3 from (hv3 ▸ (p_rz (k := k) (Z_px.out.rz (by omega)).1 (Z_px.out.rz (by omega)).2 (Z_py.out.rz (by omega)).1 (Z_py.out.rz (by omega)).2 Z_g1.out.rz Z_g2.out.rz Z_gt.out.rz).2.2.2).more (by omega))
        have Z_v4 := Lib.hid (show Rz (74 * k + 90) v4 from (hv4 ▸ (tuQ_rz (k := k) Z_gt.out.rz (Z_pt.out.rz (by omega)).1 (tOk_ne hokp).1)).more (by omega))
        have Z_v5 := Lib.hid (show Rz (74 * k + 90) v5 from (hv5 ▸ (tuQ_rz (k := k) Z_gt.out.rz (Z_pt.out.rz (by omega)).2 (tOk_ne hokp).2)).more (by omega))
        have HLV := Lib.hid (show v0 ≤ v1 ∧ v2 ≤ v3 ∧ v4 ≤ v5 from ⟨by rw [← hv0, ← hv1]; exact (p_le _ _ _ _ _ _ _).1, by rw [← hv2, ← hv3]; exact (p_le _ _ _ _ _ _ _).2, by rw [← hv4, ← hv5]; exact tuQ_le hokp Z_pt.out.le⟩)
        clear hv0 hv1 hv2 hv3 hv4 hv5
        obtain ⟨b0, hb0⟩ : ∃ z, bX0 pxl ptl pth g1 g2 = z := ⟨_, rfl⟩
        obtain ⟨b1, hb1⟩ : ∃ z, bX1 pxh ptl pth g1 g2 = z := ⟨_, rfl⟩
        obtain ⟨b2, hb2⟩ : ∃ z, bY0 pyl ptl pth g1 g2 = z := ⟨_, rfl⟩
        obtain ⟨b3, hb3⟩ : ∃ z, bY1 pyh ptl pth g1 g2 = z := ⟨_, rfl⟩
        have HB := Lib.hid (show bX0 pxl ptl pth g1 g2 = b0 ∧ bX1 pxh ptl pth g1 g2 = b1 ∧ bY0 pyl ptl pth g1 g2 = b2 ∧ bY1 pyh ptl pth g1 g2 = b3 from ⟨hb0, hb1, hb2, hb3⟩)
        have Z_b0 := Lib.hid (show Rz (74 * k + 100) b0 from hb0 ▸ (b_rz (k := k) (Z_px.out.rz (by omega)).1 (Z_pt.out.rz (by omega)).1 (Z_pt.out.rz (by omega)).2 Z_g1.out.rz Z_g2.out.rz).1)
        have Z_b1 := Lib.hid (show Rz (74 * k + 100) b1 from hb1 ▸ (b_rz (k := k) (Z_px.out.rz (by omega)).2 (Z_pt.out.rz (by omega)).1 (Z_pt.out.rz (by omega)).2 Z_g1.out.rz Z_g2.out.rz).2.1)
        have Z_b2 := Lib.hid (show Rz (74 * k + 100) b2 from hb2 ▸ (b_rz (k := k) (Z_py.out.rz (by omega)).1 (Z_pt.out.rz (by omega)).1 (Z_pt.out.rz (by omega)).2 Z_g1.out.rz Z_g2.out.rz).2.2.1)
        have Z_b3 := Lib.hid (show Rz (74 * k + 100) b3 from hb3 ▸ (b_rz (k := k) (Z_py.out.rz (by omega)).2 (Z_pt.out.rz (by omega)).1 (Z_pt.out.rz (by omega)).2 Z_g1.out.rz Z_g2.out.rz).2.2.2)
        have HLB := Lib.hid (show b0 ≤ b1 ∧ b2 ≤ b3 from by rw [← hb0, ← hb1, ← hb2, ← hb3]; exact b_le Z_px.out.le Z_py.out.le Z_pt.out.le)
        clear hb0 hb1 hb2 hb3
        go_upto_region 3 with (fail)
        refine wp_seq_text [] (StR.no HS3) ?_
        refine Seq.load rfl rfl rfl rfl (by repeat (first | exact mC | apply mT)) (n := 18) rfl (by kernel_rfl) ?_
        simp only [Act.put, nA, nB, nC]
        refine Seq.load rfl rfl rfl rfl (by repeat (first | exact mC | apply mT)) (n := 10) rfl (by kernel_rfl) ?_
        simp only [Act.put, nA, nB, nC]
        refine Seq.call rfl rfl rfl rfl (by kernel_rfl) (putOf_ok (k := (1 * k + 2)) (g1_t := g1_t) (g2_t := g2_t) (gt_t := gt_t) HT.out ((Z_px.out.rz (by omega)).1.more (by omega)) ((Z_px.out.rz (by omega)).2.more (by omega)) ((Z_py.out.rz (by omega)).1.more (by omega)) ((Z_py.out.rz (by omega)).2.more (by omega)) ((Z_pt.out.rz (by omega)).1.more (by omega)) ((Z_pt.out.rz (by omega)).2.more (by omega)) (Z_g1.out.more (by omega)) (Z_g2.out.more (by omega)) (Z_gt.out.more (by omega)) HGH.out HOKP.out HV.out.1 HV.out.2.1 HV.out.2.2.1 HV.out.2.2.2.1 HV.out.2.2.2.2.1 HV.out.2.2.2.2.2 (by omega) (by omega)) ?_
        simp only [Act.put, nA, nB, nC]
        refine Seq.pure rfl rfl (by intro w; go_simp; try rfl) ?_
        simp only [Act.put, nA, nB, nC]
        refine Seq.pure (v := .agg (PW (rt v0) (rt v1) (rt v2) (rt v3) (rt v4) (rt v5))) rfl rfl (fun w => rfl) ?_
        simp only [Act.put, nA, nB, nC]
        refine Seq.pure (v := .int .i64 0) rfl rfl (fun w => rfl) ?_
        simp only [Act.put, nA, nB, nC]
        refine Seq.alloc rfl rfl rfl (z := .agg (PW rz0 rz0 rz0 rz0 rz0 rz0)) (by kernel_rfl) rfl ?_
        intro bk10 _ _ hbk10_r
        simp only [Act.put, nA, nB, nC]
        refine Seq.store rfl rfl rfl rfl rfl (by repeat (first | exact rS | refine rN (by assumption) ?_)) (n := 18) rfl rfl (by kernel_rfl) (PW_one _ _ _ _ _ _) ?_
        simp only [Act.put, nA, nB, nC]
        refine Seq.pure rfl rfl (by intro w; go_simp; try rfl) ?_
        simp only [Act.put, nA, nB, nC]
        refine Seq.done fun ws4 hws => ?_
        have HS4 := hws.list1 (p := bk10) (by repeat (first | exact rS | refine rN (by assumption) ?_))
        clear HS3 hws
        go_upto_region 4 with (fail)
        refine wp_seq_text [] (StR.no HS4) ?_
        refine Seq.load rfl rfl rfl rfl (by repeat (first | exact mC | apply mT)) (n := 18) rfl (by kernel_rfl) ?_
        simp only [Act.put, nA, nB, nC]
        refine Seq.load rfl rfl rfl rfl (by repeat (first | exact mC | apply mT)) (n := 10) rfl (by kernel_rfl) ?_
        simp only [Act.put, nA, nB, nC]
        refine Seq.call rfl rfl rfl rfl (by kernel_rfl) (grip_no (k := (1 * k + 2)) (px1 := px1) (px2 := px2) (py1 := py1) (py2 := py2) (pt1 := pt1) (pt2 := pt2) (g1_t := g1_t) (g2_t := g2_t) (gt_t := gt_t) HT.out (Z_px.out.more (by omega)) (Z_py.out.more (by omega)) (Z_pt.out.more (by omega)) (Z_g1.out.more (by omega)) (Z_g2.out.more (by omega)) (Z_gt.out.more (by omega)) HGH.out HOKG.out  (by omega) (by omega)) ?_
        simp only [Act.put, nA, nB, nC]
        refine Seq.pure rfl rfl (by intro w; go_simp; try rfl) ?_
        simp only [Act.put, nA, nB, nC]
        refine Seq.pure (v := .agg (PW rz0 rz0 rz0 rz0 rz0 rz0)) rfl rfl (fun w => rfl) ?_
        simp only [Act.put, nA, nB, nC]
        refine Seq.pure (v := .int .i64 18) rfl rfl (fun w => rfl) ?_
        simp only [Act.put, nA, nB, nC]
        refine Seq.alloc rfl rfl rfl (z := .agg (PW rz0 rz0 rz0 rz0 rz0 rz0)) (by kernel_rfl) rfl ?_
        intro bk12 _ _ hbk12_r
        simp only [Act.put, nA, nB, nC]
        refine Seq.store rfl rfl rfl rfl rfl (by repeat (first | exact rS | refine rN (by assumption) ?_)) (n := 18) rfl rfl (by kernel_rfl) (PW_one _ _ _ _ _ _) ?_
        simp only [Act.put, nA, nB, nC]
        refine Seq.pure rfl rfl (by intro w; go_simp; try rfl) ?_
        simp only [Act.put, nA, nB, nC]
        refine Seq.done fun ws5 hws => ?_
        have HS5 := hws.list1 (p := bk12) (by repeat (first | exact rS | refine rN (by assumption) ?_))
        clear HS4 hws
        go_upto_region 5 with (fail)
        refine wp_seq_text [] (StR.no HS5) ?_
        refine Seq.load rfl rfl rfl rfl (by repeat (first | exact mC | apply mT)) (n := 18) rfl (by kernel_rfl) ?_
        simp only [Act.put, nA, nB, nC]
        refine Seq.load rfl rfl rfl rfl (by repeat (first | exact mC | apply mT)) (n := 10) rfl (by kernel_rfl) ?_
        simp only [Act.put, nA, nB, nC]
        refine Seq.call rfl rfl rfl rfl (by kernel_rfl) (put_ok (k := (1 * k + 2)) (px1 := px1) (px2 := px2) (py1 := py1) (py2 := py2) (pt1 := pt1) (pt2 := pt2) (g1_t := g1_t) (g2_t := g2_t) (gt_t := gt_t) HT.out (Z_px.out.more (by omega)) (Z_py.out.more (by omega)) (Z_pt.out.more (by omega)) (Z_g1.out.more (by omega)) (Z_g2.out.more (by omega)) (Z_gt.out.more (by omega)) HGH.out HOKP.out HV.out.1 HV.out.2.1 HV.out.2.2.1 HV.out.2.2.2.1 HV.out.2.2.2.2.1 HV.out.2.2.2.2.2 (by omega) (by omega)) ?_
        simp only [Act.put, nA, nB, nC]
        refine Seq.pure rfl rfl (by intro w; go_simp; try rfl) ?_
        simp only [Act.put, nA, nB, nC]
        refine Seq.pure (v := .agg (PW (rt v0) (rt v1) (rt v2) (rt v3) (rt v4) (rt v5))) rfl rfl (fun w => rfl) ?_
        simp only [Act.put, nA, nB, nC]
        refine Seq.pure (v := .int .i64 0) rfl rfl (fun w => rfl) ?_
        simp only [Act.put, nA, nB, nC]
        refine Seq.alloc rfl rfl rfl (z := .agg (PW rz0 rz0 rz0 rz0 rz0 rz0)) (by kernel_rfl) rfl ?_
        intro bk14 _ _ hbk14_r
        simp only [Act.put, nA, nB, nC]
        refine Seq.store rfl rfl rfl rfl rfl (by repeat (first | exact rS | refine rN (by assumption) ?_)) (n := 18) rfl rfl (by kernel_rfl) (PW_one _ _ _ _ _ _) ?_
        simp only [Act.put, nA, nB, nC]
        refine Seq.pure rfl rfl (by intro w; go_simp; try rfl) ?_
        simp only [Act.put, nA, nB, nC]
        refine Seq.done fun ws6 hws => ?_
        have HS6 := hws.list1 (p := bk14) (by repeat (first | exact rS | refine rN (by assumption) ?_))
        clear HS5 hws
        go_upto_region 6 with (fail)
        refine wp_seq_text [] (StR.no HS6) ?_
        refine Seq.call rfl rfl rfl rfl (by kernel_rfl) (carried_q HT.out) ?_
        simp only [Act.put, nA, nB, nC]
        iterate 15 (refine Seq.pure rfl rfl (by intro w; go_simp; try rfl) ?_; simp only [Act.put, nA, nB, nC])
        iterate 4 (refine Seq.nw rfl ?_; simp only [Act.put, nA, nB, nC])
        iterate 6 (refine Seq.pure rfl rfl (by intro w; go_simp; try rfl) ?_; simp only [Act.put, nA, nB, nC])
        refine Seq.load rfl rfl rfl rfl (by repeat (first | exact mC | apply mT)) (n := 18) rfl (by kernel_rfl) ?_
        simp only [Act.put, nA, nB, nC]
        refine Seq.load rfl rfl rfl rfl (by repeat (first | exact mC | apply mT)) (n := 18) rfl (by kernel_rfl) ?_
        simp only [Act.put, nA, nB, nC]
        refine Seq.call rfl rfl rfl rfl (by kernel_rfl) (same_e (k := (74 * k + 90)) HT.out (Z_v0.out.more (by omega)) (Z_v1.out.more (by omega)) (Z_v2.out.more (by omega)) (Z_v3.out.more (by omega)) (Z_v4.out.more (by omega)) (Z_v5.out.more (by omega)) (Z_v0.out.more (by omega)) (Z_v1.out.more (by omega)) (Z_v2.out.more (by omega)) (Z_v3.out.more (by omega)) (Z_v4.out.more (by omega)) (Z_v5.out.more (by omega)) HLV.out.1 HLV.out.2.1 HLV.out.2.2 ⟨rfl, rfl, rfl, rfl, rfl, rfl⟩  (by omega) (by omega)) ?_
        simp only [Act.put, nA, nB, nC]
        iterate 3 (refine Seq.pure rfl rfl (by intro w; go_simp; try rfl) ?_; simp only [Act.put, nA, nB, nC])
        refine Seq.done fun ws7 hws => ?_
        have HS7 := hws.st
        clear HS6 hws
        go_upto_region 8 with (fail)
        refine wp_seq_text [] (StR.no HS7) ?_
        refine Seq.load rfl rfl rfl rfl (by repeat (first | exact mC | apply mT)) (n := 18) rfl (by kernel_rfl) ?_
        simp only [Act.put, nA, nB, nC]
        refine Seq.load rfl rfl rfl rfl (by repeat (first | exact mC | apply mT)) (n := 10) rfl (by kernel_rfl) ?_
        simp only [Act.put, nA, nB, nC]
        refine Seq.call rfl rfl rfl rfl (by kernel_rfl) (grasp_ok (k := (1 * k + 2)) (px1 := px1) (px2 := px2) (py1 := py1) (py2 := py2) (pt1 := pt1) (pt2 := pt2) (g1_t := g1_t) (g2_t := g2_t) (gt_t := gt_t) HT.out (Z_px.out.more (by omega)) (Z_py.out.more (by omega)) (Z_pt.out.more (by omega)) (Z_g1.out.more (by omega)) (Z_g2.out.more (by omega)) (Z_gt.out.more (by omega)) HGH.out HOKP.out HB.out.1 HB.out.2.1 HB.out.2.2.1 HB.out.2.2.2 HV.out.2.2.2.2.1 HV.out.2.2.2.2.2 (by omega) (by omega)) ?_
        simp only [Act.put, nA, nB, nC]
        refine Seq.pure rfl rfl (by intro w; go_simp; try rfl) ?_
        simp only [Act.put, nA, nB, nC]
        refine Seq.pure (v := .agg (PW (rt b0) (rt b1) (rt b2) (rt b3) (rt v4) (rt v5))) rfl rfl (fun w => rfl) ?_
        simp only [Act.put, nA, nB, nC]
        refine Seq.pure (v := .int .i64 0) rfl rfl (fun w => rfl) ?_
        simp only [Act.put, nA, nB, nC]
        refine Seq.alloc rfl rfl rfl (z := .agg (PW rz0 rz0 rz0 rz0 rz0 rz0)) (by kernel_rfl) rfl ?_
        intro bk16 _ _ hbk16_r
        simp only [Act.put, nA, nB, nC]
        refine Seq.store rfl rfl rfl rfl rfl (by repeat (first | exact rS | refine rN (by assumption) ?_)) (n := 18) rfl rfl (by kernel_rfl) (PW_one _ _ _ _ _ _) ?_
        simp only [Act.put, nA, nB, nC]
        refine Seq.pure rfl rfl (by intro w; go_simp; try rfl) ?_
        simp only [Act.put, nA, nB, nC]
        refine Seq.done fun ws8 hws => ?_
        have HS8 := hws.list1 (p := bk16) (by repeat (first | exact rS | refine rN (by assumption) ?_))
        clear HS7 hws
        go_upto_region 9 with (fail)
        refine wp_seq_text [] (StR.no HS8) ?_
        iterate 3 (refine Seq.pure rfl rfl (by intro w; go_simp; try rfl) ?_; simp only [Act.put, nA, nB, nC])
        refine Seq.done fun ws9 hws => ?_
        have HS9 := hws.st
        clear HS8 hws
        go_upto_region 11 with (fail)
        refine wp_seq_text [] (StR.no HS9) ?_
        iterate 2 (refine Seq.pure rfl rfl (by intro w; go_simp; try rfl) ?_; simp only [Act.put, nA, nB, nC])
        refine Seq.done fun ws10 hws => ?_
        have HS10 := hws.st
        clear HS9 hws
        go_upto_region 12 with (fail)
        refine wp_seq_text [] (StR.no HS10) ?_
        refine Seq.load rfl rfl rfl rfl (by repeat (first | exact mC | apply mT)) (n := 18) rfl (by kernel_rfl) ?_
        simp only [Act.put, nA, nB, nC]
        refine Seq.pure rfl rfl (by intro w; go_simp; try rfl) ?_
        simp only [Act.put, nA, nB, nC]
        refine Seq.loadAt rfl rfl rfl rfl (by repeat (first | exact mC | apply mT)) (n := 6) (cs' := SW g1_t g2_t) (Nat.le_of_ble_eq_true rfl) (by kernel_rfl) rfl ?_
        simp only [Act.put, nA, nB, nC]
        refine Seq.call rfl rfl rfl rfl (by kernel_rfl) (pointOf_w (k := (1 * k + 2)) (v1_t := g1_t) (v2_t := g2_t) HT.out ((Z_px.out.rz (by omega)).1.more (by omega)) ((Z_px.out.rz (by omega)).2.more (by omega)) ((Z_py.out.rz (by omega)).1.more (by omega)) ((Z_py.out.rz (by omega)).2.more (by omega)) ((Z_pt.out.rz (by omega)).1.more (by omega)) ((Z_pt.out.rz (by omega)).2.more (by omega)) (Z_g1.out.more (by omega)) (Z_g2.out.more (by omega)) Z_pt.out.le HB.out.1 HB.out.2.1 HB.out.2.2.1 HB.out.2.2.2 (by omega) (by omega)) ?_
        simp only [Act.put, nA, nB, nC]
        refine Seq.alloc rfl rfl rfl (z := .agg (BW rz0 rz0 rz0 rz0)) (by kernel_rfl) rfl ?_
        intro bk18 _ _ hbk18_r
        simp only [Act.put, nA, nB, nC]
        refine Seq.store rfl rfl rfl rfl rfl (by repeat (first | exact rS | refine rN (by assumption) ?_)) (n := 12) rfl rfl (by kernel_rfl) (BC_one _ _ _ _) ?_
        simp only [Act.put, nA, nB, nC]
        refine Seq.done fun ws11 hws => ?_
        have HS11 := hws.list1 (p := bk18) (by repeat (first | exact rS | refine rN (by assumption) ?_))
        clear HS10 hws
        go_upto_region 13 with (fail)
        have HPbk10 := HS11.f4
        refine wp_seq [] (by kernel_rfl) (by kernel_rfl) (Reg.fin.put Reg.fin_no _ _) (StR.move (StR.no HPbk10)) ?_
        refine Seq.pure rfl rfl (by intro w; go_simp; try rfl) ?_
        simp only [Act.put, nA, nB, nC]
        refine Seq.loadAt rfl rfl rfl rfl (by repeat (first | exact mC | apply mT)) (n := 6) (cs' := VC b0 b1) (Nat.le_of_ble_eq_true rfl) (by kernel_rfl) rfl ?_
        simp only [Act.put, nA, nB, nC]
        refine Seq.pure rfl rfl (by intro w; go_simp; try rfl) ?_
        simp only [Act.put, nA, nB, nC]
        refine Seq.loadAt rfl rfl rfl rfl (by repeat (first | exact mC | apply mT)) (n := 6) (cs' := VC b2 b3) (Nat.le_of_ble_eq_true rfl) (by kernel_rfl) rfl ?_
        simp only [Act.put, nA, nB, nC]
        refine Seq.pure rfl rfl (by intro w; go_simp; try rfl) ?_
        simp only [Act.put, nA, nB, nC]
        refine Seq.storeAt (v := .agg (VC b0 b1)) rfl rfl rfl rfl rfl (by repeat (first | exact rS | refine rN (by assumption) ?_)) (Nat.le_of_ble_eq_true rfl) (by show _ = some 6; kernel_rfl) (VC_one _ _) (cs' := PW (rt b0) (rt b1) (rt v2) (rt v3) (rt v4) (rt v5)) rfl ?_
        simp only [Act.put, nA, nB, nC]
        refine Seq.pure rfl rfl (by intro w; go_simp; try rfl) ?_
        simp only [Act.put, nA, nB, nC]
        refine Seq.storeAt (v := .agg (VC b2 b3)) rfl rfl rfl rfl rfl (by repeat (first | exact rS | refine rN (by assumption) ?_)) (Nat.le_of_ble_eq_true rfl) (by show _ = some 6; kernel_rfl) (VC_one _ _) (cs' := PW (rt b0) (rt b1) (rt b2) (rt b3) (rt v4) (rt v5)) rfl ?_
        simp only [Act.put, nA, nB, nC]
        refine Seq.done fun ws12 hws => ?_
        have HS12 := hws.list1 (p := bk10) (by repeat (first | exact rS | refine rN (by assumption) ?_))
        clear HS11 hws HPbk10
        go_upto_region 14 with (fail)
        refine wp_seq_text [] (StR.no HS12) ?_
        refine Seq.load rfl rfl rfl rfl (by repeat (first | exact mC | apply mT)) (n := 18) rfl (by kernel_rfl) ?_
        simp only [Act.put, nA, nB, nC]
        refine Seq.load rfl rfl rfl rfl (by repeat (first | exact mC | apply mT)) (n := 18) rfl (by kernel_rfl) ?_
        simp only [Act.put, nA, nB, nC]
        refine Seq.call rfl rfl rfl rfl (by kernel_rfl) (same_e (k := (74 * k + 100)) HT.out (Z_b0.out.more (by omega)) (Z_b1.out.more (by omega)) (Z_b2.out.more (by omega)) (Z_b3.out.more (by omega)) (Z_v4.out.more (by omega)) (Z_v5.out.more (by omega)) (Z_b0.out.more (by omega)) (Z_b1.out.more (by omega)) (Z_b2.out.more (by omega)) (Z_b3.out.more (by omega)) (Z_v4.out.more (by omega)) (Z_v5.out.more (by omega)) HLB.out.1 HLB.out.2 HLV.out.2.2 ⟨rfl, rfl, rfl, rfl, rfl, rfl⟩  (by omega) (by omega)) ?_
        simp only [Act.put, nA, nB, nC]
        refine Seq.pure rfl rfl (by intro w; go_simp; try rfl) ?_
        simp only [Act.put, nA, nB, nC]
        refine Seq.done fun ws13 hws => ?_
        have HS13 := hws.st
        clear HS12 hws
        go_upto_region 16 with (fail)
        refine wp_seq_text [] (StR.no HS13) ?_
        refine Seq.load rfl rfl rfl rfl (by repeat (first | exact mC | apply mT)) (n := 18) rfl (by kernel_rfl) ?_
        simp only [Act.put, nA, nB, nC]
        refine Seq.load rfl rfl rfl rfl (by repeat (first | exact mC | apply mT)) (n := 10) rfl (by kernel_rfl) ?_
        simp only [Act.put, nA, nB, nC]
        refine Seq.load rfl rfl rfl rfl (by repeat (first | exact mC | apply mT)) (n := 10) rfl (by kernel_rfl) ?_
        simp only [Act.put, nA, nB, nC]
        refine Seq.call rfl rfl rfl rfl (by kernel_rfl) (carry_gno (k := k) HT.out Z_px.out Z_py.out Z_pt.out Z_g1.out Z_g2.out Z_gt.out Z_h1.out Z_h2.out Z_ht.out HGH.out HOKG.out hk0 (by omega)) ?_
        simp only [Act.put, nA, nB, nC]
        refine Seq.pure rfl rfl (by intro w; go_simp; try rfl) ?_
        simp only [Act.put, nA, nB, nC]
        refine Seq.pure (v := .agg (PW rz0 rz0 rz0 rz0 rz0 rz0)) rfl rfl (fun w => rfl) ?_
        simp only [Act.put, nA, nB, nC]
        refine Seq.pure (v := .int .i64 18) rfl rfl (fun w => rfl) ?_
        simp only [Act.put, nA, nB, nC]
        refine Seq.alloc rfl rfl rfl (z := .agg (PW rz0 rz0 rz0 rz0 rz0 rz0)) (by kernel_rfl) rfl ?_
        intro bk19 _ _ hbk19_r
        simp only [Act.put, nA, nB, nC]
        refine Seq.store rfl rfl rfl rfl rfl (by repeat (first | exact rS | refine rN (by assumption) ?_)) (n := 18) rfl rfl (by kernel_rfl) (PW_one _ _ _ _ _ _) ?_
        simp only [Act.put, nA, nB, nC]
        refine Seq.pure rfl rfl (by intro w; go_simp; try rfl) ?_
        simp only [Act.put, nA, nB, nC]
        refine Seq.done fun ws14 hws => ?_
        have HS14 := hws.list1 (p := bk19) (by repeat (first | exact rS | refine rN (by assumption) ?_))
        clear HS13 hws
        go_upto_region 17 with (fail)
        refine wp_seq_text [] (StR.no HS14) ?_
        iterate 2 (refine Seq.pure rfl rfl (by intro w; go_simp; try rfl) ?_; simp only [Act.put, nA, nB, nC])
        refine Seq.done fun ws15 hws => ?_
        have HS15 := hws.st
        clear HS14 hws
        go_upto_region 19 with (fail)
        refine wp_seq_text [] (StR.no HS15) ?_
        iterate 7 (refine Seq.pure rfl rfl (by intro w; go_simp; try rfl) ?_; simp only [Act.put, nA, nB, nC])
        iterate 3 (refine Seq.nw rfl ?_; simp only [Act.put, nA, nB, nC])
        iterate 3 (refine Seq.pure rfl rfl (by intro w; go_simp; try rfl) ?_; simp only [Act.put, nA, nB, nC])
        refine Seq.done fun ws16 hws => ?_
        have HS16 := hws.st
        clear HS15 hws
        go_wp2_with fail
        go_ret
        exact ⟨rfl, HS16.below⟩
      | false =>
        have HOKP := Lib.hid hokp
        go_upto_region 3 with (fail)
        refine wp_seq_text [] (StR.no HS3) ?_
        refine Seq.load rfl rfl rfl rfl (by repeat (first | exact mC | apply mT)) (n := 18) rfl (by kernel_rfl) ?_
        simp only [Act.put, nA, nB, nC]
        refine Seq.load rfl rfl rfl rfl (by repeat (first | exact mC | apply mT)) (n := 10) rfl (by kernel_rfl) ?_
        simp only [Act.put, nA, nB, nC]
        refine Seq.call rfl rfl rfl rfl (by kernel_rfl) (putOf_no (k := (1 * k + 2)) (g1_t := g1_t) (g2_t := g2_t) (gt_t := gt_t) HT.out ((Z_px.out.rz (by omega)).1.more (by omega)) ((Z_px.out.rz (by omega)).2.more (by omega)) ((Z_py.out.rz (by omega)).1.more (by omega)) ((Z_py.out.rz (by omega)).2.more (by omega)) ((Z_pt.out.rz (by omega)).1.more (by omega)) ((Z_pt.out.rz (by omega)).2.more (by omega)) (Z_g1.out.more (by omega)) (Z_g2.out.more (by omega)) (Z_gt.out.more (by omega)) HGH.out HOKP.out  (by omega) (by omega)) ?_
        simp only [Act.put, nA, nB, nC]
        refine Seq.pure rfl rfl (by intro w; go_simp; try rfl) ?_
        simp only [Act.put, nA, nB, nC]
        refine Seq.pure (v := .agg (PW rz0 rz0 rz0 rz0 rz0 rz0)) rfl rfl (fun w => rfl) ?_
        simp only [Act.put, nA, nB, nC]
        refine Seq.pure (v := .int .i64 18) rfl rfl (fun w => rfl) ?_
        simp only [Act.put, nA, nB, nC]
        refine Seq.alloc rfl rfl rfl (z := .agg (PW rz0 rz0 rz0 rz0 rz0 rz0)) (by kernel_rfl) rfl ?_
        intro bk10 _ _ hbk10_r
        simp only [Act.put, nA, nB, nC]
        refine Seq.store rfl rfl rfl rfl rfl (by repeat (first | exact rS | refine rN (by assumption) ?_)) (n := 18) rfl rfl (by kernel_rfl) (PW_one _ _ _ _ _ _) ?_
        simp only [Act.put, nA, nB, nC]
        refine Seq.pure rfl rfl (by intro w; go_simp; try rfl) ?_
        simp only [Act.put, nA, nB, nC]
        refine Seq.done fun ws4 hws => ?_
        have HS4 := hws.list1 (p := bk10) (by repeat (first | exact rS | refine rN (by assumption) ?_))
        clear HS3 hws
        go_upto_region 4 with (fail)
        refine wp_seq_text [] (StR.no HS4) ?_
        refine Seq.load rfl rfl rfl rfl (by repeat (first | exact mC | apply mT)) (n := 18) rfl (by kernel_rfl) ?_
        simp only [Act.put, nA, nB, nC]
        refine Seq.load rfl rfl rfl rfl (by repeat (first | exact mC | apply mT)) (n := 10) rfl (by kernel_rfl) ?_
        simp only [Act.put, nA, nB, nC]
        refine Seq.call rfl rfl rfl rfl (by kernel_rfl) (grip_no (k := (1 * k + 2)) (px1 := px1) (px2 := px2) (py1 := py1) (py2 := py2) (pt1 := pt1) (pt2 := pt2) (g1_t := g1_t) (g2_t := g2_t) (gt_t := gt_t) HT.out (Z_px.out.more (by omega)) (Z_py.out.more (by omega)) (Z_pt.out.more (by omega)) (Z_g1.out.more (by omega)) (Z_g2.out.more (by omega)) (Z_gt.out.more (by omega)) HGH.out HOKG.out  (by omega) (by omega)) ?_
        simp only [Act.put, nA, nB, nC]
        refine Seq.pure rfl rfl (by intro w; go_simp; try rfl) ?_
        simp only [Act.put, nA, nB, nC]
        refine Seq.pure (v := .agg (PW rz0 rz0 rz0 rz0 rz0 rz0)) rfl rfl (fun w => rfl) ?_
        simp only [Act.put, nA, nB, nC]
        refine Seq.pure (v := .int .i64 18) rfl rfl (fun w => rfl) ?_
        simp only [Act.put, nA, nB, nC]
        refine Seq.alloc rfl rfl rfl (z := .agg (PW rz0 rz0 rz0 rz0 rz0 rz0)) (by kernel_rfl) rfl ?_
        intro bk12 _ _ hbk12_r
        simp only [Act.put, nA, nB, nC]
        refine Seq.store rfl rfl rfl rfl rfl (by repeat (first | exact rS | refine rN (by assumption) ?_)) (n := 18) rfl rfl (by kernel_rfl) (PW_one _ _ _ _ _ _) ?_
        simp only [Act.put, nA, nB, nC]
        refine Seq.pure rfl rfl (by intro w; go_simp; try rfl) ?_
        simp only [Act.put, nA, nB, nC]
        refine Seq.done fun ws5 hws => ?_
        have HS5 := hws.list1 (p := bk12) (by repeat (first | exact rS | refine rN (by assumption) ?_))
        clear HS4 hws
        go_upto_region 5 with (fail)
        refine wp_seq_text [] (StR.no HS5) ?_
        refine Seq.load rfl rfl rfl rfl (by repeat (first | exact mC | apply mT)) (n := 18) rfl (by kernel_rfl) ?_
        simp only [Act.put, nA, nB, nC]
        refine Seq.load rfl rfl rfl rfl (by repeat (first | exact mC | apply mT)) (n := 10) rfl (by kernel_rfl) ?_
        simp only [Act.put, nA, nB, nC]
        refine Seq.call rfl rfl rfl rfl (by kernel_rfl) (put_no (k := (1 * k + 2)) (px1 := px1) (px2 := px2) (py1 := py1) (py2 := py2) (pt1 := pt1) (pt2 := pt2) (g1_t := g1_t) (g2_t := g2_t) (gt_t := gt_t) HT.out (Z_px.out.more (by omega)) (Z_py.out.more (by omega)) (Z_pt.out.more (by omega)) (Z_g1.out.more (by omega)) (Z_g2.out.more (by omega)) (Z_gt.out.more (by omega)) HGH.out HOKP.out  (by omega) (by omega)) ?_
        simp only [Act.put, nA, nB, nC]
        refine Seq.pure rfl rfl (by intro w; go_simp; try rfl) ?_
        simp only [Act.put, nA, nB, nC]
        refine Seq.pure (v := .agg (PW rz0 rz0 rz0 rz0 rz0 rz0)) rfl rfl (fun w => rfl) ?_
        simp only [Act.put, nA, nB, nC]
        refine Seq.pure (v := .int .i64 18) rfl rfl (fun w => rfl) ?_
        simp only [Act.put, nA, nB, nC]
        refine Seq.alloc rfl rfl rfl (z := .agg (PW rz0 rz0 rz0 rz0 rz0 rz0)) (by kernel_rfl) rfl ?_
        intro bk14 _ _ hbk14_r
        simp only [Act.put, nA, nB, nC]
        refine Seq.store rfl rfl rfl rfl rfl (by repeat (first | exact rS | refine rN (by assumption) ?_)) (n := 18) rfl rfl (by kernel_rfl) (PW_one _ _ _ _ _ _) ?_
        simp only [Act.put, nA, nB, nC]
        refine Seq.pure rfl rfl (by intro w; go_simp; try rfl) ?_
        simp only [Act.put, nA, nB, nC]
        refine Seq.done fun ws6 hws => ?_
        have HS6 := hws.list1 (p := bk14) (by repeat (first | exact rS | refine rN (by assumption) ?_))
        clear HS5 hws
        go_upto_region 6 with (fail)
        refine wp_seq_text [] (StR.no HS6) ?_
        refine Seq.call rfl rfl rfl rfl (by kernel_rfl) (carried_q HT.out) ?_
        simp only [Act.put, nA, nB, nC]
        iterate 15 (refine Seq.pure rfl rfl (by intro w; go_simp; try rfl) ?_; simp only [Act.put, nA, nB, nC])
        iterate 4 (refine Seq.nw rfl ?_; simp only [Act.put, nA, nB, nC])
        iterate 6 (refine Seq.pure rfl rfl (by intro w; go_simp; try rfl) ?_; simp only [Act.put, nA, nB, nC])
        iterate 4 (refine Seq.nw rfl ?_; simp only [Act.put, nA, nB, nC])
        iterate 2 (refine Seq.pure rfl rfl (by intro w; go_simp; try rfl) ?_; simp only [Act.put, nA, nB, nC])
        refine Seq.done fun ws7 hws => ?_
        have HS7 := hws.st
        clear HS6 hws
        go_upto_region 8 with (fail)
        refine wp_seq_text [] (StR.no HS7) ?_
        refine Seq.load rfl rfl rfl rfl (by repeat (first | exact mC | apply mT)) (n := 18) rfl (by kernel_rfl) ?_
        simp only [Act.put, nA, nB, nC]
        refine Seq.load rfl rfl rfl rfl (by repeat (first | exact mC | apply mT)) (n := 10) rfl (by kernel_rfl) ?_
        simp only [Act.put, nA, nB, nC]
        refine Seq.call rfl rfl rfl rfl (by kernel_rfl) (grasp_no (k := (1 * k + 2)) (px1 := px1) (px2 := px2) (py1 := py1) (py2 := py2) (pt1 := pt1) (pt2 := pt2) (g1_t := g1_t) (g2_t := g2_t) (gt_t := gt_t) HT.out (Z_px.out.more (by omega)) (Z_py.out.more (by omega)) (Z_pt.out.more (by omega)) (Z_g1.out.more (by omega)) (Z_g2.out.more (by omega)) (Z_gt.out.more (by omega)) HGH.out HOKP.out  (by omega) (by omega)) ?_
        simp only [Act.put, nA, nB, nC]
        refine Seq.pure rfl rfl (by intro w; go_simp; try rfl) ?_
        simp only [Act.put, nA, nB, nC]
        refine Seq.pure (v := .agg (PW rz0 rz0 rz0 rz0 rz0 rz0)) rfl rfl (fun w => rfl) ?_
        simp only [Act.put, nA, nB, nC]
        refine Seq.pure (v := .int .i64 18) rfl rfl (fun w => rfl) ?_
        simp only [Act.put, nA, nB, nC]
        refine Seq.alloc rfl rfl rfl (z := .agg (PW rz0 rz0 rz0 rz0 rz0 rz0)) (by kernel_rfl) rfl ?_
        intro bk16 _ _ hbk16_r
        simp only [Act.put, nA, nB, nC]
        refine Seq.store rfl rfl rfl rfl rfl (by repeat (first | exact rS | refine rN (by assumption) ?_)) (n := 18) rfl rfl (by kernel_rfl) (PW_one _ _ _ _ _ _) ?_
        simp only [Act.put, nA, nB, nC]
        refine Seq.pure rfl rfl (by intro w; go_simp; try rfl) ?_
        simp only [Act.put, nA, nB, nC]
        refine Seq.done fun ws8 hws => ?_
        have HS8 := hws.list1 (p := bk16) (by repeat (first | exact rS | refine rN (by assumption) ?_))
        clear HS7 hws
        go_upto_region 9 with (fail)
        refine wp_seq_text [] (StR.no HS8) ?_
        iterate 3 (refine Seq.pure rfl rfl (by intro w; go_simp; try rfl) ?_; simp only [Act.put, nA, nB, nC])
        refine Seq.done fun ws9 hws => ?_
        have HS9 := hws.st
        clear HS8 hws
        go_upto_region 11 with (fail)
        refine wp_seq_text [] (StR.no HS9) ?_
        iterate 2 (refine Seq.pure rfl rfl (by intro w; go_simp; try rfl) ?_; simp only [Act.put, nA, nB, nC])
        refine Seq.done fun ws10 hws => ?_
        have HS10 := hws.st
        clear HS9 hws
        go_upto_region 16 with (fail)
        refine wp_seq_text [] (StR.no HS10) ?_
        refine Seq.load rfl rfl rfl rfl (by repeat (first | exact mC | apply mT)) (n := 18) rfl (by kernel_rfl) ?_
        simp only [Act.put, nA, nB, nC]
        refine Seq.load rfl rfl rfl rfl (by repeat (first | exact mC | apply mT)) (n := 10) rfl (by kernel_rfl) ?_
        simp only [Act.put, nA, nB, nC]
        refine Seq.load rfl rfl rfl rfl (by repeat (first | exact mC | apply mT)) (n := 10) rfl (by kernel_rfl) ?_
        simp only [Act.put, nA, nB, nC]
        refine Seq.call rfl rfl rfl rfl (by kernel_rfl) (carry_gno (k := k) HT.out Z_px.out Z_py.out Z_pt.out Z_g1.out Z_g2.out Z_gt.out Z_h1.out Z_h2.out Z_ht.out HGH.out HOKG.out hk0 (by omega)) ?_
        simp only [Act.put, nA, nB, nC]
        refine Seq.pure rfl rfl (by intro w; go_simp; try rfl) ?_
        simp only [Act.put, nA, nB, nC]
        refine Seq.pure (v := .agg (PW rz0 rz0 rz0 rz0 rz0 rz0)) rfl rfl (fun w => rfl) ?_
        simp only [Act.put, nA, nB, nC]
        refine Seq.pure (v := .int .i64 18) rfl rfl (fun w => rfl) ?_
        simp only [Act.put, nA, nB, nC]
        refine Seq.alloc rfl rfl rfl (z := .agg (PW rz0 rz0 rz0 rz0 rz0 rz0)) (by kernel_rfl) rfl ?_
        intro bk19 _ _ hbk19_r
        simp only [Act.put, nA, nB, nC]
        refine Seq.store rfl rfl rfl rfl rfl (by repeat (first | exact rS | refine rN (by assumption) ?_)) (n := 18) rfl rfl (by kernel_rfl) (PW_one _ _ _ _ _ _) ?_
        simp only [Act.put, nA, nB, nC]
        refine Seq.pure rfl rfl (by intro w; go_simp; try rfl) ?_
        simp only [Act.put, nA, nB, nC]
        refine Seq.done fun ws11 hws => ?_
        have HS11 := hws.list1 (p := bk19) (by repeat (first | exact rS | refine rN (by assumption) ?_))
        clear HS10 hws
        go_upto_region 17 with (fail)
        refine wp_seq_text [] (StR.no HS11) ?_
        iterate 2 (refine Seq.pure rfl rfl (by intro w; go_simp; try rfl) ?_; simp only [Act.put, nA, nB, nC])
        refine Seq.done fun ws12 hws => ?_
        have HS12 := hws.st
        clear HS11 hws
        go_upto_region 19 with (fail)
        refine wp_seq_text [] (StR.no HS12) ?_
        iterate 7 (refine Seq.pure rfl rfl (by intro w; go_simp; try rfl) ?_; simp only [Act.put, nA, nB, nC])
        iterate 3 (refine Seq.nw rfl ?_; simp only [Act.put, nA, nB, nC])
        iterate 3 (refine Seq.pure rfl rfl (by intro w; go_simp; try rfl) ?_; simp only [Act.put, nA, nB, nC])
        refine Seq.done fun ws13 hws => ?_
        have HS13 := hws.st
        clear HS12 hws
        go_wp2_with fail
        go_ret
        exact ⟨rfl, HS13.below⟩
end Go.Proofs.YtdhhbpnnahdofaaDoor
