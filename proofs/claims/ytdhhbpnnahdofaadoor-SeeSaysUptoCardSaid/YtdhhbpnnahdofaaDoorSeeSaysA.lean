/- The law SeeSays, over numbers that came in: the poses have frames in common. -/
import Derived.Test.YtdhhbpnnahdofaaDoorSe7
import Derived.Test.YtdhhbpnnahdofaaDoorSeM
import Derived.LoopN

namespace Go.Proofs.YtdhhbpnnahdofaaDoor
open Go.RowKit
set_option linter.unusedVariables false
set_option linter.unusedSimpArgs false

set_option maxHeartbeats 8000000 in
set_option maxRecDepth 20000 in
theorem seeSays_yes {k : Nat} {pxl pxh : Rat} {pxg : Bool} {px1 px2 : RT} {pyl pyh : Rat} {pyg : Bool} {py1 py2 : RT} {ptl pth : Rat} {ptg : Bool} {pt1 pt2 : RT} {qxl qxh : Rat} {qxg : Bool} {qx1 qx2 : RT} {qyl qyh : Rat} {qyg : Bool} {qy1 qy2 : RT} {qtl qth : Rat} {qtg : Bool} {qt1 qt2 : RT} {f1 : Rat} {f1_g : Bool} {f1_t : RT} {f2 : Rat} {f2_g : Bool} {f2_t : RT} {fh : Bool} {ft : Rat} {ft_g : Bool} {ft_t : RT} {b : Rat} {b_g : Bool} {b_t : RT} {u : Rat} {u_g : Bool} {u_t : RT} {W : World} {l : List Own} (hT : Tab W) (Zpx : RawS k pxl pxh pxg px1 px2) (Zpy : RawS k pyl pyh pyg py1 py2) (Zpt : RawS k ptl pth ptg pt1 pt2) (Zqx : RawS k qxl qxh qxg qx1 qx2) (Zqy : RawS k qyl qyh qyg qy1 qy2) (Zqt : RawS k qtl qth qtg qt1 qt2) (Zf1 : RawT k f1 f1_g f1_t) (Zf2 : RawT k f2 f2_g f2_t) (Zft : RawT k ft ft_g ft_t) (Zb : RawT k b b_g b_t) (Zu : RawT k u u_g u_t) (hk1 : okQ pxl pxh pyl pyh ptl pth qxl qxh qyl qyh qtl qth = true) (hk0 : 2 ≤ k) (hk : k ≤ 199999999998) (w : World) (h : St W l w) :
    Calls Tryd.prog 4 #[.agg (PW px1 px2 py1 py2 pt1 pt2), .agg (PW qx1 qx2 qy1 qy2 qt1 qt2), .agg (FW f1_t f2_t fh ft_t), .agg (RT.c b_t), .agg (RT.c u_t)] w fun e w' => e = .returned (.bool true) ∧ Below w.heap.size w w' := by
  have HT := Lib.hid (tabS hT h); clear hT h
  have Z_px := Lib.hid Zpx; clear Zpx
  have Z_py := Lib.hid Zpy; clear Zpy
  have Z_pt := Lib.hid Zpt; clear Zpt
  have Z_qx := Lib.hid Zqx; clear Zqx
  have Z_qy := Lib.hid Zqy; clear Zqy
  have Z_qt := Lib.hid Zqt; clear Zqt
  have Z_f1 := Lib.hid Zf1; clear Zf1
  have Z_f2 := Lib.hid Zf2; clear Zf2
  have Z_ft := Lib.hid Zft; clear Zft
  have Z_b := Lib.hid Zb; clear Zb
  have Z_u := Lib.hid Zu; clear Zu
  have HK := Lib.hid hk1; clear hk1
  have HL := Lib.hid (okQ_le HK.out)
  obtain ⟨vs, hvs⟩ : ∃ b, sameQ (maxQ pxl qxl) (minQ pxh qxh) (maxQ pyl qyl) (minQ pyh qyh) (maxQ ptl qtl) (minQ pth qth) pxl pxh pyl pyh ptl pth = b := ⟨_, rfl⟩
  have HIN := Lib.hid (show insQ pxl pxh pyl pyh ptl pth qxl qxh qyl qyh qtl qth = vs from by rw [ins_me Z_px.out.le Z_py.out.le Z_pt.out.le, HK.out, hvs]; rfl)
  have HS1 := Lib.hid hvs; clear hvs
  obtain ⟨vi, hvi⟩ : ∃ b, inQ fh pxl pxh pyl pyh ptl pth f1 f2 ft = b := ⟨_, rfl⟩
  have HI := Lib.hid hvi; clear hvi
  obtain ⟨vq, hvq⟩ : ∃ b, sameQ pxl pxh pyl pyh ptl pth qxl qxh qyl qyh qtl qth = b := ⟨_, rfl⟩
  have HSA := Lib.hid (show (insQ pxl pxh pyl pyh ptl pth qxl qxh qyl qyh qtl qth && insQ qxl qxh qyl qyh qtl qth pxl pxh pyl pyh ptl pth) = vq from ins_same.trans hvq)
  have HSB := Lib.hid hvq; clear hvq
  have HSP := Lib.hid (show fh = true ∨ (fh = false ∧ okQ pxl pxh pyl pyh ptl pth (f1 - maxQ b 0) (f1 + maxQ b 0) (f2 - maxQ b 0) (f2 + maxQ b 0) (ft - maxQ u 0) (ft + maxQ u 0) = true) ∨ (fh = false ∧ okQ pxl pxh pyl pyh ptl pth (f1 - maxQ b 0) (f1 + maxQ b 0) (f2 - maxQ b 0) (f2 + maxQ b 0) (ft - maxQ u 0) (ft + maxQ u 0) = false) from by cases fh <;> cases okQ pxl pxh pyl pyh ptl pth (f1 - maxQ b 0) (f1 + maxQ b 0) (f2 - maxQ b 0) (f2 + maxQ b 0) (ft - maxQ u 0) (ft + maxQ u 0) <;> simp)
  go_enter Tryd.func4, Tryd.ntmps4
  have HS : St w [] w := St.start
  go_upto_region 0 with (fail)
  refine wp_seq_text [] (StR.no HS) ?_
  refine Seq.box rfl rfl rfl (v := .agg (PW px1 px2 py1 py2 pt1 pt2)) (cs := PW px1 px2 py1 py2 pt1 pt2) rfl rfl ?_
  intro bk5 _ _ hbk5_r
  simp only [Act.put, nA, nB, nC]
  refine Seq.box rfl rfl rfl (v := .agg (PW qx1 qx2 qy1 qy2 qt1 qt2)) (cs := PW qx1 qx2 qy1 qy2 qt1 qt2) rfl rfl ?_
  intro bk6 _ _ hbk6_r
  obtain ⟨ne_bk6_bk5, hbk6_r⟩ := Reg.ne_of_put hbk6_r
  have ne_bk5_bk6 := Ne.symm ne_bk6_bk5
  simp only [Act.put, nA, nB, nC]
  refine Seq.box rfl rfl rfl (v := .agg (FW f1_t f2_t fh ft_t)) (cs := FW f1_t f2_t fh ft_t) rfl rfl ?_
  intro bk7 _ _ hbk7_r
  obtain ⟨ne_bk7_bk6, hbk7_r⟩ := Reg.ne_of_put hbk7_r
  have ne_bk6_bk7 := Ne.symm ne_bk7_bk6
  obtain ⟨ne_bk7_bk5, hbk7_r⟩ := Reg.ne_of_put hbk7_r
  have ne_bk5_bk7 := Ne.symm ne_bk7_bk5
  simp only [Act.put, nA, nB, nC]
  refine Seq.box rfl rfl rfl (v := .agg (RT.c b_t)) (cs := RT.c b_t) rfl rfl ?_
  intro bk8 _ _ hbk8_r
  obtain ⟨ne_bk8_bk7, hbk8_r⟩ := Reg.ne_of_put hbk8_r
  have ne_bk7_bk8 := Ne.symm ne_bk8_bk7
  obtain ⟨ne_bk8_bk6, hbk8_r⟩ := Reg.ne_of_put hbk8_r
  have ne_bk6_bk8 := Ne.symm ne_bk8_bk6
  obtain ⟨ne_bk8_bk5, hbk8_r⟩ := Reg.ne_of_put hbk8_r
  have ne_bk5_bk8 := Ne.symm ne_bk8_bk5
  simp only [Act.put, nA, nB, nC]
  refine Seq.box rfl rfl rfl (v := .agg (RT.c u_t)) (cs := RT.c u_t) rfl rfl ?_
  intro bk9 _ _ hbk9_r
  obtain ⟨ne_bk9_bk8, hbk9_r⟩ := Reg.ne_of_put hbk9_r
  have ne_bk8_bk9 := Ne.symm ne_bk9_bk8
  obtain ⟨ne_bk9_bk7, hbk9_r⟩ := Reg.ne_of_put hbk9_r
  have ne_bk7_bk9 := Ne.symm ne_bk9_bk7
  obtain ⟨ne_bk9_bk6, hbk9_r⟩ := Reg.ne_of_put hbk9_r
  have ne_bk6_bk9 := Ne.symm ne_bk9_bk6
  obtain ⟨ne_bk9_bk5, hbk9_r⟩ := Reg.ne_of_put hbk9_r
  have ne_bk5_bk9 := Ne.symm ne_bk9_bk5
  simp only [Act.put, nA, nB, nC]
  refine Seq.pure rfl rfl (by intro w; go_simp; try rfl) ?_
  simp only [Act.put, nA, nB, nC]
  refine Seq.done fun ws1 hws => ?_
  have HS1 : St w [(bk5, 36, PW px1 px2 py1 py2 pt1 pt2), (bk6, 36, PW qx1 qx2 qy1 qy2 qt1 qt2), (bk7, 42, FW f1_t f2_t fh ft_t), (bk8, 32, RT.c b_t), (bk9, 32, RT.c u_t)] ws1 := hws.listN [(bk5, 36, PW px1 px2 py1 py2 pt1 pt2), (bk6, 36, PW qx1 qx2 qy1 qy2 qt1 qt2), (bk7, 42, FW f1_t f2_t fh ft_t), (bk8, 32, RT.c b_t), (bk9, 32, RT.c u_t)] (by simp [*]) (by intro e he; simp only [List.mem_cons, List.not_mem_nil, or_false] at he; rcases he with rfl | rfl | rfl | rfl | rfl <;> first | exact Reg.put_same _ _ _ | simp [Reg.put, *])
  clear HS hws
  go_upto_region 1 with (fail)
  refine wp_seq [] (by kernel_rfl) (by kernel_rfl) Reg.fin_no (StR.no HS1) ?_
  refine Seq.load rfl rfl rfl rfl (by repeat (first | exact mC | apply mT)) (n := 18) rfl (by kernel_rfl) ?_
  simp only [Act.put, nA, nB, nC]
  refine Seq.call rfl rfl rfl rfl (by kernel_rfl) (poseOf_w (k := (1 * k + 2)) (px1 := px1) (px2 := px2) (py1 := py1) (py2 := py2) (pt1 := pt1) (pt2 := pt2) HT.out (Z_px.out.more (by omega)) (Z_py.out.more (by omega)) (Z_pt.out.more (by omega))  rfl rfl rfl rfl rfl rfl (by omega) (by omega)) ?_
  simp only [Act.put, nA, nB, nC]
  refine Seq.load rfl rfl rfl rfl (by repeat (first | exact mC | apply mT)) (n := 18) rfl (by kernel_rfl) ?_
  simp only [Act.put, nA, nB, nC]
  refine Seq.call rfl rfl rfl rfl (by kernel_rfl) (poseOf_w (k := (1 * k + 2)) (px1 := qx1) (px2 := qx2) (py1 := qy1) (py2 := qy2) (pt1 := qt1) (pt2 := qt2) HT.out (Z_qx.out.more (by omega)) (Z_qy.out.more (by omega)) (Z_qt.out.more (by omega))  rfl rfl rfl rfl rfl rfl (by omega) (by omega)) ?_
  simp only [Act.put, nA, nB, nC]
  refine Seq.alloc rfl rfl rfl (z := .agg (PW rz0 rz0 rz0 rz0 rz0 rz0)) (by kernel_rfl) rfl ?_
  intro bk11 _ _ hbk11_r
  simp only [Act.put, nA, nB, nC]
  refine Seq.alloc rfl rfl rfl (z := .agg (PW rz0 rz0 rz0 rz0 rz0 rz0)) (by kernel_rfl) rfl ?_
  intro bk12 _ _ hbk12_r
  obtain ⟨ne_bk12_bk11, hbk12_r⟩ := Reg.ne_of_put hbk12_r
  have ne_bk11_bk12 := Ne.symm ne_bk12_bk11
  simp only [Act.put, nA, nB, nC]
  refine Seq.store rfl rfl rfl rfl rfl (by repeat (first | exact rS | refine rN (by assumption) ?_)) (n := 18) rfl rfl (by kernel_rfl) (PW_one _ _ _ _ _ _) ?_
  simp only [Act.put, nA, nB, nC]
  refine Seq.store rfl rfl rfl rfl rfl (by repeat (first | exact rS | refine rN (by assumption) ?_)) (n := 18) rfl rfl (by kernel_rfl) (PW_one _ _ _ _ _ _) ?_
  simp only [Act.put, nA, nB, nC]
  refine Seq.done fun ws2 hws => ?_
  have HS2 := hws.list2 (p := bk11) (q := bk12) (by repeat (first | exact rS | refine rN (by assumption) ?_)) (by repeat (first | exact rS | refine rN (by assumption) ?_)) (by assumption)
  clear HS1 hws
  go_upto_region 2 with (fail)
  refine wp_seq [] (by kernel_rfl) (by kernel_rfl) Reg.fin_no (StR.no HS2) ?_
  refine Seq.call rfl rfl rfl rfl (by kernel_rfl) (seen_q HT.out) ?_
  simp only [Act.put, nA, nB, nC]
  iterate 2 (refine Seq.pure rfl rfl (by intro w; go_simp; try rfl) ?_; simp only [Act.put, nA, nB, nC])
  refine Seq.load rfl rfl rfl rfl (by repeat (first | exact mC | apply mT)) (n := 18) rfl (by kernel_rfl) ?_
  simp only [Act.put, nA, nB, nC]
  refine Seq.load rfl rfl rfl rfl (by repeat (first | exact mC | apply mT)) (n := 10) rfl (by kernel_rfl) ?_
  simp only [Act.put, nA, nB, nC]
  refine Seq.call rfl rfl rfl rfl (by kernel_rfl) (shas_w (k := (1 * k + 2)) (px1 := px1) (px2 := px2) (py1 := py1) (py2 := py2) (pt1 := pt1) (pt2 := pt2) (f1_t := f1_t) (f2_t := f2_t) (ft_t := ft_t) HT.out (Z_px.out.more (by omega)) (Z_py.out.more (by omega)) (Z_pt.out.more (by omega)) (Z_f1.out.more (by omega)) (Z_f2.out.more (by omega)) (Z_ft.out.more (by omega))  HI.out (by omega) (by omega)) ?_
  simp only [Act.put, nA, nB, nC]
  refine Seq.load rfl rfl rfl rfl (by repeat (first | exact mC | apply mT)) (n := 18) rfl (by kernel_rfl) ?_
  simp only [Act.put, nA, nB, nC]
  refine Seq.load rfl rfl rfl rfl (by repeat (first | exact mC | apply mT)) (n := 10) rfl (by kernel_rfl) ?_
  simp only [Act.put, nA, nB, nC]
  refine Seq.call rfl rfl rfl rfl (by kernel_rfl) (inPose_w (k := (1 * k + 2)) (f1_t := f1_t) (f2_t := f2_t) (ft_t := ft_t) HT.out ((Z_px.out.rz (by omega)).1.more (by omega)) ((Z_px.out.rz (by omega)).2.more (by omega)) ((Z_py.out.rz (by omega)).1.more (by omega)) ((Z_py.out.rz (by omega)).2.more (by omega)) ((Z_pt.out.rz (by omega)).1.more (by omega)) ((Z_pt.out.rz (by omega)).2.more (by omega)) (Z_f1.out.more (by omega)) (Z_f2.out.more (by omega)) (Z_ft.out.more (by omega))  HI.out (by omega) (by omega)) ?_
  simp only [Act.put, nA, nB, nC]
  refine Seq.pure (v := .bool false) rfl rfl (by intro w; go_simp <;> (first | (rw [(bne_self_eq_false vi)]; done) | exact (bne_self_eq_false vi) | (simp [(bne_self_eq_false vi)]; done) | (trace_state; done))) ?_
  simp only [Act.put, nA, nB, nC]
  iterate 2 (refine Seq.pure rfl rfl (by intro w; go_simp; try rfl) ?_; simp only [Act.put, nA, nB, nC])
  refine Seq.load rfl rfl rfl rfl (by repeat (first | exact mC | apply mT)) (n := 18) rfl (by kernel_rfl) ?_
  simp only [Act.put, nA, nB, nC]
  refine Seq.load rfl rfl rfl rfl (by repeat (first | exact mC | apply mT)) (n := 3) rfl (by kernel_rfl) ?_
  simp only [Act.put, nA, nB, nC]
  refine Seq.load rfl rfl rfl rfl (by repeat (first | exact mC | apply mT)) (n := 3) rfl (by kernel_rfl) ?_
  simp only [Act.put, nA, nB, nC]
  refine Seq.call rfl rfl rfl rfl (by kernel_rfl) (widen_w (k := (1 * k + 2)) (px1 := px1) (px2 := px2) (py1 := py1) (py2 := py2) (pt1 := pt1) (pt2 := pt2) (b_t := b_t) (u_t := u_t) HT.out (Z_px.out.more (by omega)) (Z_py.out.more (by omega)) (Z_pt.out.more (by omega)) (Z_b.out.more (by omega)) (Z_u.out.more (by omega))  rfl rfl rfl rfl rfl rfl (by omega) (by omega)) ?_
  simp only [Act.put, nA, nB, nC]
  refine Seq.load rfl rfl rfl rfl (by repeat (first | exact mC | apply mT)) (n := 18) rfl (by kernel_rfl) ?_
  simp only [Act.put, nA, nB, nC]
  refine Seq.load rfl rfl rfl rfl (by repeat (first | exact mC | apply mT)) (n := 3) rfl (by kernel_rfl) ?_
  simp only [Act.put, nA, nB, nC]
  refine Seq.load rfl rfl rfl rfl (by repeat (first | exact mC | apply mT)) (n := 3) rfl (by kernel_rfl) ?_
  simp only [Act.put, nA, nB, nC]
  refine Seq.call rfl rfl rfl rfl (by kernel_rfl) (wideOf_w (k := (1 * k + 2)) (b_t := b_t) (u_t := u_t) HT.out ((Z_px.out.rz (by omega)).1.more (by omega)) ((Z_px.out.rz (by omega)).2.more (by omega)) ((Z_py.out.rz (by omega)).1.more (by omega)) ((Z_py.out.rz (by omega)).2.more (by omega)) ((Z_pt.out.rz (by omega)).1.more (by omega)) ((Z_pt.out.rz (by omega)).2.more (by omega)) (Z_b.out.more (by omega)) (Z_u.out.more (by omega))  rfl rfl rfl rfl rfl rfl (by omega) (by omega)) ?_
  simp only [Act.put, nA, nB, nC]
  refine Seq.call rfl rfl rfl rfl (by kernel_rfl) (same_q (k := (4 * k + 5)) HT.out (((Z_px.out.rz (by omega)).1.sub (Rz.max (k := (1 * k + 2)) (Rz.more Z_b.out.rz (by omega)) (Rz.zero2.more (by omega)))).more (by omega)) (((Z_px.out.rz (by omega)).2.add (Rz.max (k := (1 * k + 2)) (Rz.more Z_b.out.rz (by omega)) (Rz.zero2.more (by omega)))).more (by omega)) (((Z_py.out.rz (by omega)).1.sub (Rz.max (k := (1 * k + 2)) (Rz.more Z_b.out.rz (by omega)) (Rz.zero2.more (by omega)))).more (by omega)) (((Z_py.out.rz (by omega)).2.add (Rz.max (k := (1 * k + 2)) (Rz.more Z_b.out.rz (by omega)) (Rz.zero2.more (by omega)))).more (by omega)) (((Z_pt.out.rz (by omega)).1.sub (Rz.max (k := (1 * k + 2)) (Rz.more Z_u.out.rz (by omega)) (Rz.zero2.more (by omega)))).more (by omega)) (((Z_pt.out.rz (by omega)).2.add (Rz.max (k := (1 * k + 2)) (Rz.more Z_u.out.rz (by omega)) (Rz.zero2.more (by omega)))).more (by omega)) (((Z_px.out.rz (by omega)).1.sub (Rz.max (k := (1 * k + 2)) (Rz.more Z_b.out.rz (by omega)) (Rz.zero2.more (by omega)))).more (by omega)) (((Z_px.out.rz (by omega)).2.add (Rz.max (k := (1 * k + 2)) (Rz.more Z_b.out.rz (by omega)) (Rz.zero2.more (by omega)))).more (by omega)) (((Z_py.out.rz (by omega)).1.sub (Rz.max (k := (1 * k + 2)) (Rz.more Z_b.out.rz (by omega)) (Rz.zero2.more (by omega)))).more (by omega)) (((Z_py.out.rz (by omega)).2.add (Rz.max (k := (1 * k + 2)) (Rz.more Z_b.out.rz (by omega)) (Rz.zero2.more (by omega)))).more (by omega)) (((Z_pt.out.rz (by omega)).1.sub (Rz.max (k := (1 * k + 2)) (Rz.more Z_u.out.rz (by omega)) (Rz.zero2.more (by omega)))).more (by omega)) (((Z_pt.out.rz (by omega)).2.add (Rz.max (k := (1 * k + 2)) (Rz.more Z_u.out.rz (by omega)) (Rz.zero2.more (by omega)))).more (by omega)) (wide_le Z_px.out.le) (wide_le Z_py.out.le) (wide_le Z_pt.out.le) ⟨rfl, rfl, rfl, rfl, rfl, rfl⟩  (by omega) (by omega)) ?_
  simp only [Act.put, nA, nB, nC]
  iterate 2 (refine Seq.pure rfl rfl (by intro w; go_simp; try rfl) ?_; simp only [Act.put, nA, nB, nC])
  refine Seq.done fun ws3 hws => ?_
  have HS3 := hws.st
  clear HS2 hws
  go_upto_region 4 with (fail)
  refine wp_seq_text [] (StR.no HS3) ?_
  refine Seq.load rfl rfl rfl rfl (by repeat (first | exact mC | apply mT)) (n := 18) rfl (by kernel_rfl) ?_
  simp only [Act.put, nA, nB, nC]
  refine Seq.load rfl rfl rfl rfl (by repeat (first | exact mC | apply mT)) (n := 18) rfl (by kernel_rfl) ?_
  simp only [Act.put, nA, nB, nC]
  refine Seq.call rfl rfl rfl rfl (by kernel_rfl) (fun w h => (meetOf_any (k := (1 * k + 2)) HT.out ((Z_px.out.rz (by omega)).1.more (by omega)) ((Z_px.out.rz (by omega)).2.more (by omega)) ((Z_py.out.rz (by omega)).1.more (by omega)) ((Z_py.out.rz (by omega)).2.more (by omega)) ((Z_pt.out.rz (by omega)).1.more (by omega)) ((Z_pt.out.rz (by omega)).2.more (by omega)) ((Z_qx.out.rz (by omega)).1.more (by omega)) ((Z_qx.out.rz (by omega)).2.more (by omega)) ((Z_qy.out.rz (by omega)).1.more (by omega)) ((Z_qy.out.rz (by omega)).2.more (by omega)) ((Z_qt.out.rz (by omega)).1.more (by omega)) ((Z_qt.out.rz (by omega)).2.more (by omega)) (by omega) w h).mono (fun e w2 hh => ⟨hh.1.trans (congrArg Ending.returned (mRQ_yes HK.out)), hh.2⟩)) ?_
  simp only [Act.put, nA, nB, nC]
  refine Seq.pure rfl rfl (by intro w; go_simp; try rfl) ?_
  simp only [Act.put, nA, nB, nC]
  refine Seq.pure (v := .agg (PW (rt (maxQ pxl qxl)) (rt (minQ pxh qxh)) (rt (maxQ pyl qyl)) (rt (minQ pyh qyh)) (rt (maxQ ptl qtl)) (rt (minQ pth qth)))) rfl rfl (fun w => rfl) ?_
  simp only [Act.put, nA, nB, nC]
  refine Seq.pure (v := .bool true) rfl rfl (fun w => rfl) ?_
  simp only [Act.put, nA, nB, nC]
  refine Seq.alloc rfl rfl rfl (z := .agg (PW rz0 rz0 rz0 rz0 rz0 rz0)) (by kernel_rfl) rfl ?_
  intro bk13 _ _ hbk13_r
  simp only [Act.put, nA, nB, nC]
  refine Seq.store rfl rfl rfl rfl rfl (by repeat (first | exact rS | refine rN (by assumption) ?_)) (n := 18) rfl rfl (by kernel_rfl) (PW_one _ _ _ _ _ _) ?_
  simp only [Act.put, nA, nB, nC]
  refine Seq.pure rfl rfl (by intro w; go_simp; try rfl) ?_
  simp only [Act.put, nA, nB, nC]
  refine Seq.done fun ws4 hws => ?_
  have HS4 := hws.list1 (p := bk13) (by repeat (first | exact rS | refine rN (by assumption) ?_))
  clear HS3 hws
  go_upto_region 5 with (fail)
  refine wp_seq_text [] (StR.no HS4) ?_
  refine Seq.load rfl rfl rfl rfl (by repeat (first | exact mC | apply mT)) (n := 18) rfl (by kernel_rfl) ?_
  simp only [Act.put, nA, nB, nC]
  refine Seq.load rfl rfl rfl rfl (by repeat (first | exact mC | apply mT)) (n := 18) rfl (by kernel_rfl) ?_
  simp only [Act.put, nA, nB, nC]
  refine Seq.call rfl rfl rfl rfl (by kernel_rfl) (fun w h => (narrow_w (k := (1 * k + 2)) (px1 := px1) (px2 := px2) (py1 := py1) (py2 := py2) (pt1 := pt1) (pt2 := pt2) (qx1 := qx1) (qx2 := qx2) (qy1 := qy1) (qy2 := qy2) (qt1 := qt1) (qt2 := qt2) HT.out (Z_px.out.more (by omega)) (Z_py.out.more (by omega)) (Z_pt.out.more (by omega)) (Z_qx.out.more (by omega)) (Z_qy.out.more (by omega)) (Z_qt.out.more (by omega)) (by omega) (by omega) w h).mono (fun e w2 hh => ⟨hh.1.trans (congrArg Ending.returned (naQ_yes HK.out)), hh.2⟩)) ?_
  simp only [Act.put, nA, nB, nC]
  refine Seq.pure rfl rfl (by intro w; go_simp; try rfl) ?_
  simp only [Act.put, nA, nB, nC]
  refine Seq.pure (v := .agg (PW (rt (maxQ pxl qxl)) (rt (minQ pxh qxh)) (rt (maxQ pyl qyl)) (rt (minQ pyh qyh)) (rt (maxQ ptl qtl)) (rt (minQ pth qth)))) rfl rfl (fun w => rfl) ?_
  simp only [Act.put, nA, nB, nC]
  refine Seq.pure (v := .int .i64 0) rfl rfl (fun w => rfl) ?_
  simp only [Act.put, nA, nB, nC]
  refine Seq.alloc rfl rfl rfl (z := .agg (PW rz0 rz0 rz0 rz0 rz0 rz0)) (by kernel_rfl) rfl ?_
  intro bk15 _ _ hbk15_r
  simp only [Act.put, nA, nB, nC]
  refine Seq.store rfl rfl rfl rfl rfl (by repeat (first | exact rS | refine rN (by assumption) ?_)) (n := 18) rfl rfl (by kernel_rfl) (PW_one _ _ _ _ _ _) ?_
  simp only [Act.put, nA, nB, nC]
  refine Seq.pure rfl rfl (by intro w; go_simp; try rfl) ?_
  simp only [Act.put, nA, nB, nC]
  refine Seq.done fun ws5 hws => ?_
  have HS5 := hws.list1 (p := bk15) (by repeat (first | exact rS | refine rN (by assumption) ?_))
  clear HS4 hws
  go_upto_region 6 with (fail)
  refine wp_seq_text [] (StR.no HS5) ?_
  iterate 2 (refine Seq.pure rfl rfl (by intro w; go_simp; try rfl) ?_; simp only [Act.put, nA, nB, nC])
  refine Seq.load rfl rfl rfl rfl (by repeat (first | exact mC | apply mT)) (n := 18) rfl (by kernel_rfl) ?_
  simp only [Act.put, nA, nB, nC]
  refine Seq.load rfl rfl rfl rfl (by repeat (first | exact mC | apply mT)) (n := 18) rfl (by kernel_rfl) ?_
  simp only [Act.put, nA, nB, nC]
  refine Seq.call rfl rfl rfl rfl (by kernel_rfl) (samePose_q (k := (1 * k + 2)) HT.out ((Rz.max (k := (1 * k + 0)) ((Z_px.out.rz (by omega)).1.more (by omega)) ((Z_qx.out.rz (by omega)).1.more (by omega))).more (by omega)) ((Rz.min (k := (1 * k + 0)) ((Z_px.out.rz (by omega)).2.more (by omega)) ((Z_qx.out.rz (by omega)).2.more (by omega))).more (by omega)) ((Rz.max (k := (1 * k + 0)) ((Z_py.out.rz (by omega)).1.more (by omega)) ((Z_qy.out.rz (by omega)).1.more (by omega))).more (by omega)) ((Rz.min (k := (1 * k + 0)) ((Z_py.out.rz (by omega)).2.more (by omega)) ((Z_qy.out.rz (by omega)).2.more (by omega))).more (by omega)) ((Rz.max (k := (1 * k + 0)) ((Z_pt.out.rz (by omega)).1.more (by omega)) ((Z_qt.out.rz (by omega)).1.more (by omega))).more (by omega)) ((Rz.min (k := (1 * k + 0)) ((Z_pt.out.rz (by omega)).2.more (by omega)) ((Z_qt.out.rz (by omega)).2.more (by omega))).more (by omega)) ((Z_px.out.rz (by omega)).1.more (by omega)) ((Z_px.out.rz (by omega)).2.more (by omega)) ((Z_py.out.rz (by omega)).1.more (by omega)) ((Z_py.out.rz (by omega)).2.more (by omega)) ((Z_pt.out.rz (by omega)).1.more (by omega)) ((Z_pt.out.rz (by omega)).2.more (by omega))  HS1.out (by omega) (by omega)) ?_
  simp only [Act.put, nA, nB, nC]
  iterate 2 (refine Seq.pure rfl rfl (by intro w; go_simp; try rfl) ?_; simp only [Act.put, nA, nB, nC])
  refine Seq.done fun ws6 hws => ?_
  have HS6 := hws.st
  clear HS5 hws
  go_upto_region 7 with (fail)
  refine wp_seq [] (by kernel_rfl) (by kernel_rfl) Reg.fin_no (StR.no HS6) ?_
  iterate 7 (refine Seq.pure rfl rfl (by intro w; go_simp; try rfl) ?_; simp only [Act.put, nA, nB, nC])
  refine Seq.load rfl rfl rfl rfl (by repeat (first | exact mC | apply mT)) (n := 18) rfl (by kernel_rfl) ?_
  simp only [Act.put, nA, nB, nC]
  refine Seq.load rfl rfl rfl rfl (by repeat (first | exact mC | apply mT)) (n := 18) rfl (by kernel_rfl) ?_
  simp only [Act.put, nA, nB, nC]
  refine Seq.call rfl rfl rfl rfl (by kernel_rfl) (same_q (k := (1 * k + 2)) HT.out ((Rz.max (k := (1 * k + 0)) ((Z_px.out.rz (by omega)).1.more (by omega)) ((Z_qx.out.rz (by omega)).1.more (by omega))).more (by omega)) ((Rz.min (k := (1 * k + 0)) ((Z_px.out.rz (by omega)).2.more (by omega)) ((Z_qx.out.rz (by omega)).2.more (by omega))).more (by omega)) ((Rz.max (k := (1 * k + 0)) ((Z_py.out.rz (by omega)).1.more (by omega)) ((Z_qy.out.rz (by omega)).1.more (by omega))).more (by omega)) ((Rz.min (k := (1 * k + 0)) ((Z_py.out.rz (by omega)).2.more (by omega)) ((Z_qy.out.rz (by omega)).2.more (by omega))).more (by omega)) ((Rz.max (k := (1 * k + 0)) ((Z_pt.out.rz (by omega)).1.more (by omega)) ((Z_qt.out.rz (by omega)).1.more (by omega))).more (by omega)) ((Rz.min (k := (1 * k + 0)) ((Z_pt.out.rz (by omega)).2.more (by omega)) ((Z_qt.out.rz (by omega)).2.more (by omega))).more (by omega)) ((Rz.max (k := (1 * k + 0)) ((Z_px.out.rz (by omega)).1.more (by omega)) ((Z_qx.out.rz (by omega)).1.more (by omega))).more (by omega)) ((Rz.min (k := (1 * k + 0)) ((Z_px.out.rz (by omega)).2.more (by omega)) ((Z_qx.out.rz (by omega)).2.more (by omega))).more (by omega)) ((Rz.max (k := (1 * k + 0)) ((Z_py.out.rz (by omega)).1.more (by omega)) ((Z_qy.out.rz (by omega)).1.more (by omega))).more (by omega)) ((Rz.min (k := (1 * k + 0)) ((Z_py.out.rz (by omega)).2.more (by omega)) ((Z_qy.out.rz (by omega)).2.more (by omega))).more (by omega)) ((Rz.max (k := (1 * k + 0)) ((Z_pt.out.rz (by omega)).1.more (by omega)) ((Z_qt.out.rz (by omega)).1.more (by omega))).more (by omega)) ((Rz.min (k := (1 * k + 0)) ((Z_pt.out.rz (by omega)).2.more (by omega)) ((Z_qt.out.rz (by omega)).2.more (by omega))).more (by omega)) HL.out.1 HL.out.2.1 HL.out.2.2 ⟨rfl, rfl, rfl, rfl, rfl, rfl⟩  (by omega) (by omega)) ?_
  simp only [Act.put, nA, nB, nC]
  iterate 7 (refine Seq.pure rfl rfl (by intro w; go_simp; try rfl) ?_; simp only [Act.put, nA, nB, nC])
  iterate 7 (refine Seq.nw rfl ?_; simp only [Act.put, nA, nB, nC])
  iterate 3 (refine Seq.pure rfl rfl (by intro w; go_simp; try rfl) ?_; simp only [Act.put, nA, nB, nC])
  refine Seq.load rfl rfl rfl rfl (by repeat (first | exact mC | apply mT)) (n := 18) rfl (by kernel_rfl) ?_
  simp only [Act.put, nA, nB, nC]
  refine Seq.load rfl rfl rfl rfl (by repeat (first | exact mC | apply mT)) (n := 18) rfl (by kernel_rfl) ?_
  simp only [Act.put, nA, nB, nC]
  refine Seq.call rfl rfl rfl rfl (by kernel_rfl) (inside_w (k := (1 * k + 2)) (px1 := px1) (px2 := px2) (py1 := py1) (py2 := py2) (pt1 := pt1) (pt2 := pt2) (qx1 := qx1) (qx2 := qx2) (qy1 := qy1) (qy2 := qy2) (qt1 := qt1) (qt2 := qt2) HT.out (Z_px.out.more (by omega)) (Z_py.out.more (by omega)) (Z_pt.out.more (by omega)) (Z_qx.out.more (by omega)) (Z_qy.out.more (by omega)) (Z_qt.out.more (by omega))  HIN.out (by omega) (by omega)) ?_
  simp only [Act.put, nA, nB, nC]
  refine Seq.pure rfl rfl (by intro w; go_simp; try rfl) ?_
  simp only [Act.put, nA, nB, nC]
  refine Seq.pure (v := .bool false) rfl rfl (by intro w; go_simp <;> (first | (rw [(bne_self_eq_false vs)]; done) | exact (bne_self_eq_false vs) | (simp [(bne_self_eq_false vs)]; done) | (trace_state; done))) ?_
  simp only [Act.put, nA, nB, nC]
  iterate 2 (refine Seq.pure rfl rfl (by intro w; go_simp; try rfl) ?_; simp only [Act.put, nA, nB, nC])
  refine Seq.load rfl rfl rfl rfl (by repeat (first | exact mC | apply mT)) (n := 18) rfl (by kernel_rfl) ?_
  simp only [Act.put, nA, nB, nC]
  refine Seq.load rfl rfl rfl rfl (by repeat (first | exact mC | apply mT)) (n := 18) rfl (by kernel_rfl) ?_
  simp only [Act.put, nA, nB, nC]
  refine Seq.call rfl rfl rfl rfl (by kernel_rfl) (ssame_w (k := (1 * k + 2)) (px1 := px1) (px2 := px2) (py1 := py1) (py2 := py2) (pt1 := pt1) (pt2 := pt2) (qx1 := qx1) (qx2 := qx2) (qy1 := qy1) (qy2 := qy2) (qt1 := qt1) (qt2 := qt2) HT.out (Z_px.out.more (by omega)) (Z_py.out.more (by omega)) (Z_pt.out.more (by omega)) (Z_qx.out.more (by omega)) (Z_qy.out.more (by omega)) (Z_qt.out.more (by omega))  HSA.out (by omega) (by omega)) ?_
  simp only [Act.put, nA, nB, nC]
  refine Seq.load rfl rfl rfl rfl (by repeat (first | exact mC | apply mT)) (n := 18) rfl (by kernel_rfl) ?_
  simp only [Act.put, nA, nB, nC]
  refine Seq.load rfl rfl rfl rfl (by repeat (first | exact mC | apply mT)) (n := 18) rfl (by kernel_rfl) ?_
  simp only [Act.put, nA, nB, nC]
  refine Seq.call rfl rfl rfl rfl (by kernel_rfl) (samePose_q (k := (1 * k + 2)) HT.out ((Z_px.out.rz (by omega)).1.more (by omega)) ((Z_px.out.rz (by omega)).2.more (by omega)) ((Z_py.out.rz (by omega)).1.more (by omega)) ((Z_py.out.rz (by omega)).2.more (by omega)) ((Z_pt.out.rz (by omega)).1.more (by omega)) ((Z_pt.out.rz (by omega)).2.more (by omega)) ((Z_qx.out.rz (by omega)).1.more (by omega)) ((Z_qx.out.rz (by omega)).2.more (by omega)) ((Z_qy.out.rz (by omega)).1.more (by omega)) ((Z_qy.out.rz (by omega)).2.more (by omega)) ((Z_qt.out.rz (by omega)).1.more (by omega)) ((Z_qt.out.rz (by omega)).2.more (by omega))  HSB.out (by omega) (by omega)) ?_
  simp only [Act.put, nA, nB, nC]
  refine Seq.pure (v := .bool false) rfl rfl (by intro w; go_simp <;> (first | (rw [(bne_self_eq_false vq)]; done) | exact (bne_self_eq_false vq) | (simp [(bne_self_eq_false vq)]; done) | (trace_state; done))) ?_
  simp only [Act.put, nA, nB, nC]
  refine Seq.pure rfl rfl (by intro w; go_simp; try rfl) ?_
  simp only [Act.put, nA, nB, nC]
  refine Seq.done fun ws7 hws => ?_
  have HS7 := hws.st
  clear HS6 hws
  rcases HSP.out with rfl | ⟨rfl, hk2⟩ | ⟨rfl, hk2⟩
  · go_upto_region 9 with (fail)
    refine wp_seq_text [] (StR.no HS7) ?_
    refine Seq.load rfl rfl rfl rfl (by repeat (first | exact mC | apply mT)) (n := 10) rfl (by kernel_rfl) ?_
    simp only [Act.put, nA, nB, nC]
    refine Seq.call rfl rfl rfl rfl (by kernel_rfl) (ofp_half (k := (1 * k + 2)) (f1_t := f1_t) (f2_t := f2_t) (ft_t := ft_t) HT.out (Z_f1.out.more (by omega)) (Z_f2.out.more (by omega)) (Z_ft.out.more (by omega))   (by omega) (by omega)) ?_
    simp only [Act.put, nA, nB, nC]
    refine Seq.pure rfl rfl (by intro w; go_simp; try rfl) ?_
    simp only [Act.put, nA, nB, nC]
    refine Seq.pure (v := .agg (PW rz0 rz0 rz0 rz0 rz0 rz0)) rfl rfl (fun w => rfl) ?_
    simp only [Act.put, nA, nB, nC]
    refine Seq.pure (v := .int .i64 3) rfl rfl (fun w => rfl) ?_
    simp only [Act.put, nA, nB, nC]
    refine Seq.alloc rfl rfl rfl (z := .agg (PW rz0 rz0 rz0 rz0 rz0 rz0)) (by kernel_rfl) rfl ?_
    intro bk18 _ _ hbk18_r
    simp only [Act.put, nA, nB, nC]
    refine Seq.store rfl rfl rfl rfl rfl (by repeat (first | exact rS | refine rN (by assumption) ?_)) (n := 18) rfl rfl (by kernel_rfl) (PW_one _ _ _ _ _ _) ?_
    simp only [Act.put, nA, nB, nC]
    refine Seq.pure rfl rfl (by intro w; go_simp; try rfl) ?_
    simp only [Act.put, nA, nB, nC]
    refine Seq.done fun ws8 hws => ?_
    have HS8 := hws.list1 (p := bk18) (by repeat (first | exact rS | refine rN (by assumption) ?_))
    clear HS7 hws
    go_upto_region 10 with (fail)
    refine wp_seq_text [] (StR.no HS8) ?_
    refine Seq.load rfl rfl rfl rfl (by repeat (first | exact mC | apply mT)) (n := 18) rfl (by kernel_rfl) ?_
    simp only [Act.put, nA, nB, nC]
    refine Seq.load rfl rfl rfl rfl (by repeat (first | exact mC | apply mT)) (n := 10) rfl (by kernel_rfl) ?_
    simp only [Act.put, nA, nB, nC]
    refine Seq.load rfl rfl rfl rfl (by repeat (first | exact mC | apply mT)) (n := 3) rfl (by kernel_rfl) ?_
    simp only [Act.put, nA, nB, nC]
    refine Seq.load rfl rfl rfl rfl (by repeat (first | exact mC | apply mT)) (n := 3) rfl (by kernel_rfl) ?_
    simp only [Act.put, nA, nB, nC]
    refine Seq.call rfl rfl rfl rfl (by kernel_rfl) (look_half (k := 1 * k + 2) (px1 := px1) (px2 := px2) (py1 := py1) (py2 := py2) (pt1 := pt1) (pt2 := pt2) (f1_t := f1_t) (f2_t := f2_t) (ft_t := ft_t) (b_t := b_t) (u_t := u_t) HT.out (Z_px.out.more (by omega)) (Z_py.out.more (by omega)) (Z_pt.out.more (by omega)) (Z_f1.out.more (by omega)) (Z_f2.out.more (by omega)) (Z_ft.out.more (by omega)) (Z_b.out.more (by omega)) (Z_u.out.more (by omega)) (by omega) (by omega)) ?_
    simp only [Act.put, nA, nB, nC]
    refine Seq.pure rfl rfl (by intro w; go_simp; try rfl) ?_
    simp only [Act.put, nA, nB, nC]
    refine Seq.pure (v := .agg (PW rz0 rz0 rz0 rz0 rz0 rz0)) rfl rfl (fun w => rfl) ?_
    simp only [Act.put, nA, nB, nC]
    refine Seq.pure (v := .int .i64 3) rfl rfl (fun w => rfl) ?_
    simp only [Act.put, nA, nB, nC]
    refine Seq.alloc rfl rfl rfl (z := .agg (PW rz0 rz0 rz0 rz0 rz0 rz0)) (by kernel_rfl) rfl ?_
    intro bk19 _ _ hbk19_r
    simp only [Act.put, nA, nB, nC]
    refine Seq.store rfl rfl rfl rfl rfl (by repeat (first | exact rS | refine rN (by assumption) ?_)) (n := 18) rfl rfl (by kernel_rfl) (PW_one _ _ _ _ _ _) ?_
    simp only [Act.put, nA, nB, nC]
    refine Seq.pure rfl rfl (by intro w; go_simp; try rfl) ?_
    simp only [Act.put, nA, nB, nC]
    refine Seq.done fun ws9 hws => ?_
    have HS9 := hws.list1 (p := bk19) (by repeat (first | exact rS | refine rN (by assumption) ?_))
    clear HS8 hws
    go_upto_region 11 with (fail)
    refine wp_seq_text [] (StR.no HS9) ?_
    iterate 2 (refine Seq.pure rfl rfl (by intro w; go_simp; try rfl) ?_; simp only [Act.put, nA, nB, nC])
    refine Seq.loadCell rfl rfl rfl rfl (by repeat (first | exact mC | apply mT)) (v := .bool true) rfl (by kernel_rfl) rfl ?_
    simp only [Act.put, nA, nB, nC]
    refine Seq.done fun ws10 hws => ?_
    have HS10 := hws.st
    clear HS9 hws
    go_upto_region 12 with (fail)
    refine wp_seq_text [] (StR.no HS10) ?_
    iterate 8 (refine Seq.pure rfl rfl (by intro w; go_simp; try rfl) ?_; simp only [Act.put, nA, nB, nC])
    refine Seq.done fun ws11 hws => ?_
    have HS11 := hws.st
    clear HS10 hws
    go_wp2_with fail
    go_ret
    exact ⟨rfl, HS11.below⟩
  · have HK2 := Lib.hid hk2; clear hk2
    have HL2 := Lib.hid (okQ_le HK2.out)
    go_upto_region 9 with (fail)
    refine wp_seq_text [] (StR.no HS7) ?_
    refine Seq.load rfl rfl rfl rfl (by repeat (first | exact mC | apply mT)) (n := 10) rfl (by kernel_rfl) ?_
    simp only [Act.put, nA, nB, nC]
    refine Seq.call rfl rfl rfl rfl (by kernel_rfl) (ofp_no (k := (1 * k + 2)) (f1_t := f1_t) (f2_t := f2_t) (ft_t := ft_t) HT.out (Z_f1.out.more (by omega)) (Z_f2.out.more (by omega)) (Z_ft.out.more (by omega))  rfl rfl rfl rfl rfl rfl (by omega) (by omega)) ?_
    simp only [Act.put, nA, nB, nC]
    refine Seq.pure rfl rfl (by intro w; go_simp; try rfl) ?_
    simp only [Act.put, nA, nB, nC]
    refine Seq.pure (v := .agg (PW (rt f1) (rt f1) (rt f2) (rt f2) (rt ft) (rt ft))) rfl rfl (fun w => rfl) ?_
    simp only [Act.put, nA, nB, nC]
    refine Seq.pure (v := .int .i64 0) rfl rfl (fun w => rfl) ?_
    simp only [Act.put, nA, nB, nC]
    refine Seq.alloc rfl rfl rfl (z := .agg (PW rz0 rz0 rz0 rz0 rz0 rz0)) (by kernel_rfl) rfl ?_
    intro bk18 _ _ hbk18_r
    simp only [Act.put, nA, nB, nC]
    refine Seq.store rfl rfl rfl rfl rfl (by repeat (first | exact rS | refine rN (by assumption) ?_)) (n := 18) rfl rfl (by kernel_rfl) (PW_one _ _ _ _ _ _) ?_
    simp only [Act.put, nA, nB, nC]
    refine Seq.pure rfl rfl (by intro w; go_simp; try rfl) ?_
    simp only [Act.put, nA, nB, nC]
    refine Seq.done fun ws8 hws => ?_
    have HS8 := hws.list1 (p := bk18) (by repeat (first | exact rS | refine rN (by assumption) ?_))
    clear HS7 hws
    go_upto_region 10 with (fail)
    refine wp_seq_text [] (StR.no HS8) ?_
    refine Seq.load rfl rfl rfl rfl (by repeat (first | exact mC | apply mT)) (n := 18) rfl (by kernel_rfl) ?_
    simp only [Act.put, nA, nB, nC]
    refine Seq.load rfl rfl rfl rfl (by repeat (first | exact mC | apply mT)) (n := 10) rfl (by kernel_rfl) ?_
    simp only [Act.put, nA, nB, nC]
    refine Seq.load rfl rfl rfl rfl (by repeat (first | exact mC | apply mT)) (n := 3) rfl (by kernel_rfl) ?_
    simp only [Act.put, nA, nB, nC]
    refine Seq.load rfl rfl rfl rfl (by repeat (first | exact mC | apply mT)) (n := 3) rfl (by kernel_rfl) ?_
    simp only [Act.put, nA, nB, nC]
    refine Seq.call rfl rfl rfl rfl (by kernel_rfl) (fun w h => (look_no (k := (1 * k + 2)) (px1 := px1) (px2 := px2) (py1 := py1) (py2 := py2) (pt1 := pt1) (pt2 := pt2) (f1_t := f1_t) (f2_t := f2_t) (ft_t := ft_t) (b_t := b_t) (u_t := u_t) HT.out (Z_px.out.more (by omega)) (Z_py.out.more (by omega)) (Z_pt.out.more (by omega)) (Z_f1.out.more (by omega)) (Z_f2.out.more (by omega)) (Z_ft.out.more (by omega)) (Z_b.out.more (by omega)) (Z_u.out.more (by omega)) (by omega) (by omega) w h).mono (fun e w2 hh => ⟨hh.1.trans (congrArg Ending.returned (naQ_yes HK2.out)), hh.2⟩)) ?_
    simp only [Act.put, nA, nB, nC]
    refine Seq.pure rfl rfl (by intro w; go_simp; try rfl) ?_
    simp only [Act.put, nA, nB, nC]
    refine Seq.pure (v := .agg (PW (rt (maxQ pxl (f1 - (maxQ b 0)))) (rt (minQ pxh (f1 + (maxQ b 0)))) (rt (maxQ pyl (f2 - (maxQ b 0)))) (rt (minQ pyh (f2 + (maxQ b 0)))) (rt (maxQ ptl (ft - (maxQ u 0)))) (rt (minQ pth (ft + (maxQ u 0)))))) rfl rfl (fun w => rfl) ?_
    simp only [Act.put, nA, nB, nC]
    refine Seq.pure (v := .int .i64 0) rfl rfl (fun w => rfl) ?_
    simp only [Act.put, nA, nB, nC]
    refine Seq.alloc rfl rfl rfl (z := .agg (PW rz0 rz0 rz0 rz0 rz0 rz0)) (by kernel_rfl) rfl ?_
    intro bk19 _ _ hbk19_r
    simp only [Act.put, nA, nB, nC]
    refine Seq.store rfl rfl rfl rfl rfl (by repeat (first | exact rS | refine rN (by assumption) ?_)) (n := 18) rfl rfl (by kernel_rfl) (PW_one _ _ _ _ _ _) ?_
    simp only [Act.put, nA, nB, nC]
    refine Seq.pure rfl rfl (by intro w; go_simp; try rfl) ?_
    simp only [Act.put, nA, nB, nC]
    refine Seq.done fun ws9 hws => ?_
    have HS9 := hws.list1 (p := bk19) (by repeat (first | exact rS | refine rN (by assumption) ?_))
    clear HS8 hws
    go_upto_region 11 with (fail)
    refine wp_seq_text [] (StR.no HS9) ?_
    iterate 2 (refine Seq.pure rfl rfl (by intro w; go_simp; try rfl) ?_; simp only [Act.put, nA, nB, nC])
    refine Seq.loadCell rfl rfl rfl rfl (by repeat (first | exact mC | apply mT)) (v := .bool false) rfl (by kernel_rfl) rfl ?_
    simp only [Act.put, nA, nB, nC]
    refine Seq.done fun ws10 hws => ?_
    have HS10 := hws.st
    clear HS9 hws
    go_upto_region 13 with (fail)
    refine wp_seq_text [] (StR.no HS10) ?_
    refine Seq.pure (v := .agg (PW rz0 rz0 rz0 rz0 rz0 rz0)) rfl rfl (by intro w; go_simp; try rfl) ?_
    simp only [Act.put, nA, nB, nC]
    refine Seq.alloc rfl rfl rfl (z := .agg (PW rz0 rz0 rz0 rz0 rz0 rz0)) (by kernel_rfl) rfl ?_
    intro bk21 _ _ hbk21_r
    simp only [Act.put, nA, nB, nC]
    refine Seq.store rfl rfl rfl rfl rfl (by repeat (first | exact rS | refine rN (by assumption) ?_)) (n := 18) rfl rfl (by kernel_rfl) (PW_one _ _ _ _ _ _) ?_
    simp only [Act.put, nA, nB, nC]
    refine Seq.done fun ws11 hws => ?_
    have HS11 := hws.list1 (p := bk21) (by repeat (first | exact rS | refine rN (by assumption) ?_))
    clear HS10 hws
    go_upto_region 14 with (fail)
    refine wp_seq_text [] (StR.no HS11) ?_
    refine Seq.load rfl rfl rfl rfl (by repeat (first | exact mC | apply mT)) (n := 10) rfl (by kernel_rfl) ?_
    simp only [Act.put, nA, nB, nC]
    refine Seq.call rfl rfl rfl rfl (by kernel_rfl) (frames_w (k := (1 * k + 2)) (f1_t := f1_t) (f2_t := f2_t) (ft_t := ft_t) HT.out (Z_f1.out.more (by omega)) (Z_f2.out.more (by omega)) (Z_ft.out.more (by omega))   (by omega) (by omega)) ?_
    simp only [Act.put, nA, nB, nC]
    refine Seq.pure rfl rfl (by intro w; go_simp; try rfl) ?_
    simp only [Act.put, nA, nB, nC]
    refine Seq.done fun ws12 hws => ?_
    have HS12 := hws.st
    clear HS11 hws
    go_wp2_with fail
    refine wp_loop_rounds 4 ?_
    rw [rounds_succ]
    go_upto_region 15 with (fail)
    refine wp_seq_text [] (StR.no HS12) ?_
    refine Seq.pure rfl rfl (by intro w; go_simp; try rfl) ?_
    simp only [Act.put, nA, nB, nC]
    refine Seq.done fun ws13 hws => ?_
    have HS13 := hws.st
    clear HS12 hws
    go_upto_region 16 with (fail)
    refine wp_seq_text [] (StR.no HS13) ?_
    refine Seq.pure rfl rfl (by intro w; go_simp; try rfl) ?_
    simp only [Act.put, nA, nB, nC]
    refine Seq.pure (v := .agg (RT.c f1_t)) rfl rfl (by intro w; unfold TW; go_simp; try first | with_reducible rfl | rfl) ?_
    simp only [Act.put, nA, nB, nC]
    refine Seq.alloc rfl rfl rfl (z := .agg (RT.c rz0)) (by kernel_rfl) rfl ?_
    intro bk23 _ _ hbk23_r
    simp only [Act.put, nA, nB, nC]
    refine Seq.pure rfl rfl (by intro w; go_simp; try rfl) ?_
    simp only [Act.put, nA, nB, nC]
    refine Seq.store rfl rfl rfl rfl rfl (by repeat (first | exact rS | refine rN (by assumption) ?_)) (n := 3) rfl rfl (by kernel_rfl) (RT_one _) ?_
    simp only [Act.put, nA, nB, nC]
    refine Seq.done fun ws14 hws => ?_
    have HS14 := hws.list1 (p := bk23) (by repeat (first | exact rS | refine rN (by assumption) ?_))
    clear HS13 hws
    go_upto_region 17 with (fail)
    refine wp_seq_text [0, 2] (StR.move (StR.no HS14)) ?_
    refine Seq.get rfl rfl rfl rfl (by repeat (first | exact rS | refine rN (by assumption) ?_)) (n := 3) rfl (by kernel_rfl) ?_
    simp only [Act.put, nA, nB, nC]
    refine Seq.get rfl rfl rfl rfl (by repeat (first | exact rS | refine rN (by assumption) ?_)) (n := 3) rfl (by kernel_rfl) ?_
    simp only [Act.put, nA, nB, nC]
    refine Seq.call rfl rfl rfl rfl (by kernel_rfl) (min_w (k := (1 * k + 2)) HT.out (Z_f1.out.more (by omega)) (Z_f1.out.more (by omega)) (min_self _) (by omega)) ?_
    simp only [Act.put, nA, nB, nC]
    refine Seq.store rfl rfl rfl rfl rfl (by repeat (first | exact rS | refine rN (by assumption) ?_)) (n := 3) rfl rfl (by kernel_rfl) (RC_one _) ?_
    simp only [Act.put, nA, nB, nC]
    refine Seq.done fun ws15 hws => ?_
    have HS15 := hws.list1 (p := bk23) (by repeat (first | exact rS | refine rN (by assumption) ?_))
    clear HS14 hws
    go_upto_region 18 with (fail)
    have HPbk21 := HS15.f1
    refine wp_seq_text [] (StR.move (StR.no HPbk21)) ?_
    refine Seq.pure rfl rfl (by intro w; go_simp; try rfl) ?_
    simp only [Act.put, nA, nB, nC]
    refine Seq.load rfl rfl rfl rfl (by repeat (first | exact mC | apply mT)) (n := 3) rfl (by kernel_rfl) ?_
    simp only [Act.put, nA, nB, nC]
    refine Seq.load rfl rfl rfl rfl (by repeat (first | exact mC | apply mT)) (n := 3) rfl (by kernel_rfl) ?_
    simp only [Act.put, nA, nB, nC]
    refine Seq.pure (v := .agg (VC f1 f1)) rfl rfl (fun w => bld_RSpan (x := (rt f1)) (y := (rt f1)) rfl rfl rfl w) ?_
    simp only [Act.put, nA, nB, nC]
    refine Seq.pure rfl rfl (by intro w; go_simp; try rfl) ?_
    simp only [Act.put, nA, nB, nC]
    refine Seq.storeAt (v := .agg (VC f1 f1)) rfl rfl rfl rfl rfl (by repeat (first | exact rS | refine rN (by assumption) ?_)) (Nat.le_of_ble_eq_true rfl) (by show _ = some 6; kernel_rfl) (VC_one _ _) (cs' := PW (rt f1) (rt f1) rz0 rz0 rz0 rz0) rfl ?_
    simp only [Act.put, nA, nB, nC]
    refine Seq.done fun ws16 hws => ?_
    have HS16 := hws.list1 (p := bk21) (by repeat (first | exact rS | refine rN (by assumption) ?_))
    clear HS15 hws HPbk21
    go_upto_region 19 with (fail)
    refine wp_seq_text [] (StR.no HS16) ?_
    refine Seq.pure (v := .int .i64 1) rfl rfl (by intro w; go_simp; try rfl) ?_
    simp only [Act.put, nA, nB, nC]
    refine Seq.pure rfl rfl (by intro w; go_simp; try rfl) ?_
    simp only [Act.put, nA, nB, nC]
    refine Seq.done fun ws17 hws => ?_
    have HS17 := hws.st
    clear HS16 hws
    go_wp2_with fail
    rw [rounds_succ]
    go_upto_region 15 with (fail)
    refine wp_seq_text [] (StR.no HS17) ?_
    refine Seq.pure rfl rfl (by intro w; go_simp; try rfl) ?_
    simp only [Act.put, nA, nB, nC]
    refine Seq.done fun ws18 hws => ?_
    have HS18 := hws.st
    clear HS17 hws
    go_upto_region 16 with (fail)
    refine wp_seq_text [] (StR.no HS18) ?_
    refine Seq.pure rfl rfl (by intro w; go_simp; try rfl) ?_
    simp only [Act.put, nA, nB, nC]
    refine Seq.pure (v := .agg (RT.c f2_t)) rfl rfl (by intro w; unfold TW; go_simp; try first | with_reducible rfl | rfl) ?_
    simp only [Act.put, nA, nB, nC]
    refine Seq.alloc rfl rfl rfl (z := .agg (RT.c rz0)) (by kernel_rfl) rfl ?_
    intro bk23_1 _ _ hbk23_1_r
    simp only [Act.put, nA, nB, nC]
    refine Seq.pure rfl rfl (by intro w; go_simp; try rfl) ?_
    simp only [Act.put, nA, nB, nC]
    refine Seq.store rfl rfl rfl rfl rfl (by repeat (first | exact rS | refine rN (by assumption) ?_)) (n := 3) rfl rfl (by kernel_rfl) (RT_one _) ?_
    simp only [Act.put, nA, nB, nC]
    refine Seq.done fun ws19 hws => ?_
    have HS19 := hws.list1 (p := bk23_1) (by repeat (first | exact rS | refine rN (by assumption) ?_))
    clear HS18 hws
    go_upto_region 17 with (fail)
    refine wp_seq_text [0, 2] (StR.move (StR.no HS19)) ?_
    refine Seq.get rfl rfl rfl rfl (by repeat (first | exact rS | refine rN (by assumption) ?_)) (n := 3) rfl (by kernel_rfl) ?_
    simp only [Act.put, nA, nB, nC]
    refine Seq.get rfl rfl rfl rfl (by repeat (first | exact rS | refine rN (by assumption) ?_)) (n := 3) rfl (by kernel_rfl) ?_
    simp only [Act.put, nA, nB, nC]
    refine Seq.call rfl rfl rfl rfl (by kernel_rfl) (min_w (k := (1 * k + 2)) HT.out (Z_f2.out.more (by omega)) (Z_f2.out.more (by omega)) (min_self _) (by omega)) ?_
    simp only [Act.put, nA, nB, nC]
    refine Seq.store rfl rfl rfl rfl rfl (by repeat (first | exact rS | refine rN (by assumption) ?_)) (n := 3) rfl rfl (by kernel_rfl) (RC_one _) ?_
    simp only [Act.put, nA, nB, nC]
    refine Seq.done fun ws20 hws => ?_
    have HS20 := hws.list1 (p := bk23_1) (by repeat (first | exact rS | refine rN (by assumption) ?_))
    clear HS19 hws
    go_upto_region 18 with (fail)
    have HPbk21 := HS20.f1
    refine wp_seq_text [] (StR.move (StR.no HPbk21)) ?_
    refine Seq.pure rfl rfl (by intro w; go_simp; try rfl) ?_
    simp only [Act.put, nA, nB, nC]
    refine Seq.load rfl rfl rfl rfl (by repeat (first | exact mC | apply mT)) (n := 3) rfl (by kernel_rfl) ?_
    simp only [Act.put, nA, nB, nC]
    refine Seq.load rfl rfl rfl rfl (by repeat (first | exact mC | apply mT)) (n := 3) rfl (by kernel_rfl) ?_
    simp only [Act.put, nA, nB, nC]
    refine Seq.pure (v := .agg (VC f2 f2)) rfl rfl (fun w => bld_RSpan (x := (rt f2)) (y := (rt f2)) rfl rfl rfl w) ?_
    simp only [Act.put, nA, nB, nC]
    refine Seq.pure rfl rfl (by intro w; go_simp; try rfl) ?_
    simp only [Act.put, nA, nB, nC]
    refine Seq.storeAt (v := .agg (VC f2 f2)) rfl rfl rfl rfl rfl (by repeat (first | exact rS | refine rN (by assumption) ?_)) (Nat.le_of_ble_eq_true rfl) (by show _ = some 6; kernel_rfl) (VC_one _ _) (cs' := PW (rt f1) (rt f1) (rt f2) (rt f2) rz0 rz0) rfl ?_
    simp only [Act.put, nA, nB, nC]
    refine Seq.done fun ws21 hws => ?_
    have HS21 := hws.list1 (p := bk21) (by repeat (first | exact rS | refine rN (by assumption) ?_))
    clear HS20 hws HPbk21
    go_upto_region 19 with (fail)
    refine wp_seq_text [] (StR.no HS21) ?_
    refine Seq.pure (v := .int .i64 2) rfl rfl (by intro w; go_simp; try rfl) ?_
    simp only [Act.put, nA, nB, nC]
    refine Seq.pure rfl rfl (by intro w; go_simp; try rfl) ?_
    simp only [Act.put, nA, nB, nC]
    refine Seq.done fun ws22 hws => ?_
    have HS22 := hws.st
    clear HS21 hws
    go_wp2_with fail
    rw [rounds_succ]
    go_upto_region 15 with (fail)
    refine wp_seq_text [] (StR.no HS22) ?_
    refine Seq.pure rfl rfl (by intro w; go_simp; try rfl) ?_
    simp only [Act.put, nA, nB, nC]
    refine Seq.done fun ws23 hws => ?_
    have HS23 := hws.st
    clear HS22 hws
    go_upto_region 16 with (fail)
    refine wp_seq_text [] (StR.no HS23) ?_
    refine Seq.pure rfl rfl (by intro w; go_simp; try rfl) ?_
    simp only [Act.put, nA, nB, nC]
    refine Seq.pure (v := .agg (RT.c ft_t)) rfl rfl (by intro w; unfold TW; go_simp; try first | with_reducible rfl | rfl) ?_
    simp only [Act.put, nA, nB, nC]
    refine Seq.alloc rfl rfl rfl (z := .agg (RT.c rz0)) (by kernel_rfl) rfl ?_
    intro bk23_2 _ _ hbk23_2_r
    simp only [Act.put, nA, nB, nC]
    refine Seq.pure rfl rfl (by intro w; go_simp; try rfl) ?_
    simp only [Act.put, nA, nB, nC]
    refine Seq.store rfl rfl rfl rfl rfl (by repeat (first | exact rS | refine rN (by assumption) ?_)) (n := 3) rfl rfl (by kernel_rfl) (RT_one _) ?_
    simp only [Act.put, nA, nB, nC]
    refine Seq.done fun ws24 hws => ?_
    have HS24 := hws.list1 (p := bk23_2) (by repeat (first | exact rS | refine rN (by assumption) ?_))
    clear HS23 hws
    go_upto_region 17 with (fail)
    refine wp_seq_text [0, 2] (StR.move (StR.no HS24)) ?_
    refine Seq.get rfl rfl rfl rfl (by repeat (first | exact rS | refine rN (by assumption) ?_)) (n := 3) rfl (by kernel_rfl) ?_
    simp only [Act.put, nA, nB, nC]
    refine Seq.get rfl rfl rfl rfl (by repeat (first | exact rS | refine rN (by assumption) ?_)) (n := 3) rfl (by kernel_rfl) ?_
    simp only [Act.put, nA, nB, nC]
    refine Seq.call rfl rfl rfl rfl (by kernel_rfl) (min_w (k := (1 * k + 2)) HT.out (Z_ft.out.more (by omega)) (Z_ft.out.more (by omega)) (min_self _) (by omega)) ?_
    simp only [Act.put, nA, nB, nC]
    refine Seq.store rfl rfl rfl rfl rfl (by repeat (first | exact rS | refine rN (by assumption) ?_)) (n := 3) rfl rfl (by kernel_rfl) (RC_one _) ?_
    simp only [Act.put, nA, nB, nC]
    refine Seq.done fun ws25 hws => ?_
    have HS25 := hws.list1 (p := bk23_2) (by repeat (first | exact rS | refine rN (by assumption) ?_))
    clear HS24 hws
    go_upto_region 18 with (fail)
    have HPbk21 := HS25.f1
    refine wp_seq_text [] (StR.move (StR.no HPbk21)) ?_
    refine Seq.pure rfl rfl (by intro w; go_simp; try rfl) ?_
    simp only [Act.put, nA, nB, nC]
    refine Seq.load rfl rfl rfl rfl (by repeat (first | exact mC | apply mT)) (n := 3) rfl (by kernel_rfl) ?_
    simp only [Act.put, nA, nB, nC]
    refine Seq.load rfl rfl rfl rfl (by repeat (first | exact mC | apply mT)) (n := 3) rfl (by kernel_rfl) ?_
    simp only [Act.put, nA, nB, nC]
    refine Seq.pure (v := .agg (VC ft ft)) rfl rfl (fun w => bld_RSpan (x := (rt ft)) (y := (rt ft)) rfl rfl rfl w) ?_
    simp only [Act.put, nA, nB, nC]
    refine Seq.pure rfl rfl (by intro w; go_simp; try rfl) ?_
    simp only [Act.put, nA, nB, nC]
    refine Seq.storeAt (v := .agg (VC ft ft)) rfl rfl rfl rfl rfl (by repeat (first | exact rS | refine rN (by assumption) ?_)) (Nat.le_of_ble_eq_true rfl) (by show _ = some 6; kernel_rfl) (VC_one _ _) (cs' := PW (rt f1) (rt f1) (rt f2) (rt f2) (rt ft) (rt ft)) rfl ?_
    simp only [Act.put, nA, nB, nC]
    refine Seq.done fun ws26 hws => ?_
    have HS26 := hws.list1 (p := bk21) (by repeat (first | exact rS | refine rN (by assumption) ?_))
    clear HS25 hws HPbk21
    go_upto_region 19 with (fail)
    refine wp_seq_text [] (StR.no HS26) ?_
    refine Seq.pure (v := .int .i64 3) rfl rfl (by intro w; go_simp; try rfl) ?_
    simp only [Act.put, nA, nB, nC]
    refine Seq.pure rfl rfl (by intro w; go_simp; try rfl) ?_
    simp only [Act.put, nA, nB, nC]
    refine Seq.done fun ws27 hws => ?_
    have HS27 := hws.st
    clear HS26 hws
    go_wp2_with fail
    rw [rounds_succ]
    go_upto_region 15 with (fail)
    refine wp_seq_text [] (StR.no HS27) ?_
    refine Seq.pure rfl rfl (by intro w; go_simp; try rfl) ?_
    simp only [Act.put, nA, nB, nC]
    refine Seq.done fun ws28 hws => ?_
    have HS28 := hws.st
    clear HS27 hws
    go_upto_region 20 with (fail)
    have HPbk13 := HS28.f7
    refine wp_seq [] (by kernel_rfl) (by kernel_rfl) (Reg.fin.put Reg.fin_no _ _) (StR.move (StR.no HPbk13)) ?_
    refine Seq.load rfl rfl rfl rfl (by repeat (first | exact mC | apply mT)) (n := 18) rfl (by kernel_rfl) ?_
    simp only [Act.put, nA, nB, nC]
    refine Seq.load rfl rfl rfl rfl (by repeat (first | exact mC | apply mT)) (n := 18) rfl (by kernel_rfl) ?_
    simp only [Act.put, nA, nB, nC]
    refine Seq.load rfl rfl rfl rfl (by repeat (first | exact mC | apply mT)) (n := 3) rfl (by kernel_rfl) ?_
    simp only [Act.put, nA, nB, nC]
    refine Seq.load rfl rfl rfl rfl (by repeat (first | exact mC | apply mT)) (n := 3) rfl (by kernel_rfl) ?_
    simp only [Act.put, nA, nB, nC]
    refine Seq.call rfl rfl rfl rfl (by kernel_rfl) (wideOf_w (k := (1 * k + 2)) (b_t := b_t) (u_t := u_t) HT.out (Z_f1.out.rz.more (by omega)) (Z_f1.out.rz.more (by omega)) (Z_f2.out.rz.more (by omega)) (Z_f2.out.rz.more (by omega)) (Z_ft.out.rz.more (by omega)) (Z_ft.out.rz.more (by omega)) (Z_b.out.more (by omega)) (Z_u.out.more (by omega))  rfl rfl rfl rfl rfl rfl (by omega) (by omega)) ?_
    simp only [Act.put, nA, nB, nC]
    refine Seq.call rfl rfl rfl rfl (by kernel_rfl) (fun w h => (meetOf_any (k := (4 * k + 5)) HT.out ((Z_px.out.rz (by omega)).1.more (by omega)) ((Z_px.out.rz (by omega)).2.more (by omega)) ((Z_py.out.rz (by omega)).1.more (by omega)) ((Z_py.out.rz (by omega)).2.more (by omega)) ((Z_pt.out.rz (by omega)).1.more (by omega)) ((Z_pt.out.rz (by omega)).2.more (by omega)) ((Z_f1.out.rz.sub (Rz.max (k := (1 * k + 2)) (Rz.more Z_b.out.rz (by omega)) (Rz.zero2.more (by omega)))).more (by omega)) ((Z_f1.out.rz.add (Rz.max (k := (1 * k + 2)) (Rz.more Z_b.out.rz (by omega)) (Rz.zero2.more (by omega)))).more (by omega)) ((Z_f2.out.rz.sub (Rz.max (k := (1 * k + 2)) (Rz.more Z_b.out.rz (by omega)) (Rz.zero2.more (by omega)))).more (by omega)) ((Z_f2.out.rz.add (Rz.max (k := (1 * k + 2)) (Rz.more Z_b.out.rz (by omega)) (Rz.zero2.more (by omega)))).more (by omega)) ((Z_ft.out.rz.sub (Rz.max (k := (1 * k + 2)) (Rz.more Z_u.out.rz (by omega)) (Rz.zero2.more (by omega)))).more (by omega)) ((Z_ft.out.rz.add (Rz.max (k := (1 * k + 2)) (Rz.more Z_u.out.rz (by omega)) (Rz.zero2.more (by omega)))).more (by omega)) (by omega) w h).mono (fun e w2 hh => ⟨hh.1.trans (congrArg Ending.returned (mRQ_yes HK2.out)), hh.2⟩)) ?_
    simp only [Act.put, nA, nB, nC]
    refine Seq.pure rfl rfl (by intro w; go_simp; try rfl) ?_
    simp only [Act.put, nA, nB, nC]
    refine Seq.pure (v := .agg (PW (rt (maxQ pxl (f1 - (maxQ b 0)))) (rt (minQ pxh (f1 + (maxQ b 0)))) (rt (maxQ pyl (f2 - (maxQ b 0)))) (rt (minQ pyh (f2 + (maxQ b 0)))) (rt (maxQ ptl (ft - (maxQ u 0)))) (rt (minQ pth (ft + (maxQ u 0)))))) rfl rfl (fun w => rfl) ?_
    simp only [Act.put, nA, nB, nC]
    refine Seq.pure (v := .bool true) rfl rfl (fun w => rfl) ?_
    simp only [Act.put, nA, nB, nC]
    refine Seq.store rfl rfl rfl rfl rfl (by repeat (first | exact rS | refine rN (by assumption) ?_)) (n := 18) rfl rfl (by kernel_rfl) (PW_one _ _ _ _ _ _) ?_
    simp only [Act.put, nA, nB, nC]
    refine Seq.pure rfl rfl (by intro w; go_simp; try rfl) ?_
    simp only [Act.put, nA, nB, nC]
    refine Seq.done fun ws29 hws => ?_
    have HS29 := hws.list1 (p := bk13) (by repeat (first | exact rS | refine rN (by assumption) ?_))
    clear HS28 hws HPbk13
    go_upto_region 21 with (fail)
    refine wp_seq_text [] (StR.no HS29) ?_
    iterate 3 (refine Seq.pure rfl rfl (by intro w; go_simp; try rfl) ?_; simp only [Act.put, nA, nB, nC])
    refine Seq.load rfl rfl rfl rfl (by repeat (first | exact mC | apply mT)) (n := 18) rfl (by kernel_rfl) ?_
    simp only [Act.put, nA, nB, nC]
    refine Seq.load rfl rfl rfl rfl (by repeat (first | exact mC | apply mT)) (n := 18) rfl (by kernel_rfl) ?_
    simp only [Act.put, nA, nB, nC]
    refine Seq.call rfl rfl rfl rfl (by kernel_rfl) (same_q (k := (1 * k + 2)) HT.out (Z_f1.out.rz.more (by omega)) (Z_f1.out.rz.more (by omega)) (Z_f2.out.rz.more (by omega)) (Z_f2.out.rz.more (by omega)) (Z_ft.out.rz.more (by omega)) (Z_ft.out.rz.more (by omega)) (Z_f1.out.rz.more (by omega)) (Z_f1.out.rz.more (by omega)) (Z_f2.out.rz.more (by omega)) (Z_f2.out.rz.more (by omega)) (Z_ft.out.rz.more (by omega)) (Z_ft.out.rz.more (by omega)) Rat.le_refl Rat.le_refl Rat.le_refl ⟨rfl, rfl, rfl, rfl, rfl, rfl⟩  (by omega) (by omega)) ?_
    simp only [Act.put, nA, nB, nC]
    iterate 11 (refine Seq.pure rfl rfl (by intro w; go_simp; try rfl) ?_; simp only [Act.put, nA, nB, nC])
    refine Seq.load rfl rfl rfl rfl (by repeat (first | exact mC | apply mT)) (n := 18) rfl (by kernel_rfl) ?_
    simp only [Act.put, nA, nB, nC]
    refine Seq.load rfl rfl rfl rfl (by repeat (first | exact mC | apply mT)) (n := 18) rfl (by kernel_rfl) ?_
    simp only [Act.put, nA, nB, nC]
    refine Seq.call rfl rfl rfl rfl (by kernel_rfl) (same_q (k := (4 * k + 5)) HT.out ((Rz.max (k := (4 * k + 5)) ((Z_px.out.rz (by omega)).1.more (by omega)) ((Z_f1.out.rz.sub (Rz.max (k := (1 * k + 2)) (Rz.more Z_b.out.rz (by omega)) (Rz.zero2.more (by omega)))).more (by omega))).more (by omega)) ((Rz.min (k := (4 * k + 5)) ((Z_px.out.rz (by omega)).2.more (by omega)) ((Z_f1.out.rz.add (Rz.max (k := (1 * k + 2)) (Rz.more Z_b.out.rz (by omega)) (Rz.zero2.more (by omega)))).more (by omega))).more (by omega)) ((Rz.max (k := (4 * k + 5)) ((Z_py.out.rz (by omega)).1.more (by omega)) ((Z_f2.out.rz.sub (Rz.max (k := (1 * k + 2)) (Rz.more Z_b.out.rz (by omega)) (Rz.zero2.more (by omega)))).more (by omega))).more (by omega)) ((Rz.min (k := (4 * k + 5)) ((Z_py.out.rz (by omega)).2.more (by omega)) ((Z_f2.out.rz.add (Rz.max (k := (1 * k + 2)) (Rz.more Z_b.out.rz (by omega)) (Rz.zero2.more (by omega)))).more (by omega))).more (by omega)) ((Rz.max (k := (4 * k + 5)) ((Z_pt.out.rz (by omega)).1.more (by omega)) ((Z_ft.out.rz.sub (Rz.max (k := (1 * k + 2)) (Rz.more Z_u.out.rz (by omega)) (Rz.zero2.more (by omega)))).more (by omega))).more (by omega)) ((Rz.min (k := (4 * k + 5)) ((Z_pt.out.rz (by omega)).2.more (by omega)) ((Z_ft.out.rz.add (Rz.max (k := (1 * k + 2)) (Rz.more Z_u.out.rz (by omega)) (Rz.zero2.more (by omega)))).more (by omega))).more (by omega)) ((Rz.max (k := (4 * k + 5)) ((Z_px.out.rz (by omega)).1.more (by omega)) ((Z_f1.out.rz.sub (Rz.max (k := (1 * k + 2)) (Rz.more Z_b.out.rz (by omega)) (Rz.zero2.more (by omega)))).more (by omega))).more (by omega)) ((Rz.min (k := (4 * k + 5)) ((Z_px.out.rz (by omega)).2.more (by omega)) ((Z_f1.out.rz.add (Rz.max (k := (1 * k + 2)) (Rz.more Z_b.out.rz (by omega)) (Rz.zero2.more (by omega)))).more (by omega))).more (by omega)) ((Rz.max (k := (4 * k + 5)) ((Z_py.out.rz (by omega)).1.more (by omega)) ((Z_f2.out.rz.sub (Rz.max (k := (1 * k + 2)) (Rz.more Z_b.out.rz (by omega)) (Rz.zero2.more (by omega)))).more (by omega))).more (by omega)) ((Rz.min (k := (4 * k + 5)) ((Z_py.out.rz (by omega)).2.more (by omega)) ((Z_f2.out.rz.add (Rz.max (k := (1 * k + 2)) (Rz.more Z_b.out.rz (by omega)) (Rz.zero2.more (by omega)))).more (by omega))).more (by omega)) ((Rz.max (k := (4 * k + 5)) ((Z_pt.out.rz (by omega)).1.more (by omega)) ((Z_ft.out.rz.sub (Rz.max (k := (1 * k + 2)) (Rz.more Z_u.out.rz (by omega)) (Rz.zero2.more (by omega)))).more (by omega))).more (by omega)) ((Rz.min (k := (4 * k + 5)) ((Z_pt.out.rz (by omega)).2.more (by omega)) ((Z_ft.out.rz.add (Rz.max (k := (1 * k + 2)) (Rz.more Z_u.out.rz (by omega)) (Rz.zero2.more (by omega)))).more (by omega))).more (by omega)) HL2.out.1 HL2.out.2.1 HL2.out.2.2 ⟨rfl, rfl, rfl, rfl, rfl, rfl⟩  (by omega) (by omega)) ?_
    simp only [Act.put, nA, nB, nC]
    iterate 7 (refine Seq.pure rfl rfl (by intro w; go_simp; try rfl) ?_; simp only [Act.put, nA, nB, nC])
    iterate 2 (refine Seq.nw rfl ?_; simp only [Act.put, nA, nB, nC])
    iterate 2 (refine Seq.pure rfl rfl (by intro w; go_simp; try rfl) ?_; simp only [Act.put, nA, nB, nC])
    refine Seq.done fun ws30 hws => ?_
    have HS30 := hws.st
    clear HS29 hws
    go_upto_region 23 with (fail)
    refine wp_seq_text [] (StR.no HS30) ?_
    refine Seq.load rfl rfl rfl rfl (by repeat (first | exact mC | apply mT)) (n := 18) rfl (by kernel_rfl) ?_
    simp only [Act.put, nA, nB, nC]
    refine Seq.call rfl rfl rfl rfl (by kernel_rfl) (width_w (k := (1 * k + 2)) (px1 := px1) (px2 := px2) (py1 := py1) (py2 := py2) (pt1 := pt1) (pt2 := pt2) HT.out (Z_px.out.more (by omega)) (Z_py.out.more (by omega)) (Z_pt.out.more (by omega))  rfl rfl (by omega) (by omega)) ?_
    simp only [Act.put, nA, nB, nC]
    refine Seq.pure rfl rfl (by intro w; go_simp; try rfl) ?_
    simp only [Act.put, nA, nB, nC]
    refine Seq.pure (v := .agg (RC (maxQ (pxh - pxl) (pyh - pyl)))) rfl rfl (fun w => rfl) ?_
    simp only [Act.put, nA, nB, nC]
    refine Seq.pure (v := .agg (RC (pth - ptl))) rfl rfl (fun w => rfl) ?_
    simp only [Act.put, nA, nB, nC]
    refine Seq.alloc rfl rfl rfl (z := .agg (RT.c rz0)) (by kernel_rfl) rfl ?_
    intro bk24 _ _ hbk24_r
    simp only [Act.put, nA, nB, nC]
    refine Seq.alloc rfl rfl rfl (z := .agg (RT.c rz0)) (by kernel_rfl) rfl ?_
    intro bk25 _ _ hbk25_r
    obtain ⟨ne_bk25_bk24, hbk25_r⟩ := Reg.ne_of_put hbk25_r
    have ne_bk24_bk25 := Ne.symm ne_bk25_bk24
    simp only [Act.put, nA, nB, nC]
    refine Seq.store rfl rfl rfl rfl rfl (by repeat (first | exact rS | refine rN (by assumption) ?_)) (n := 3) rfl rfl (by kernel_rfl) (RC_one _) ?_
    simp only [Act.put, nA, nB, nC]
    refine Seq.store rfl rfl rfl rfl rfl (by repeat (first | exact rS | refine rN (by assumption) ?_)) (n := 3) rfl rfl (by kernel_rfl) (RC_one _) ?_
    simp only [Act.put, nA, nB, nC]
    refine Seq.done fun ws31 hws => ?_
    have HS31 := hws.list2 (p := bk24) (q := bk25) (by repeat (first | exact rS | refine rN (by assumption) ?_)) (by repeat (first | exact rS | refine rN (by assumption) ?_)) (by assumption)
    clear HS30 hws
    go_upto_region 24 with (fail)
    refine wp_seq_text [] (StR.no HS31) ?_
    refine Seq.alloc rfl rfl rfl (z := .agg (TW rz0 rz0 rz0)) (by kernel_rfl) rfl ?_
    intro bk26 _ _ hbk26_r
    simp only [Act.put, nA, nB, nC]
    refine Seq.done fun ws32 hws => ?_
    have HS32 := hws.list1 (p := bk26) (by repeat (first | exact rS | refine rN (by assumption) ?_))
    clear HS31 hws
    go_upto_region 25 with (fail)
    refine wp_seq_text [] (StR.no HS32) ?_
    refine Seq.pure rfl rfl (by intro w; go_simp; try rfl) ?_
    simp only [Act.put, nA, nB, nC]
    refine Seq.done fun ws33 hws => ?_
    have HS33 := hws.st
    clear HS32 hws
    go_wp2_with fail
    refine wp_loop_rounds 4 ?_
    rw [rounds_succ]
    go_upto_region 26 with (fail)
    refine wp_seq_text [] (StR.no HS33) ?_
    refine Seq.pure rfl rfl (by intro w; go_simp; try rfl) ?_
    simp only [Act.put, nA, nB, nC]
    refine Seq.done fun ws34 hws => ?_
    have HS34 := hws.st
    clear HS33 hws
    go_upto_region 27 with (fail)
    refine wp_seq_text [] (StR.no HS34) ?_
    iterate 2 (refine Seq.pure rfl rfl (by intro w; go_simp; try rfl) ?_; simp only [Act.put, nA, nB, nC])
    refine Seq.done fun ws35 hws => ?_
    have HS35 := hws.st
    clear HS34 hws
    go_upto_region 28 with (fail)
    refine wp_seq [] (by kernel_rfl) (by kernel_rfl) (Reg.fin.put Reg.fin_no _ _) (StR.move (StR.no HS35)) ?_
    iterate 4 (refine Seq.pure rfl rfl (by intro w; go_simp; try rfl) ?_; simp only [Act.put, nA, nB, nC])
    refine Seq.loadAt rfl rfl rfl rfl (by repeat (first | exact mC | apply mT)) (n := 3) (cs' := RC pxh) (Nat.le_of_ble_eq_true rfl) (by kernel_rfl) rfl ?_
    simp only [Act.put, nA, nB, nC]
    iterate 3 (refine Seq.pure rfl rfl (by intro w; go_simp; try rfl) ?_; simp only [Act.put, nA, nB, nC])
    refine Seq.loadAt rfl rfl rfl rfl (by repeat (first | exact mC | apply mT)) (n := 3) (cs' := RC pxl) (Nat.le_of_ble_eq_true rfl) (by kernel_rfl) rfl ?_
    simp only [Act.put, nA, nB, nC]
    refine Seq.call rfl rfl rfl rfl (by kernel_rfl) (sub_q (k := (1 * k + 0)) HT.out ((Z_px.out.rz (by omega)).2.more (by omega)) ((Z_px.out.rz (by omega)).1.more (by omega)) rfl (by omega)) ?_
    simp only [Act.put, nA, nB, nC]
    refine Seq.pure rfl rfl (by intro w; go_simp; try rfl) ?_
    simp only [Act.put, nA, nB, nC]
    refine Seq.storeAt (v := .agg (RC (pxh - pxl))) rfl rfl rfl rfl rfl (by repeat (first | exact rS | refine rN (by assumption) ?_)) (Nat.le_of_ble_eq_true rfl) (by show _ = some 3; kernel_rfl) (RC_one _) (cs' := TW (rt (pxh - pxl)) rz0 rz0) rfl ?_
    simp only [Act.put, nA, nB, nC]
    refine Seq.done fun ws36 hws => ?_
    have HS36 := hws.list1 (p := bk26) (by repeat (first | exact rS | refine rN (by assumption) ?_))
    clear HS35 hws
    go_upto_region 29 with (fail)
    refine wp_seq_text [] (StR.no HS36) ?_
    refine Seq.pure (v := .int .i64 1) rfl rfl (by intro w; go_simp; try rfl) ?_
    simp only [Act.put, nA, nB, nC]
    refine Seq.pure rfl rfl (by intro w; go_simp; try rfl) ?_
    simp only [Act.put, nA, nB, nC]
    refine Seq.done fun ws37 hws => ?_
    have HS37 := hws.st
    clear HS36 hws
    go_wp2_with fail
    rw [rounds_succ]
    go_upto_region 26 with (fail)
    refine wp_seq_text [] (StR.no HS37) ?_
    refine Seq.pure rfl rfl (by intro w; go_simp; try rfl) ?_
    simp only [Act.put, nA, nB, nC]
    refine Seq.done fun ws38 hws => ?_
    have HS38 := hws.st
    clear HS37 hws
    go_upto_region 27 with (fail)
    refine wp_seq_text [] (StR.no HS38) ?_
    iterate 2 (refine Seq.pure rfl rfl (by intro w; go_simp; try rfl) ?_; simp only [Act.put, nA, nB, nC])
    refine Seq.done fun ws39 hws => ?_
    have HS39 := hws.st
    clear HS38 hws
    go_upto_region 28 with (fail)
    refine wp_seq [] (by kernel_rfl) (by kernel_rfl) (Reg.fin.put Reg.fin_no _ _) (StR.move (StR.no HS39)) ?_
    iterate 4 (refine Seq.pure rfl rfl (by intro w; go_simp; try rfl) ?_; simp only [Act.put, nA, nB, nC])
    refine Seq.loadAt rfl rfl rfl rfl (by repeat (first | exact mC | apply mT)) (n := 3) (cs' := RC pyh) (Nat.le_of_ble_eq_true rfl) (by kernel_rfl) rfl ?_
    simp only [Act.put, nA, nB, nC]
    iterate 3 (refine Seq.pure rfl rfl (by intro w; go_simp; try rfl) ?_; simp only [Act.put, nA, nB, nC])
    refine Seq.loadAt rfl rfl rfl rfl (by repeat (first | exact mC | apply mT)) (n := 3) (cs' := RC pyl) (Nat.le_of_ble_eq_true rfl) (by kernel_rfl) rfl ?_
    simp only [Act.put, nA, nB, nC]
    refine Seq.call rfl rfl rfl rfl (by kernel_rfl) (sub_q (k := (1 * k + 0)) HT.out ((Z_py.out.rz (by omega)).2.more (by omega)) ((Z_py.out.rz (by omega)).1.more (by omega)) rfl (by omega)) ?_
    simp only [Act.put, nA, nB, nC]
    refine Seq.pure rfl rfl (by intro w; go_simp; try rfl) ?_
    simp only [Act.put, nA, nB, nC]
    refine Seq.storeAt (v := .agg (RC (pyh - pyl))) rfl rfl rfl rfl rfl (by repeat (first | exact rS | refine rN (by assumption) ?_)) (Nat.le_of_ble_eq_true rfl) (by show _ = some 3; kernel_rfl) (RC_one _) (cs' := TW (rt (pxh - pxl)) (rt (pyh - pyl)) rz0) rfl ?_
    simp only [Act.put, nA, nB, nC]
    refine Seq.done fun ws40 hws => ?_
    have HS40 := hws.list1 (p := bk26) (by repeat (first | exact rS | refine rN (by assumption) ?_))
    clear HS39 hws
    go_upto_region 29 with (fail)
    refine wp_seq_text [] (StR.no HS40) ?_
    refine Seq.pure (v := .int .i64 2) rfl rfl (by intro w; go_simp; try rfl) ?_
    simp only [Act.put, nA, nB, nC]
    refine Seq.pure rfl rfl (by intro w; go_simp; try rfl) ?_
    simp only [Act.put, nA, nB, nC]
    refine Seq.done fun ws41 hws => ?_
    have HS41 := hws.st
    clear HS40 hws
    go_wp2_with fail
    rw [rounds_succ]
    go_upto_region 26 with (fail)
    refine wp_seq_text [] (StR.no HS41) ?_
    refine Seq.pure rfl rfl (by intro w; go_simp; try rfl) ?_
    simp only [Act.put, nA, nB, nC]
    refine Seq.done fun ws42 hws => ?_
    have HS42 := hws.st
    clear HS41 hws
    go_upto_region 27 with (fail)
    refine wp_seq_text [] (StR.no HS42) ?_
    iterate 2 (refine Seq.pure rfl rfl (by intro w; go_simp; try rfl) ?_; simp only [Act.put, nA, nB, nC])
    refine Seq.done fun ws43 hws => ?_
    have HS43 := hws.st
    clear HS42 hws
    go_upto_region 28 with (fail)
    refine wp_seq [] (by kernel_rfl) (by kernel_rfl) (Reg.fin.put Reg.fin_no _ _) (StR.move (StR.no HS43)) ?_
    iterate 4 (refine Seq.pure rfl rfl (by intro w; go_simp; try rfl) ?_; simp only [Act.put, nA, nB, nC])
    refine Seq.loadAt rfl rfl rfl rfl (by repeat (first | exact mC | apply mT)) (n := 3) (cs' := RC pth) (Nat.le_of_ble_eq_true rfl) (by kernel_rfl) rfl ?_
    simp only [Act.put, nA, nB, nC]
    iterate 3 (refine Seq.pure rfl rfl (by intro w; go_simp; try rfl) ?_; simp only [Act.put, nA, nB, nC])
    refine Seq.loadAt rfl rfl rfl rfl (by repeat (first | exact mC | apply mT)) (n := 3) (cs' := RC ptl) (Nat.le_of_ble_eq_true rfl) (by kernel_rfl) rfl ?_
    simp only [Act.put, nA, nB, nC]
    refine Seq.call rfl rfl rfl rfl (by kernel_rfl) (sub_q (k := (1 * k + 0)) HT.out ((Z_pt.out.rz (by omega)).2.more (by omega)) ((Z_pt.out.rz (by omega)).1.more (by omega)) rfl (by omega)) ?_
    simp only [Act.put, nA, nB, nC]
    refine Seq.pure rfl rfl (by intro w; go_simp; try rfl) ?_
    simp only [Act.put, nA, nB, nC]
    refine Seq.storeAt (v := .agg (RC (pth - ptl))) rfl rfl rfl rfl rfl (by repeat (first | exact rS | refine rN (by assumption) ?_)) (Nat.le_of_ble_eq_true rfl) (by show _ = some 3; kernel_rfl) (RC_one _) (cs' := TW (rt (pxh - pxl)) (rt (pyh - pyl)) (rt (pth - ptl))) rfl ?_
    simp only [Act.put, nA, nB, nC]
    refine Seq.done fun ws44 hws => ?_
    have HS44 := hws.list1 (p := bk26) (by repeat (first | exact rS | refine rN (by assumption) ?_))
    clear HS43 hws
    go_upto_region 29 with (fail)
    refine wp_seq_text [] (StR.no HS44) ?_
    refine Seq.pure (v := .int .i64 3) rfl rfl (by intro w; go_simp; try rfl) ?_
    simp only [Act.put, nA, nB, nC]
    refine Seq.pure rfl rfl (by intro w; go_simp; try rfl) ?_
    simp only [Act.put, nA, nB, nC]
    refine Seq.done fun ws45 hws => ?_
    have HS45 := hws.st
    clear HS44 hws
    go_wp2_with fail
    rw [rounds_succ]
    go_upto_region 26 with (fail)
    refine wp_seq_text [] (StR.no HS45) ?_
    refine Seq.pure rfl rfl (by intro w; go_simp; try rfl) ?_
    simp only [Act.put, nA, nB, nC]
    refine Seq.done fun ws46 hws => ?_
    have HS46 := hws.st
    clear HS45 hws
    go_upto_region 30 with (fail)
    refine wp_seq_text [] (StR.no HS46) ?_
    refine Seq.load rfl rfl rfl rfl (by repeat (first | exact mC | apply mT)) (n := 18) rfl (by kernel_rfl) ?_
    simp only [Act.put, nA, nB, nC]
    refine Seq.call rfl rfl rfl rfl (by kernel_rfl) (middle_w (k := (1 * k + 2)) (px1 := px1) (px2 := px2) (py1 := py1) (py2 := py2) (pt1 := pt1) (pt2 := pt2) HT.out (Z_px.out.more (by omega)) (Z_py.out.more (by omega)) (Z_pt.out.more (by omega))  rfl rfl rfl (by omega) (by omega)) ?_
    simp only [Act.put, nA, nB, nC]
    refine Seq.alloc rfl rfl rfl (z := .agg (FW rz0 rz0 false rz0)) (by kernel_rfl) rfl ?_
    intro bk28 _ _ hbk28_r
    simp only [Act.put, nA, nB, nC]
    refine Seq.store rfl rfl rfl rfl rfl (by repeat (first | exact rS | refine rN (by assumption) ?_)) (n := 10) rfl rfl (by kernel_rfl) (FC_one _ _ _ _) ?_
    simp only [Act.put, nA, nB, nC]
    refine Seq.done fun ws47 hws => ?_
    have HS47 := hws.list1 (p := bk28) (by repeat (first | exact rS | refine rN (by assumption) ?_))
    clear HS46 hws
    go_upto_region 31 with (fail)
    refine wp_seq_text [] (StR.no HS47) ?_
    refine Seq.load rfl rfl rfl rfl (by repeat (first | exact mC | apply mT)) (n := 10) rfl (by kernel_rfl) ?_
    simp only [Act.put, nA, nB, nC]
    refine Seq.call rfl rfl rfl rfl (by kernel_rfl) (frames_w (k := (4 * k + 3)) (f1_t := (rt ((pxl + pxh) / 2))) (f2_t := (rt ((pyl + pyh) / 2))) (ft_t := (rt ((ptl + pth) / 2))) HT.out (RawT.rc ((((Z_px.out.rz (by omega)).1.add (Z_px.out.rz (by omega)).2).div Rz.two2 (by decide)).more (by omega))) (RawT.rc ((((Z_py.out.rz (by omega)).1.add (Z_py.out.rz (by omega)).2).div Rz.two2 (by decide)).more (by omega))) (RawT.rc ((((Z_pt.out.rz (by omega)).1.add (Z_pt.out.rz (by omega)).2).div Rz.two2 (by decide)).more (by omega)))   (by omega) (by omega)) ?_
    simp only [Act.put, nA, nB, nC]
    refine Seq.pure rfl rfl (by intro w; go_simp; try rfl) ?_
    simp only [Act.put, nA, nB, nC]
    refine Seq.done fun ws48 hws => ?_
    have HS48 := hws.st
    clear HS47 hws
    go_wp2_with fail
    refine wp_loop_rounds 4 ?_
    rw [rounds_succ]
    go_upto_region 32 with (fail)
    refine wp_seq_text [] (StR.no HS48) ?_
    refine Seq.pure rfl rfl (by intro w; go_simp; try rfl) ?_
    simp only [Act.put, nA, nB, nC]
    refine Seq.done fun ws49 hws => ?_
    have HS49 := hws.st
    clear HS48 hws
    go_upto_region 33 with (fail)
    refine wp_seq_text [] (StR.no HS49) ?_
    refine Seq.pure rfl rfl (by intro w; go_simp; try rfl) ?_
    simp only [Act.put, nA, nB, nC]
    refine Seq.pure (v := .agg (RC ((pxl + pxh) / 2))) rfl rfl (by intro w; unfold TW; go_simp; try first | with_reducible rfl | rfl) ?_
    simp only [Act.put, nA, nB, nC]
    refine Seq.alloc rfl rfl rfl (z := .agg (RT.c rz0)) (by kernel_rfl) rfl ?_
    intro bk30 _ _ hbk30_r
    simp only [Act.put, nA, nB, nC]
    refine Seq.pure rfl rfl (by intro w; go_simp; try rfl) ?_
    simp only [Act.put, nA, nB, nC]
    refine Seq.store rfl rfl rfl rfl rfl (by repeat (first | exact rS | refine rN (by assumption) ?_)) (n := 3) rfl rfl (by kernel_rfl) (RC_one _) ?_
    simp only [Act.put, nA, nB, nC]
    refine Seq.done fun ws50 hws => ?_
    have HS50 := hws.list1 (p := bk30) (by repeat (first | exact rS | refine rN (by assumption) ?_))
    clear HS49 hws
    go_upto_region 34 with (fail)
    refine wp_seq [] (by kernel_rfl) (by kernel_rfl) Reg.fin_no (StR.no HS50) ?_
    refine Seq.call rfl rfl rfl rfl (by kernel_rfl) (of_q HT.out (by omega) (by omega) (show ((2 : Int) : Rat) = (2 : Rat) from rfl)) ?_
    simp only [Act.put, nA, nB, nC]
    refine Seq.load rfl rfl rfl rfl (by repeat (first | exact mC | apply mT)) (n := 3) rfl (by kernel_rfl) ?_
    simp only [Act.put, nA, nB, nC]
    refine Seq.call rfl rfl rfl rfl (by kernel_rfl) (mul_q (k := (4 * k + 3)) HT.out ((show Rz 2 (2 : Rat) from Rz.lit (z := 2) rfl (by decide)).more (by omega)) ((((Z_px.out.rz (by omega)).1.add (Z_px.out.rz (by omega)).2).div Rz.two2 (by decide)).more (by omega)) rfl (by omega)) ?_
    simp only [Act.put, nA, nB, nC]
    iterate 3 (refine Seq.pure rfl rfl (by intro w; go_simp; try rfl) ?_; simp only [Act.put, nA, nB, nC])
    refine Seq.loadAt rfl rfl rfl rfl (by repeat (first | exact mC | apply mT)) (n := 3) (cs' := RC pxl) (Nat.le_of_ble_eq_true rfl) (by kernel_rfl) rfl ?_
    simp only [Act.put, nA, nB, nC]
    iterate 3 (refine Seq.pure rfl rfl (by intro w; go_simp; try rfl) ?_; simp only [Act.put, nA, nB, nC])
    refine Seq.loadAt rfl rfl rfl rfl (by repeat (first | exact mC | apply mT)) (n := 3) (cs' := RC pxh) (Nat.le_of_ble_eq_true rfl) (by kernel_rfl) rfl ?_
    simp only [Act.put, nA, nB, nC]
    refine Seq.call rfl rfl rfl rfl (by kernel_rfl) (add_q (k := (1 * k + 0)) HT.out ((Z_px.out.rz (by omega)).1.more (by omega)) ((Z_px.out.rz (by omega)).2.more (by omega)) rfl (by omega)) ?_
    simp only [Act.put, nA, nB, nC]
    refine Seq.call rfl rfl rfl rfl (by kernel_rfl) (cmp_q (k := (4 * k + 5)) HT.out (((show Rz 2 (2 : Rat) from Rz.lit (z := 2) rfl (by decide)).mul (((Z_px.out.rz (by omega)).1.add (Z_px.out.rz (by omega)).2).div Rz.two2 (by decide))).more (by omega)) (((Z_px.out.rz (by omega)).1.add (Z_px.out.rz (by omega)).2).more (by omega)) ((cmpQ_zero _ _).2 (mid_two _)) (by omega)) ?_
    simp only [Act.put, nA, nB, nC]
    refine Seq.pure rfl rfl (by intro w; go_simp; try rfl) ?_
    simp only [Act.put, nA, nB, nC]
    refine Seq.done fun ws51 hws => ?_
    have HS51 := hws.st
    clear HS50 hws
    go_upto_region 36 with (fail)
    refine wp_seq_text [] (StR.no HS51) ?_
    refine Seq.pure (v := .int .i64 1) rfl rfl (by intro w; go_simp; try rfl) ?_
    simp only [Act.put, nA, nB, nC]
    refine Seq.pure rfl rfl (by intro w; go_simp; try rfl) ?_
    simp only [Act.put, nA, nB, nC]
    refine Seq.done fun ws52 hws => ?_
    have HS52 := hws.st
    clear HS51 hws
    go_wp2_with fail
    rw [rounds_succ]
    go_upto_region 32 with (fail)
    refine wp_seq_text [] (StR.no HS52) ?_
    refine Seq.pure rfl rfl (by intro w; go_simp; try rfl) ?_
    simp only [Act.put, nA, nB, nC]
    refine Seq.done fun ws53 hws => ?_
    have HS53 := hws.st
    clear HS52 hws
    go_upto_region 33 with (fail)
    refine wp_seq_text [] (StR.no HS53) ?_
    refine Seq.pure rfl rfl (by intro w; go_simp; try rfl) ?_
    simp only [Act.put, nA, nB, nC]
    refine Seq.pure (v := .agg (RC ((pyl + pyh) / 2))) rfl rfl (by intro w; unfold TW; go_simp; try first | with_reducible rfl | rfl) ?_
    simp only [Act.put, nA, nB, nC]
    refine Seq.alloc rfl rfl rfl (z := .agg (RT.c rz0)) (by kernel_rfl) rfl ?_
    intro bk30_1 _ _ hbk30_1_r
    simp only [Act.put, nA, nB, nC]
    refine Seq.pure rfl rfl (by intro w; go_simp; try rfl) ?_
    simp only [Act.put, nA, nB, nC]
    refine Seq.store rfl rfl rfl rfl rfl (by repeat (first | exact rS | refine rN (by assumption) ?_)) (n := 3) rfl rfl (by kernel_rfl) (RC_one _) ?_
    simp only [Act.put, nA, nB, nC]
    refine Seq.done fun ws54 hws => ?_
    have HS54 := hws.list1 (p := bk30_1) (by repeat (first | exact rS | refine rN (by assumption) ?_))
    clear HS53 hws
    go_upto_region 34 with (fail)
    refine wp_seq [] (by kernel_rfl) (by kernel_rfl) Reg.fin_no (StR.no HS54) ?_
    refine Seq.call rfl rfl rfl rfl (by kernel_rfl) (of_q HT.out (by omega) (by omega) (show ((2 : Int) : Rat) = (2 : Rat) from rfl)) ?_
    simp only [Act.put, nA, nB, nC]
    refine Seq.load rfl rfl rfl rfl (by repeat (first | exact mC | apply mT)) (n := 3) rfl (by kernel_rfl) ?_
    simp only [Act.put, nA, nB, nC]
    refine Seq.call rfl rfl rfl rfl (by kernel_rfl) (mul_q (k := (4 * k + 3)) HT.out ((show Rz 2 (2 : Rat) from Rz.lit (z := 2) rfl (by decide)).more (by omega)) ((((Z_py.out.rz (by omega)).1.add (Z_py.out.rz (by omega)).2).div Rz.two2 (by decide)).more (by omega)) rfl (by omega)) ?_
    simp only [Act.put, nA, nB, nC]
    iterate 3 (refine Seq.pure rfl rfl (by intro w; go_simp; try rfl) ?_; simp only [Act.put, nA, nB, nC])
    refine Seq.loadAt rfl rfl rfl rfl (by repeat (first | exact mC | apply mT)) (n := 3) (cs' := RC pyl) (Nat.le_of_ble_eq_true rfl) (by kernel_rfl) rfl ?_
    simp only [Act.put, nA, nB, nC]
    iterate 3 (refine Seq.pure rfl rfl (by intro w; go_simp; try rfl) ?_; simp only [Act.put, nA, nB, nC])
    refine Seq.loadAt rfl rfl rfl rfl (by repeat (first | exact mC | apply mT)) (n := 3) (cs' := RC pyh) (Nat.le_of_ble_eq_true rfl) (by kernel_rfl) rfl ?_
    simp only [Act.put, nA, nB, nC]
    refine Seq.call rfl rfl rfl rfl (by kernel_rfl) (add_q (k := (1 * k + 0)) HT.out ((Z_py.out.rz (by omega)).1.more (by omega)) ((Z_py.out.rz (by omega)).2.more (by omega)) rfl (by omega)) ?_
    simp only [Act.put, nA, nB, nC]
    refine Seq.call rfl rfl rfl rfl (by kernel_rfl) (cmp_q (k := (4 * k + 5)) HT.out (((show Rz 2 (2 : Rat) from Rz.lit (z := 2) rfl (by decide)).mul (((Z_py.out.rz (by omega)).1.add (Z_py.out.rz (by omega)).2).div Rz.two2 (by decide))).more (by omega)) (((Z_py.out.rz (by omega)).1.add (Z_py.out.rz (by omega)).2).more (by omega)) ((cmpQ_zero _ _).2 (mid_two _)) (by omega)) ?_
    simp only [Act.put, nA, nB, nC]
    refine Seq.pure rfl rfl (by intro w; go_simp; try rfl) ?_
    simp only [Act.put, nA, nB, nC]
    refine Seq.done fun ws55 hws => ?_
    have HS55 := hws.st
    clear HS54 hws
    go_upto_region 36 with (fail)
    refine wp_seq_text [] (StR.no HS55) ?_
    refine Seq.pure (v := .int .i64 2) rfl rfl (by intro w; go_simp; try rfl) ?_
    simp only [Act.put, nA, nB, nC]
    refine Seq.pure rfl rfl (by intro w; go_simp; try rfl) ?_
    simp only [Act.put, nA, nB, nC]
    refine Seq.done fun ws56 hws => ?_
    have HS56 := hws.st
    clear HS55 hws
    go_wp2_with fail
    rw [rounds_succ]
    go_upto_region 32 with (fail)
    refine wp_seq_text [] (StR.no HS56) ?_
    refine Seq.pure rfl rfl (by intro w; go_simp; try rfl) ?_
    simp only [Act.put, nA, nB, nC]
    refine Seq.done fun ws57 hws => ?_
    have HS57 := hws.st
    clear HS56 hws
    go_upto_region 33 with (fail)
    refine wp_seq_text [] (StR.no HS57) ?_
    refine Seq.pure rfl rfl (by intro w; go_simp; try rfl) ?_
    simp only [Act.put, nA, nB, nC]
    refine Seq.pure (v := .agg (RC ((ptl + pth) / 2))) rfl rfl (by intro w; unfold TW; go_simp; try first | with_reducible rfl | rfl) ?_
    simp only [Act.put, nA, nB, nC]
    refine Seq.alloc rfl rfl rfl (z := .agg (RT.c rz0)) (by kernel_rfl) rfl ?_
    intro bk30_2 _ _ hbk30_2_r
    simp only [Act.put, nA, nB, nC]
    refine Seq.pure rfl rfl (by intro w; go_simp; try rfl) ?_
    simp only [Act.put, nA, nB, nC]
    refine Seq.store rfl rfl rfl rfl rfl (by repeat (first | exact rS | refine rN (by assumption) ?_)) (n := 3) rfl rfl (by kernel_rfl) (RC_one _) ?_
    simp only [Act.put, nA, nB, nC]
    refine Seq.done fun ws58 hws => ?_
    have HS58 := hws.list1 (p := bk30_2) (by repeat (first | exact rS | refine rN (by assumption) ?_))
    clear HS57 hws
    go_upto_region 34 with (fail)
    refine wp_seq [] (by kernel_rfl) (by kernel_rfl) Reg.fin_no (StR.no HS58) ?_
    refine Seq.call rfl rfl rfl rfl (by kernel_rfl) (of_q HT.out (by omega) (by omega) (show ((2 : Int) : Rat) = (2 : Rat) from rfl)) ?_
    simp only [Act.put, nA, nB, nC]
    refine Seq.load rfl rfl rfl rfl (by repeat (first | exact mC | apply mT)) (n := 3) rfl (by kernel_rfl) ?_
    simp only [Act.put, nA, nB, nC]
    refine Seq.call rfl rfl rfl rfl (by kernel_rfl) (mul_q (k := (4 * k + 3)) HT.out ((show Rz 2 (2 : Rat) from Rz.lit (z := 2) rfl (by decide)).more (by omega)) ((((Z_pt.out.rz (by omega)).1.add (Z_pt.out.rz (by omega)).2).div Rz.two2 (by decide)).more (by omega)) rfl (by omega)) ?_
    simp only [Act.put, nA, nB, nC]
    iterate 3 (refine Seq.pure rfl rfl (by intro w; go_simp; try rfl) ?_; simp only [Act.put, nA, nB, nC])
    refine Seq.loadAt rfl rfl rfl rfl (by repeat (first | exact mC | apply mT)) (n := 3) (cs' := RC ptl) (Nat.le_of_ble_eq_true rfl) (by kernel_rfl) rfl ?_
    simp only [Act.put, nA, nB, nC]
    iterate 3 (refine Seq.pure rfl rfl (by intro w; go_simp; try rfl) ?_; simp only [Act.put, nA, nB, nC])
    refine Seq.loadAt rfl rfl rfl rfl (by repeat (first | exact mC | apply mT)) (n := 3) (cs' := RC pth) (Nat.le_of_ble_eq_true rfl) (by kernel_rfl) rfl ?_
    simp only [Act.put, nA, nB, nC]
    refine Seq.call rfl rfl rfl rfl (by kernel_rfl) (add_q (k := (1 * k + 0)) HT.out ((Z_pt.out.rz (by omega)).1.more (by omega)) ((Z_pt.out.rz (by omega)).2.more (by omega)) rfl (by omega)) ?_
    simp only [Act.put, nA, nB, nC]
    refine Seq.call rfl rfl rfl rfl (by kernel_rfl) (cmp_q (k := (4 * k + 5)) HT.out (((show Rz 2 (2 : Rat) from Rz.lit (z := 2) rfl (by decide)).mul (((Z_pt.out.rz (by omega)).1.add (Z_pt.out.rz (by omega)).2).div Rz.two2 (by decide))).more (by omega)) (((Z_pt.out.rz (by omega)).1.add (Z_pt.out.rz (by omega)).2).more (by omega)) ((cmpQ_zero _ _).2 (mid_two _)) (by omega)) ?_
    simp only [Act.put, nA, nB, nC]
    refine Seq.pure rfl rfl (by intro w; go_simp; try rfl) ?_
    simp only [Act.put, nA, nB, nC]
    refine Seq.done fun ws59 hws => ?_
    have HS59 := hws.st
    clear HS58 hws
    go_upto_region 36 with (fail)
    refine wp_seq_text [] (StR.no HS59) ?_
    refine Seq.pure (v := .int .i64 3) rfl rfl (by intro w; go_simp; try rfl) ?_
    simp only [Act.put, nA, nB, nC]
    refine Seq.pure rfl rfl (by intro w; go_simp; try rfl) ?_
    simp only [Act.put, nA, nB, nC]
    refine Seq.done fun ws60 hws => ?_
    have HS60 := hws.st
    clear HS59 hws
    go_wp2_with fail
    rw [rounds_succ]
    go_upto_region 32 with (fail)
    refine wp_seq_text [] (StR.no HS60) ?_
    refine Seq.pure rfl rfl (by intro w; go_simp; try rfl) ?_
    simp only [Act.put, nA, nB, nC]
    refine Seq.done fun ws61 hws => ?_
    have HS61 := hws.st
    clear HS60 hws
    go_upto_region 37 with (fail)
    refine wp_seq [] (by kernel_rfl) (by kernel_rfl) Reg.fin_no (StR.no HS61) ?_
    refine Seq.load rfl rfl rfl rfl (by repeat (first | exact mC | apply mT)) (n := 3) rfl (by kernel_rfl) ?_
    simp only [Act.put, nA, nB, nC]
    refine Seq.pure rfl rfl (by intro w; go_simp; try rfl) ?_
    simp only [Act.put, nA, nB, nC]
    refine Seq.loadAt rfl rfl rfl rfl (by repeat (first | exact mC | apply mT)) (n := 3) (cs' := RC (pxh - pxl)) (Nat.le_of_ble_eq_true rfl) (by kernel_rfl) rfl ?_
    simp only [Act.put, nA, nB, nC]
    refine Seq.pure rfl rfl (by intro w; go_simp; try rfl) ?_
    simp only [Act.put, nA, nB, nC]
    refine Seq.loadAt rfl rfl rfl rfl (by repeat (first | exact mC | apply mT)) (n := 3) (cs' := RC (pyh - pyl)) (Nat.le_of_ble_eq_true rfl) (by kernel_rfl) rfl ?_
    simp only [Act.put, nA, nB, nC]
    refine Seq.call rfl rfl rfl rfl (by kernel_rfl) (max_q (k := (4 * k + 1)) HT.out (((Z_px.out.rz (by omega)).2.sub (Z_px.out.rz (by omega)).1).more (by omega)) (((Z_py.out.rz (by omega)).2.sub (Z_py.out.rz (by omega)).1).more (by omega)) rfl (by omega)) ?_
    simp only [Act.put, nA, nB, nC]
    refine Seq.call rfl rfl rfl rfl (by kernel_rfl) (cmp_q (k := (4 * k + 1)) HT.out ((Rz.max (k := (4 * k + 1)) (((Z_px.out.rz (by omega)).2.sub (Z_px.out.rz (by omega)).1).more (by omega)) (((Z_py.out.rz (by omega)).2.sub (Z_py.out.rz (by omega)).1).more (by omega))).more (by omega)) ((Rz.max (k := (4 * k + 1)) (((Z_px.out.rz (by omega)).2.sub (Z_px.out.rz (by omega)).1).more (by omega)) (((Z_py.out.rz (by omega)).2.sub (Z_py.out.rz (by omega)).1).more (by omega))).more (by omega)) ((cmpQ_zero _ _).2 rfl) (by omega)) ?_
    simp only [Act.put, nA, nB, nC]
    iterate 2 (refine Seq.pure rfl rfl (by intro w; go_simp; try rfl) ?_; simp only [Act.put, nA, nB, nC])
    refine Seq.load rfl rfl rfl rfl (by repeat (first | exact mC | apply mT)) (n := 3) rfl (by kernel_rfl) ?_
    simp only [Act.put, nA, nB, nC]
    refine Seq.pure rfl rfl (by intro w; go_simp; try rfl) ?_
    simp only [Act.put, nA, nB, nC]
    refine Seq.loadAt rfl rfl rfl rfl (by repeat (first | exact mC | apply mT)) (n := 3) (cs' := RC (pth - ptl)) (Nat.le_of_ble_eq_true rfl) (by kernel_rfl) rfl ?_
    simp only [Act.put, nA, nB, nC]
    refine Seq.call rfl rfl rfl rfl (by kernel_rfl) (cmp_q (k := (4 * k + 1)) HT.out (((Z_pt.out.rz (by omega)).2.sub (Z_pt.out.rz (by omega)).1).more (by omega)) (((Z_pt.out.rz (by omega)).2.sub (Z_pt.out.rz (by omega)).1).more (by omega)) ((cmpQ_zero _ _).2 rfl) (by omega)) ?_
    simp only [Act.put, nA, nB, nC]
    iterate 5 (refine Seq.pure rfl rfl (by intro w; go_simp; try rfl) ?_; simp only [Act.put, nA, nB, nC])
    refine Seq.loadCell rfl rfl rfl rfl (by repeat (first | exact mC | apply mT)) (v := .bool false) rfl (by kernel_rfl) rfl ?_
    simp only [Act.put, nA, nB, nC]
    iterate 3 (refine Seq.pure rfl rfl (by intro w; go_simp; try rfl) ?_; simp only [Act.put, nA, nB, nC])
    refine Seq.done fun ws62 hws => ?_
    have HS62 := hws.st
    clear HS61 hws
    go_wp2_with fail
    go_ret
    exact ⟨rfl, HS62.below⟩
  · have HK2 := Lib.hid hk2; clear hk2
    go_upto_region 9 with (fail)
    refine wp_seq_text [] (StR.no HS7) ?_
    refine Seq.load rfl rfl rfl rfl (by repeat (first | exact mC | apply mT)) (n := 10) rfl (by kernel_rfl) ?_
    simp only [Act.put, nA, nB, nC]
    refine Seq.call rfl rfl rfl rfl (by kernel_rfl) (ofp_no (k := (1 * k + 2)) (f1_t := f1_t) (f2_t := f2_t) (ft_t := ft_t) HT.out (Z_f1.out.more (by omega)) (Z_f2.out.more (by omega)) (Z_ft.out.more (by omega))  rfl rfl rfl rfl rfl rfl (by omega) (by omega)) ?_
    simp only [Act.put, nA, nB, nC]
    refine Seq.pure rfl rfl (by intro w; go_simp; try rfl) ?_
    simp only [Act.put, nA, nB, nC]
    refine Seq.pure (v := .agg (PW (rt f1) (rt f1) (rt f2) (rt f2) (rt ft) (rt ft))) rfl rfl (fun w => rfl) ?_
    simp only [Act.put, nA, nB, nC]
    refine Seq.pure (v := .int .i64 0) rfl rfl (fun w => rfl) ?_
    simp only [Act.put, nA, nB, nC]
    refine Seq.alloc rfl rfl rfl (z := .agg (PW rz0 rz0 rz0 rz0 rz0 rz0)) (by kernel_rfl) rfl ?_
    intro bk18 _ _ hbk18_r
    simp only [Act.put, nA, nB, nC]
    refine Seq.store rfl rfl rfl rfl rfl (by repeat (first | exact rS | refine rN (by assumption) ?_)) (n := 18) rfl rfl (by kernel_rfl) (PW_one _ _ _ _ _ _) ?_
    simp only [Act.put, nA, nB, nC]
    refine Seq.pure rfl rfl (by intro w; go_simp; try rfl) ?_
    simp only [Act.put, nA, nB, nC]
    refine Seq.done fun ws8 hws => ?_
    have HS8 := hws.list1 (p := bk18) (by repeat (first | exact rS | refine rN (by assumption) ?_))
    clear HS7 hws
    go_upto_region 10 with (fail)
    refine wp_seq_text [] (StR.no HS8) ?_
    refine Seq.load rfl rfl rfl rfl (by repeat (first | exact mC | apply mT)) (n := 18) rfl (by kernel_rfl) ?_
    simp only [Act.put, nA, nB, nC]
    refine Seq.load rfl rfl rfl rfl (by repeat (first | exact mC | apply mT)) (n := 10) rfl (by kernel_rfl) ?_
    simp only [Act.put, nA, nB, nC]
    refine Seq.load rfl rfl rfl rfl (by repeat (first | exact mC | apply mT)) (n := 3) rfl (by kernel_rfl) ?_
    simp only [Act.put, nA, nB, nC]
    refine Seq.load rfl rfl rfl rfl (by repeat (first | exact mC | apply mT)) (n := 3) rfl (by kernel_rfl) ?_
    simp only [Act.put, nA, nB, nC]
    refine Seq.call rfl rfl rfl rfl (by kernel_rfl) (fun w h => (look_no (k := (1 * k + 2)) (px1 := px1) (px2 := px2) (py1 := py1) (py2 := py2) (pt1 := pt1) (pt2 := pt2) (f1_t := f1_t) (f2_t := f2_t) (ft_t := ft_t) (b_t := b_t) (u_t := u_t) HT.out (Z_px.out.more (by omega)) (Z_py.out.more (by omega)) (Z_pt.out.more (by omega)) (Z_f1.out.more (by omega)) (Z_f2.out.more (by omega)) (Z_ft.out.more (by omega)) (Z_b.out.more (by omega)) (Z_u.out.more (by omega)) (by omega) (by omega) w h).mono (fun e w2 hh => ⟨hh.1.trans (congrArg Ending.returned (naQ_no HK2.out)), hh.2⟩)) ?_
    simp only [Act.put, nA, nB, nC]
    refine Seq.pure rfl rfl (by intro w; go_simp; try rfl) ?_
    simp only [Act.put, nA, nB, nC]
    refine Seq.pure (v := .agg (PW rz0 rz0 rz0 rz0 rz0 rz0)) rfl rfl (fun w => rfl) ?_
    simp only [Act.put, nA, nB, nC]
    refine Seq.pure (v := .int .i64 4) rfl rfl (fun w => rfl) ?_
    simp only [Act.put, nA, nB, nC]
    refine Seq.alloc rfl rfl rfl (z := .agg (PW rz0 rz0 rz0 rz0 rz0 rz0)) (by kernel_rfl) rfl ?_
    intro bk19 _ _ hbk19_r
    simp only [Act.put, nA, nB, nC]
    refine Seq.store rfl rfl rfl rfl rfl (by repeat (first | exact rS | refine rN (by assumption) ?_)) (n := 18) rfl rfl (by kernel_rfl) (PW_one _ _ _ _ _ _) ?_
    simp only [Act.put, nA, nB, nC]
    refine Seq.pure rfl rfl (by intro w; go_simp; try rfl) ?_
    simp only [Act.put, nA, nB, nC]
    refine Seq.done fun ws9 hws => ?_
    have HS9 := hws.list1 (p := bk19) (by repeat (first | exact rS | refine rN (by assumption) ?_))
    clear HS8 hws
    go_upto_region 11 with (fail)
    refine wp_seq_text [] (StR.no HS9) ?_
    iterate 2 (refine Seq.pure rfl rfl (by intro w; go_simp; try rfl) ?_; simp only [Act.put, nA, nB, nC])
    refine Seq.loadCell rfl rfl rfl rfl (by repeat (first | exact mC | apply mT)) (v := .bool false) rfl (by kernel_rfl) rfl ?_
    simp only [Act.put, nA, nB, nC]
    refine Seq.done fun ws10 hws => ?_
    have HS10 := hws.st
    clear HS9 hws
    go_upto_region 13 with (fail)
    refine wp_seq_text [] (StR.no HS10) ?_
    refine Seq.pure (v := .agg (PW rz0 rz0 rz0 rz0 rz0 rz0)) rfl rfl (by intro w; go_simp; try rfl) ?_
    simp only [Act.put, nA, nB, nC]
    refine Seq.alloc rfl rfl rfl (z := .agg (PW rz0 rz0 rz0 rz0 rz0 rz0)) (by kernel_rfl) rfl ?_
    intro bk21 _ _ hbk21_r
    simp only [Act.put, nA, nB, nC]
    refine Seq.store rfl rfl rfl rfl rfl (by repeat (first | exact rS | refine rN (by assumption) ?_)) (n := 18) rfl rfl (by kernel_rfl) (PW_one _ _ _ _ _ _) ?_
    simp only [Act.put, nA, nB, nC]
    refine Seq.done fun ws11 hws => ?_
    have HS11 := hws.list1 (p := bk21) (by repeat (first | exact rS | refine rN (by assumption) ?_))
    clear HS10 hws
    go_upto_region 14 with (fail)
    refine wp_seq_text [] (StR.no HS11) ?_
    refine Seq.load rfl rfl rfl rfl (by repeat (first | exact mC | apply mT)) (n := 10) rfl (by kernel_rfl) ?_
    simp only [Act.put, nA, nB, nC]
    refine Seq.call rfl rfl rfl rfl (by kernel_rfl) (frames_w (k := (1 * k + 2)) (f1_t := f1_t) (f2_t := f2_t) (ft_t := ft_t) HT.out (Z_f1.out.more (by omega)) (Z_f2.out.more (by omega)) (Z_ft.out.more (by omega))   (by omega) (by omega)) ?_
    simp only [Act.put, nA, nB, nC]
    refine Seq.pure rfl rfl (by intro w; go_simp; try rfl) ?_
    simp only [Act.put, nA, nB, nC]
    refine Seq.done fun ws12 hws => ?_
    have HS12 := hws.st
    clear HS11 hws
    go_wp2_with fail
    refine wp_loop_rounds 4 ?_
    rw [rounds_succ]
    go_upto_region 15 with (fail)
    refine wp_seq_text [] (StR.no HS12) ?_
    refine Seq.pure rfl rfl (by intro w; go_simp; try rfl) ?_
    simp only [Act.put, nA, nB, nC]
    refine Seq.done fun ws13 hws => ?_
    have HS13 := hws.st
    clear HS12 hws
    go_upto_region 16 with (fail)
    refine wp_seq_text [] (StR.no HS13) ?_
    refine Seq.pure rfl rfl (by intro w; go_simp; try rfl) ?_
    simp only [Act.put, nA, nB, nC]
    refine Seq.pure (v := .agg (RT.c f1_t)) rfl rfl (by intro w; unfold TW; go_simp; try first | with_reducible rfl | rfl) ?_
    simp only [Act.put, nA, nB, nC]
    refine Seq.alloc rfl rfl rfl (z := .agg (RT.c rz0)) (by kernel_rfl) rfl ?_
    intro bk23 _ _ hbk23_r
    simp only [Act.put, nA, nB, nC]
    refine Seq.pure rfl rfl (by intro w; go_simp; try rfl) ?_
    simp only [Act.put, nA, nB, nC]
    refine Seq.store rfl rfl rfl rfl rfl (by repeat (first | exact rS | refine rN (by assumption) ?_)) (n := 3) rfl rfl (by kernel_rfl) (RT_one _) ?_
    simp only [Act.put, nA, nB, nC]
    refine Seq.done fun ws14 hws => ?_
    have HS14 := hws.list1 (p := bk23) (by repeat (first | exact rS | refine rN (by assumption) ?_))
    clear HS13 hws
    go_upto_region 17 with (fail)
    refine wp_seq_text [0, 2] (StR.move (StR.no HS14)) ?_
    refine Seq.get rfl rfl rfl rfl (by repeat (first | exact rS | refine rN (by assumption) ?_)) (n := 3) rfl (by kernel_rfl) ?_
    simp only [Act.put, nA, nB, nC]
    refine Seq.get rfl rfl rfl rfl (by repeat (first | exact rS | refine rN (by assumption) ?_)) (n := 3) rfl (by kernel_rfl) ?_
    simp only [Act.put, nA, nB, nC]
    refine Seq.call rfl rfl rfl rfl (by kernel_rfl) (min_w (k := (1 * k + 2)) HT.out (Z_f1.out.more (by omega)) (Z_f1.out.more (by omega)) (min_self _) (by omega)) ?_
    simp only [Act.put, nA, nB, nC]
    refine Seq.store rfl rfl rfl rfl rfl (by repeat (first | exact rS | refine rN (by assumption) ?_)) (n := 3) rfl rfl (by kernel_rfl) (RC_one _) ?_
    simp only [Act.put, nA, nB, nC]
    refine Seq.done fun ws15 hws => ?_
    have HS15 := hws.list1 (p := bk23) (by repeat (first | exact rS | refine rN (by assumption) ?_))
    clear HS14 hws
    go_upto_region 18 with (fail)
    have HPbk21 := HS15.f1
    refine wp_seq_text [] (StR.move (StR.no HPbk21)) ?_
    refine Seq.pure rfl rfl (by intro w; go_simp; try rfl) ?_
    simp only [Act.put, nA, nB, nC]
    refine Seq.load rfl rfl rfl rfl (by repeat (first | exact mC | apply mT)) (n := 3) rfl (by kernel_rfl) ?_
    simp only [Act.put, nA, nB, nC]
    refine Seq.load rfl rfl rfl rfl (by repeat (first | exact mC | apply mT)) (n := 3) rfl (by kernel_rfl) ?_
    simp only [Act.put, nA, nB, nC]
    refine Seq.pure (v := .agg (VC f1 f1)) rfl rfl (fun w => bld_RSpan (x := (rt f1)) (y := (rt f1)) rfl rfl rfl w) ?_
    simp only [Act.put, nA, nB, nC]
    refine Seq.pure rfl rfl (by intro w; go_simp; try rfl) ?_
    simp only [Act.put, nA, nB, nC]
    refine Seq.storeAt (v := .agg (VC f1 f1)) rfl rfl rfl rfl rfl (by repeat (first | exact rS | refine rN (by assumption) ?_)) (Nat.le_of_ble_eq_true rfl) (by show _ = some 6; kernel_rfl) (VC_one _ _) (cs' := PW (rt f1) (rt f1) rz0 rz0 rz0 rz0) rfl ?_
    simp only [Act.put, nA, nB, nC]
    refine Seq.done fun ws16 hws => ?_
    have HS16 := hws.list1 (p := bk21) (by repeat (first | exact rS | refine rN (by assumption) ?_))
    clear HS15 hws HPbk21
    go_upto_region 19 with (fail)
    refine wp_seq_text [] (StR.no HS16) ?_
    refine Seq.pure (v := .int .i64 1) rfl rfl (by intro w; go_simp; try rfl) ?_
    simp only [Act.put, nA, nB, nC]
    refine Seq.pure rfl rfl (by intro w; go_simp; try rfl) ?_
    simp only [Act.put, nA, nB, nC]
    refine Seq.done fun ws17 hws => ?_
    have HS17 := hws.st
    clear HS16 hws
    go_wp2_with fail
    rw [rounds_succ]
    go_upto_region 15 with (fail)
    refine wp_seq_text [] (StR.no HS17) ?_
    refine Seq.pure rfl rfl (by intro w; go_simp; try rfl) ?_
    simp only [Act.put, nA, nB, nC]
    refine Seq.done fun ws18 hws => ?_
    have HS18 := hws.st
    clear HS17 hws
    go_upto_region 16 with (fail)
    refine wp_seq_text [] (StR.no HS18) ?_
    refine Seq.pure rfl rfl (by intro w; go_simp; try rfl) ?_
    simp only [Act.put, nA, nB, nC]
    refine Seq.pure (v := .agg (RT.c f2_t)) rfl rfl (by intro w; unfold TW; go_simp; try first | with_reducible rfl | rfl) ?_
    simp only [Act.put, nA, nB, nC]
    refine Seq.alloc rfl rfl rfl (z := .agg (RT.c rz0)) (by kernel_rfl) rfl ?_
    intro bk23_1 _ _ hbk23_1_r
    simp only [Act.put, nA, nB, nC]
    refine Seq.pure rfl rfl (by intro w; go_simp; try rfl) ?_
    simp only [Act.put, nA, nB, nC]
    refine Seq.store rfl rfl rfl rfl rfl (by repeat (first | exact rS | refine rN (by assumption) ?_)) (n := 3) rfl rfl (by kernel_rfl) (RT_one _) ?_
    simp only [Act.put, nA, nB, nC]
    refine Seq.done fun ws19 hws => ?_
    have HS19 := hws.list1 (p := bk23_1) (by repeat (first | exact rS | refine rN (by assumption) ?_))
    clear HS18 hws
    go_upto_region 17 with (fail)
    refine wp_seq_text [0, 2] (StR.move (StR.no HS19)) ?_
    refine Seq.get rfl rfl rfl rfl (by repeat (first | exact rS | refine rN (by assumption) ?_)) (n := 3) rfl (by kernel_rfl) ?_
    simp only [Act.put, nA, nB, nC]
    refine Seq.get rfl rfl rfl rfl (by repeat (first | exact rS | refine rN (by assumption) ?_)) (n := 3) rfl (by kernel_rfl) ?_
    simp only [Act.put, nA, nB, nC]
    refine Seq.call rfl rfl rfl rfl (by kernel_rfl) (min_w (k := (1 * k + 2)) HT.out (Z_f2.out.more (by omega)) (Z_f2.out.more (by omega)) (min_self _) (by omega)) ?_
    simp only [Act.put, nA, nB, nC]
    refine Seq.store rfl rfl rfl rfl rfl (by repeat (first | exact rS | refine rN (by assumption) ?_)) (n := 3) rfl rfl (by kernel_rfl) (RC_one _) ?_
    simp only [Act.put, nA, nB, nC]
    refine Seq.done fun ws20 hws => ?_
    have HS20 := hws.list1 (p := bk23_1) (by repeat (first | exact rS | refine rN (by assumption) ?_))
    clear HS19 hws
    go_upto_region 18 with (fail)
    have HPbk21 := HS20.f1
    refine wp_seq_text [] (StR.move (StR.no HPbk21)) ?_
    refine Seq.pure rfl rfl (by intro w; go_simp; try rfl) ?_
    simp only [Act.put, nA, nB, nC]
    refine Seq.load rfl rfl rfl rfl (by repeat (first | exact mC | apply mT)) (n := 3) rfl (by kernel_rfl) ?_
    simp only [Act.put, nA, nB, nC]
    refine Seq.load rfl rfl rfl rfl (by repeat (first | exact mC | apply mT)) (n := 3) rfl (by kernel_rfl) ?_
    simp only [Act.put, nA, nB, nC]
    refine Seq.pure (v := .agg (VC f2 f2)) rfl rfl (fun w => bld_RSpan (x := (rt f2)) (y := (rt f2)) rfl rfl rfl w) ?_
    simp only [Act.put, nA, nB, nC]
    refine Seq.pure rfl rfl (by intro w; go_simp; try rfl) ?_
    simp only [Act.put, nA, nB, nC]
    refine Seq.storeAt (v := .agg (VC f2 f2)) rfl rfl rfl rfl rfl (by repeat (first | exact rS | refine rN (by assumption) ?_)) (Nat.le_of_ble_eq_true rfl) (by show _ = some 6; kernel_rfl) (VC_one _ _) (cs' := PW (rt f1) (rt f1) (rt f2) (rt f2) rz0 rz0) rfl ?_
    simp only [Act.put, nA, nB, nC]
    refine Seq.done fun ws21 hws => ?_
    have HS21 := hws.list1 (p := bk21) (by repeat (first | exact rS | refine rN (by assumption) ?_))
    clear HS20 hws HPbk21
    go_upto_region 19 with (fail)
    refine wp_seq_text [] (StR.no HS21) ?_
    refine Seq.pure (v := .int .i64 2) rfl rfl (by intro w; go_simp; try rfl) ?_
    simp only [Act.put, nA, nB, nC]
    refine Seq.pure rfl rfl (by intro w; go_simp; try rfl) ?_
    simp only [Act.put, nA, nB, nC]
    refine Seq.done fun ws22 hws => ?_
    have HS22 := hws.st
    clear HS21 hws
    go_wp2_with fail
    rw [rounds_succ]
    go_upto_region 15 with (fail)
    refine wp_seq_text [] (StR.no HS22) ?_
    refine Seq.pure rfl rfl (by intro w; go_simp; try rfl) ?_
    simp only [Act.put, nA, nB, nC]
    refine Seq.done fun ws23 hws => ?_
    have HS23 := hws.st
    clear HS22 hws
    go_upto_region 16 with (fail)
    refine wp_seq_text [] (StR.no HS23) ?_
    refine Seq.pure rfl rfl (by intro w; go_simp; try rfl) ?_
    simp only [Act.put, nA, nB, nC]
    refine Seq.pure (v := .agg (RT.c ft_t)) rfl rfl (by intro w; unfold TW; go_simp; try first | with_reducible rfl | rfl) ?_
    simp only [Act.put, nA, nB, nC]
    refine Seq.alloc rfl rfl rfl (z := .agg (RT.c rz0)) (by kernel_rfl) rfl ?_
    intro bk23_2 _ _ hbk23_2_r
    simp only [Act.put, nA, nB, nC]
    refine Seq.pure rfl rfl (by intro w; go_simp; try rfl) ?_
    simp only [Act.put, nA, nB, nC]
    refine Seq.store rfl rfl rfl rfl rfl (by repeat (first | exact rS | refine rN (by assumption) ?_)) (n := 3) rfl rfl (by kernel_rfl) (RT_one _) ?_
    simp only [Act.put, nA, nB, nC]
    refine Seq.done fun ws24 hws => ?_
    have HS24 := hws.list1 (p := bk23_2) (by repeat (first | exact rS | refine rN (by assumption) ?_))
    clear HS23 hws
    go_upto_region 17 with (fail)
    refine wp_seq_text [0, 2] (StR.move (StR.no HS24)) ?_
    refine Seq.get rfl rfl rfl rfl (by repeat (first | exact rS | refine rN (by assumption) ?_)) (n := 3) rfl (by kernel_rfl) ?_
    simp only [Act.put, nA, nB, nC]
    refine Seq.get rfl rfl rfl rfl (by repeat (first | exact rS | refine rN (by assumption) ?_)) (n := 3) rfl (by kernel_rfl) ?_
    simp only [Act.put, nA, nB, nC]
    refine Seq.call rfl rfl rfl rfl (by kernel_rfl) (min_w (k := (1 * k + 2)) HT.out (Z_ft.out.more (by omega)) (Z_ft.out.more (by omega)) (min_self _) (by omega)) ?_
    simp only [Act.put, nA, nB, nC]
    refine Seq.store rfl rfl rfl rfl rfl (by repeat (first | exact rS | refine rN (by assumption) ?_)) (n := 3) rfl rfl (by kernel_rfl) (RC_one _) ?_
    simp only [Act.put, nA, nB, nC]
    refine Seq.done fun ws25 hws => ?_
    have HS25 := hws.list1 (p := bk23_2) (by repeat (first | exact rS | refine rN (by assumption) ?_))
    clear HS24 hws
    go_upto_region 18 with (fail)
    have HPbk21 := HS25.f1
    refine wp_seq_text [] (StR.move (StR.no HPbk21)) ?_
    refine Seq.pure rfl rfl (by intro w; go_simp; try rfl) ?_
    simp only [Act.put, nA, nB, nC]
    refine Seq.load rfl rfl rfl rfl (by repeat (first | exact mC | apply mT)) (n := 3) rfl (by kernel_rfl) ?_
    simp only [Act.put, nA, nB, nC]
    refine Seq.load rfl rfl rfl rfl (by repeat (first | exact mC | apply mT)) (n := 3) rfl (by kernel_rfl) ?_
    simp only [Act.put, nA, nB, nC]
    refine Seq.pure (v := .agg (VC ft ft)) rfl rfl (fun w => bld_RSpan (x := (rt ft)) (y := (rt ft)) rfl rfl rfl w) ?_
    simp only [Act.put, nA, nB, nC]
    refine Seq.pure rfl rfl (by intro w; go_simp; try rfl) ?_
    simp only [Act.put, nA, nB, nC]
    refine Seq.storeAt (v := .agg (VC ft ft)) rfl rfl rfl rfl rfl (by repeat (first | exact rS | refine rN (by assumption) ?_)) (Nat.le_of_ble_eq_true rfl) (by show _ = some 6; kernel_rfl) (VC_one _ _) (cs' := PW (rt f1) (rt f1) (rt f2) (rt f2) (rt ft) (rt ft)) rfl ?_
    simp only [Act.put, nA, nB, nC]
    refine Seq.done fun ws26 hws => ?_
    have HS26 := hws.list1 (p := bk21) (by repeat (first | exact rS | refine rN (by assumption) ?_))
    clear HS25 hws HPbk21
    go_upto_region 19 with (fail)
    refine wp_seq_text [] (StR.no HS26) ?_
    refine Seq.pure (v := .int .i64 3) rfl rfl (by intro w; go_simp; try rfl) ?_
    simp only [Act.put, nA, nB, nC]
    refine Seq.pure rfl rfl (by intro w; go_simp; try rfl) ?_
    simp only [Act.put, nA, nB, nC]
    refine Seq.done fun ws27 hws => ?_
    have HS27 := hws.st
    clear HS26 hws
    go_wp2_with fail
    rw [rounds_succ]
    go_upto_region 15 with (fail)
    refine wp_seq_text [] (StR.no HS27) ?_
    refine Seq.pure rfl rfl (by intro w; go_simp; try rfl) ?_
    simp only [Act.put, nA, nB, nC]
    refine Seq.done fun ws28 hws => ?_
    have HS28 := hws.st
    clear HS27 hws
    go_upto_region 20 with (fail)
    have HPbk13 := HS28.f7
    refine wp_seq [] (by kernel_rfl) (by kernel_rfl) (Reg.fin.put Reg.fin_no _ _) (StR.move (StR.no HPbk13)) ?_
    refine Seq.load rfl rfl rfl rfl (by repeat (first | exact mC | apply mT)) (n := 18) rfl (by kernel_rfl) ?_
    simp only [Act.put, nA, nB, nC]
    refine Seq.load rfl rfl rfl rfl (by repeat (first | exact mC | apply mT)) (n := 18) rfl (by kernel_rfl) ?_
    simp only [Act.put, nA, nB, nC]
    refine Seq.load rfl rfl rfl rfl (by repeat (first | exact mC | apply mT)) (n := 3) rfl (by kernel_rfl) ?_
    simp only [Act.put, nA, nB, nC]
    refine Seq.load rfl rfl rfl rfl (by repeat (first | exact mC | apply mT)) (n := 3) rfl (by kernel_rfl) ?_
    simp only [Act.put, nA, nB, nC]
    refine Seq.call rfl rfl rfl rfl (by kernel_rfl) (wideOf_w (k := (1 * k + 2)) (b_t := b_t) (u_t := u_t) HT.out (Z_f1.out.rz.more (by omega)) (Z_f1.out.rz.more (by omega)) (Z_f2.out.rz.more (by omega)) (Z_f2.out.rz.more (by omega)) (Z_ft.out.rz.more (by omega)) (Z_ft.out.rz.more (by omega)) (Z_b.out.more (by omega)) (Z_u.out.more (by omega))  rfl rfl rfl rfl rfl rfl (by omega) (by omega)) ?_
    simp only [Act.put, nA, nB, nC]
    refine Seq.call rfl rfl rfl rfl (by kernel_rfl) (fun w h => (meetOf_any (k := (4 * k + 5)) HT.out ((Z_px.out.rz (by omega)).1.more (by omega)) ((Z_px.out.rz (by omega)).2.more (by omega)) ((Z_py.out.rz (by omega)).1.more (by omega)) ((Z_py.out.rz (by omega)).2.more (by omega)) ((Z_pt.out.rz (by omega)).1.more (by omega)) ((Z_pt.out.rz (by omega)).2.more (by omega)) ((Z_f1.out.rz.sub (Rz.max (k := (1 * k + 2)) (Rz.more Z_b.out.rz (by omega)) (Rz.zero2.more (by omega)))).more (by omega)) ((Z_f1.out.rz.add (Rz.max (k := (1 * k + 2)) (Rz.more Z_b.out.rz (by omega)) (Rz.zero2.more (by omega)))).more (by omega)) ((Z_f2.out.rz.sub (Rz.max (k := (1 * k + 2)) (Rz.more Z_b.out.rz (by omega)) (Rz.zero2.more (by omega)))).more (by omega)) ((Z_f2.out.rz.add (Rz.max (k := (1 * k + 2)) (Rz.more Z_b.out.rz (by omega)) (Rz.zero2.more (by omega)))).more (by omega)) ((Z_ft.out.rz.sub (Rz.max (k := (1 * k + 2)) (Rz.more Z_u.out.rz (by omega)) (Rz.zero2.more (by omega)))).more (by omega)) ((Z_ft.out.rz.add (Rz.max (k := (1 * k + 2)) (Rz.more Z_u.out.rz (by omega)) (Rz.zero2.more (by omega)))).more (by omega)) (by omega) w h).mono (fun e w2 hh => ⟨hh.1.trans (congrArg Ending.returned (mRQ_no HK2.out)), hh.2⟩)) ?_
    simp only [Act.put, nA, nB, nC]
    refine Seq.pure rfl rfl (by intro w; go_simp; try rfl) ?_
    simp only [Act.put, nA, nB, nC]
    refine Seq.pure (v := .agg (PW rz0 rz0 rz0 rz0 rz0 rz0)) rfl rfl (fun w => rfl) ?_
    simp only [Act.put, nA, nB, nC]
    refine Seq.pure (v := .bool false) rfl rfl (fun w => rfl) ?_
    simp only [Act.put, nA, nB, nC]
    refine Seq.store rfl rfl rfl rfl rfl (by repeat (first | exact rS | refine rN (by assumption) ?_)) (n := 18) rfl rfl (by kernel_rfl) (PW_one _ _ _ _ _ _) ?_
    simp only [Act.put, nA, nB, nC]
    refine Seq.pure rfl rfl (by intro w; go_simp; try rfl) ?_
    simp only [Act.put, nA, nB, nC]
    refine Seq.done fun ws29 hws => ?_
    have HS29 := hws.list1 (p := bk13) (by repeat (first | exact rS | refine rN (by assumption) ?_))
    clear HS28 hws HPbk13
    go_upto_region 21 with (fail)
    refine wp_seq_text [] (StR.no HS29) ?_
    iterate 3 (refine Seq.pure rfl rfl (by intro w; go_simp; try rfl) ?_; simp only [Act.put, nA, nB, nC])
    refine Seq.load rfl rfl rfl rfl (by repeat (first | exact mC | apply mT)) (n := 18) rfl (by kernel_rfl) ?_
    simp only [Act.put, nA, nB, nC]
    refine Seq.load rfl rfl rfl rfl (by repeat (first | exact mC | apply mT)) (n := 18) rfl (by kernel_rfl) ?_
    simp only [Act.put, nA, nB, nC]
    refine Seq.call rfl rfl rfl rfl (by kernel_rfl) (same_q (k := (1 * k + 2)) HT.out (Z_f1.out.rz.more (by omega)) (Z_f1.out.rz.more (by omega)) (Z_f2.out.rz.more (by omega)) (Z_f2.out.rz.more (by omega)) (Z_ft.out.rz.more (by omega)) (Z_ft.out.rz.more (by omega)) (Z_f1.out.rz.more (by omega)) (Z_f1.out.rz.more (by omega)) (Z_f2.out.rz.more (by omega)) (Z_f2.out.rz.more (by omega)) (Z_ft.out.rz.more (by omega)) (Z_ft.out.rz.more (by omega)) Rat.le_refl Rat.le_refl Rat.le_refl ⟨rfl, rfl, rfl, rfl, rfl, rfl⟩  (by omega) (by omega)) ?_
    simp only [Act.put, nA, nB, nC]
    iterate 11 (refine Seq.pure rfl rfl (by intro w; go_simp; try rfl) ?_; simp only [Act.put, nA, nB, nC])
    iterate 4 (refine Seq.nw rfl ?_; simp only [Act.put, nA, nB, nC])
    iterate 10 (refine Seq.pure rfl rfl (by intro w; go_simp; try rfl) ?_; simp only [Act.put, nA, nB, nC])
    refine Seq.done fun ws30 hws => ?_
    have HS30 := hws.st
    clear HS29 hws
    go_upto_region 23 with (fail)
    refine wp_seq_text [] (StR.no HS30) ?_
    refine Seq.load rfl rfl rfl rfl (by repeat (first | exact mC | apply mT)) (n := 18) rfl (by kernel_rfl) ?_
    simp only [Act.put, nA, nB, nC]
    refine Seq.call rfl rfl rfl rfl (by kernel_rfl) (width_w (k := (1 * k + 2)) (px1 := px1) (px2 := px2) (py1 := py1) (py2 := py2) (pt1 := pt1) (pt2 := pt2) HT.out (Z_px.out.more (by omega)) (Z_py.out.more (by omega)) (Z_pt.out.more (by omega))  rfl rfl (by omega) (by omega)) ?_
    simp only [Act.put, nA, nB, nC]
    refine Seq.pure rfl rfl (by intro w; go_simp; try rfl) ?_
    simp only [Act.put, nA, nB, nC]
    refine Seq.pure (v := .agg (RC (maxQ (pxh - pxl) (pyh - pyl)))) rfl rfl (fun w => rfl) ?_
    simp only [Act.put, nA, nB, nC]
    refine Seq.pure (v := .agg (RC (pth - ptl))) rfl rfl (fun w => rfl) ?_
    simp only [Act.put, nA, nB, nC]
    refine Seq.alloc rfl rfl rfl (z := .agg (RT.c rz0)) (by kernel_rfl) rfl ?_
    intro bk24 _ _ hbk24_r
    simp only [Act.put, nA, nB, nC]
    refine Seq.alloc rfl rfl rfl (z := .agg (RT.c rz0)) (by kernel_rfl) rfl ?_
    intro bk25 _ _ hbk25_r
    obtain ⟨ne_bk25_bk24, hbk25_r⟩ := Reg.ne_of_put hbk25_r
    have ne_bk24_bk25 := Ne.symm ne_bk25_bk24
    simp only [Act.put, nA, nB, nC]
    refine Seq.store rfl rfl rfl rfl rfl (by repeat (first | exact rS | refine rN (by assumption) ?_)) (n := 3) rfl rfl (by kernel_rfl) (RC_one _) ?_
    simp only [Act.put, nA, nB, nC]
    refine Seq.store rfl rfl rfl rfl rfl (by repeat (first | exact rS | refine rN (by assumption) ?_)) (n := 3) rfl rfl (by kernel_rfl) (RC_one _) ?_
    simp only [Act.put, nA, nB, nC]
    refine Seq.done fun ws31 hws => ?_
    have HS31 := hws.list2 (p := bk24) (q := bk25) (by repeat (first | exact rS | refine rN (by assumption) ?_)) (by repeat (first | exact rS | refine rN (by assumption) ?_)) (by assumption)
    clear HS30 hws
    go_upto_region 24 with (fail)
    refine wp_seq_text [] (StR.no HS31) ?_
    refine Seq.alloc rfl rfl rfl (z := .agg (TW rz0 rz0 rz0)) (by kernel_rfl) rfl ?_
    intro bk26 _ _ hbk26_r
    simp only [Act.put, nA, nB, nC]
    refine Seq.done fun ws32 hws => ?_
    have HS32 := hws.list1 (p := bk26) (by repeat (first | exact rS | refine rN (by assumption) ?_))
    clear HS31 hws
    go_upto_region 25 with (fail)
    refine wp_seq_text [] (StR.no HS32) ?_
    refine Seq.pure rfl rfl (by intro w; go_simp; try rfl) ?_
    simp only [Act.put, nA, nB, nC]
    refine Seq.done fun ws33 hws => ?_
    have HS33 := hws.st
    clear HS32 hws
    go_wp2_with fail
    refine wp_loop_rounds 4 ?_
    rw [rounds_succ]
    go_upto_region 26 with (fail)
    refine wp_seq_text [] (StR.no HS33) ?_
    refine Seq.pure rfl rfl (by intro w; go_simp; try rfl) ?_
    simp only [Act.put, nA, nB, nC]
    refine Seq.done fun ws34 hws => ?_
    have HS34 := hws.st
    clear HS33 hws
    go_upto_region 27 with (fail)
    refine wp_seq_text [] (StR.no HS34) ?_
    iterate 2 (refine Seq.pure rfl rfl (by intro w; go_simp; try rfl) ?_; simp only [Act.put, nA, nB, nC])
    refine Seq.done fun ws35 hws => ?_
    have HS35 := hws.st
    clear HS34 hws
    go_upto_region 28 with (fail)
    refine wp_seq [] (by kernel_rfl) (by kernel_rfl) (Reg.fin.put Reg.fin_no _ _) (StR.move (StR.no HS35)) ?_
    iterate 4 (refine Seq.pure rfl rfl (by intro w; go_simp; try rfl) ?_; simp only [Act.put, nA, nB, nC])
    refine Seq.loadAt rfl rfl rfl rfl (by repeat (first | exact mC | apply mT)) (n := 3) (cs' := RC pxh) (Nat.le_of_ble_eq_true rfl) (by kernel_rfl) rfl ?_
    simp only [Act.put, nA, nB, nC]
    iterate 3 (refine Seq.pure rfl rfl (by intro w; go_simp; try rfl) ?_; simp only [Act.put, nA, nB, nC])
    refine Seq.loadAt rfl rfl rfl rfl (by repeat (first | exact mC | apply mT)) (n := 3) (cs' := RC pxl) (Nat.le_of_ble_eq_true rfl) (by kernel_rfl) rfl ?_
    simp only [Act.put, nA, nB, nC]
    refine Seq.call rfl rfl rfl rfl (by kernel_rfl) (sub_q (k := (1 * k + 0)) HT.out ((Z_px.out.rz (by omega)).2.more (by omega)) ((Z_px.out.rz (by omega)).1.more (by omega)) rfl (by omega)) ?_
    simp only [Act.put, nA, nB, nC]
    refine Seq.pure rfl rfl (by intro w; go_simp; try rfl) ?_
    simp only [Act.put, nA, nB, nC]
    refine Seq.storeAt (v := .agg (RC (pxh - pxl))) rfl rfl rfl rfl rfl (by repeat (first | exact rS | refine rN (by assumption) ?_)) (Nat.le_of_ble_eq_true rfl) (by show _ = some 3; kernel_rfl) (RC_one _) (cs' := TW (rt (pxh - pxl)) rz0 rz0) rfl ?_
    simp only [Act.put, nA, nB, nC]
    refine Seq.done fun ws36 hws => ?_
    have HS36 := hws.list1 (p := bk26) (by repeat (first | exact rS | refine rN (by assumption) ?_))
    clear HS35 hws
    go_upto_region 29 with (fail)
    refine wp_seq_text [] (StR.no HS36) ?_
    refine Seq.pure (v := .int .i64 1) rfl rfl (by intro w; go_simp; try rfl) ?_
    simp only [Act.put, nA, nB, nC]
    refine Seq.pure rfl rfl (by intro w; go_simp; try rfl) ?_
    simp only [Act.put, nA, nB, nC]
    refine Seq.done fun ws37 hws => ?_
    have HS37 := hws.st
    clear HS36 hws
    go_wp2_with fail
    rw [rounds_succ]
    go_upto_region 26 with (fail)
    refine wp_seq_text [] (StR.no HS37) ?_
    refine Seq.pure rfl rfl (by intro w; go_simp; try rfl) ?_
    simp only [Act.put, nA, nB, nC]
    refine Seq.done fun ws38 hws => ?_
    have HS38 := hws.st
    clear HS37 hws
    go_upto_region 27 with (fail)
    refine wp_seq_text [] (StR.no HS38) ?_
    iterate 2 (refine Seq.pure rfl rfl (by intro w; go_simp; try rfl) ?_; simp only [Act.put, nA, nB, nC])
    refine Seq.done fun ws39 hws => ?_
    have HS39 := hws.st
    clear HS38 hws
    go_upto_region 28 with (fail)
    refine wp_seq [] (by kernel_rfl) (by kernel_rfl) (Reg.fin.put Reg.fin_no _ _) (StR.move (StR.no HS39)) ?_
    iterate 4 (refine Seq.pure rfl rfl (by intro w; go_simp; try rfl) ?_; simp only [Act.put, nA, nB, nC])
    refine Seq.loadAt rfl rfl rfl rfl (by repeat (first | exact mC | apply mT)) (n := 3) (cs' := RC pyh) (Nat.le_of_ble_eq_true rfl) (by kernel_rfl) rfl ?_
    simp only [Act.put, nA, nB, nC]
    iterate 3 (refine Seq.pure rfl rfl (by intro w; go_simp; try rfl) ?_; simp only [Act.put, nA, nB, nC])
    refine Seq.loadAt rfl rfl rfl rfl (by repeat (first | exact mC | apply mT)) (n := 3) (cs' := RC pyl) (Nat.le_of_ble_eq_true rfl) (by kernel_rfl) rfl ?_
    simp only [Act.put, nA, nB, nC]
    refine Seq.call rfl rfl rfl rfl (by kernel_rfl) (sub_q (k := (1 * k + 0)) HT.out ((Z_py.out.rz (by omega)).2.more (by omega)) ((Z_py.out.rz (by omega)).1.more (by omega)) rfl (by omega)) ?_
    simp only [Act.put, nA, nB, nC]
    refine Seq.pure rfl rfl (by intro w; go_simp; try rfl) ?_
    simp only [Act.put, nA, nB, nC]
    refine Seq.storeAt (v := .agg (RC (pyh - pyl))) rfl rfl rfl rfl rfl (by repeat (first | exact rS | refine rN (by assumption) ?_)) (Nat.le_of_ble_eq_true rfl) (by show _ = some 3; kernel_rfl) (RC_one _) (cs' := TW (rt (pxh - pxl)) (rt (pyh - pyl)) rz0) rfl ?_
    simp only [Act.put, nA, nB, nC]
    refine Seq.done fun ws40 hws => ?_
    have HS40 := hws.list1 (p := bk26) (by repeat (first | exact rS | refine rN (by assumption) ?_))
    clear HS39 hws
    go_upto_region 29 with (fail)
    refine wp_seq_text [] (StR.no HS40) ?_
    refine Seq.pure (v := .int .i64 2) rfl rfl (by intro w; go_simp; try rfl) ?_
    simp only [Act.put, nA, nB, nC]
    refine Seq.pure rfl rfl (by intro w; go_simp; try rfl) ?_
    simp only [Act.put, nA, nB, nC]
    refine Seq.done fun ws41 hws => ?_
    have HS41 := hws.st
    clear HS40 hws
    go_wp2_with fail
    rw [rounds_succ]
    go_upto_region 26 with (fail)
    refine wp_seq_text [] (StR.no HS41) ?_
    refine Seq.pure rfl rfl (by intro w; go_simp; try rfl) ?_
    simp only [Act.put, nA, nB, nC]
    refine Seq.done fun ws42 hws => ?_
    have HS42 := hws.st
    clear HS41 hws
    go_upto_region 27 with (fail)
    refine wp_seq_text [] (StR.no HS42) ?_
    iterate 2 (refine Seq.pure rfl rfl (by intro w; go_simp; try rfl) ?_; simp only [Act.put, nA, nB, nC])
    refine Seq.done fun ws43 hws => ?_
    have HS43 := hws.st
    clear HS42 hws
    go_upto_region 28 with (fail)
    refine wp_seq [] (by kernel_rfl) (by kernel_rfl) (Reg.fin.put Reg.fin_no _ _) (StR.move (StR.no HS43)) ?_
    iterate 4 (refine Seq.pure rfl rfl (by intro w; go_simp; try rfl) ?_; simp only [Act.put, nA, nB, nC])
    refine Seq.loadAt rfl rfl rfl rfl (by repeat (first | exact mC | apply mT)) (n := 3) (cs' := RC pth) (Nat.le_of_ble_eq_true rfl) (by kernel_rfl) rfl ?_
    simp only [Act.put, nA, nB, nC]
    iterate 3 (refine Seq.pure rfl rfl (by intro w; go_simp; try rfl) ?_; simp only [Act.put, nA, nB, nC])
    refine Seq.loadAt rfl rfl rfl rfl (by repeat (first | exact mC | apply mT)) (n := 3) (cs' := RC ptl) (Nat.le_of_ble_eq_true rfl) (by kernel_rfl) rfl ?_
    simp only [Act.put, nA, nB, nC]
    refine Seq.call rfl rfl rfl rfl (by kernel_rfl) (sub_q (k := (1 * k + 0)) HT.out ((Z_pt.out.rz (by omega)).2.more (by omega)) ((Z_pt.out.rz (by omega)).1.more (by omega)) rfl (by omega)) ?_
    simp only [Act.put, nA, nB, nC]
    refine Seq.pure rfl rfl (by intro w; go_simp; try rfl) ?_
    simp only [Act.put, nA, nB, nC]
    refine Seq.storeAt (v := .agg (RC (pth - ptl))) rfl rfl rfl rfl rfl (by repeat (first | exact rS | refine rN (by assumption) ?_)) (Nat.le_of_ble_eq_true rfl) (by show _ = some 3; kernel_rfl) (RC_one _) (cs' := TW (rt (pxh - pxl)) (rt (pyh - pyl)) (rt (pth - ptl))) rfl ?_
    simp only [Act.put, nA, nB, nC]
    refine Seq.done fun ws44 hws => ?_
    have HS44 := hws.list1 (p := bk26) (by repeat (first | exact rS | refine rN (by assumption) ?_))
    clear HS43 hws
    go_upto_region 29 with (fail)
    refine wp_seq_text [] (StR.no HS44) ?_
    refine Seq.pure (v := .int .i64 3) rfl rfl (by intro w; go_simp; try rfl) ?_
    simp only [Act.put, nA, nB, nC]
    refine Seq.pure rfl rfl (by intro w; go_simp; try rfl) ?_
    simp only [Act.put, nA, nB, nC]
    refine Seq.done fun ws45 hws => ?_
    have HS45 := hws.st
    clear HS44 hws
    go_wp2_with fail
    rw [rounds_succ]
    go_upto_region 26 with (fail)
    refine wp_seq_text [] (StR.no HS45) ?_
    refine Seq.pure rfl rfl (by intro w; go_simp; try rfl) ?_
    simp only [Act.put, nA, nB, nC]
    refine Seq.done fun ws46 hws => ?_
    have HS46 := hws.st
    clear HS45 hws
    go_upto_region 30 with (fail)
    refine wp_seq_text [] (StR.no HS46) ?_
    refine Seq.load rfl rfl rfl rfl (by repeat (first | exact mC | apply mT)) (n := 18) rfl (by kernel_rfl) ?_
    simp only [Act.put, nA, nB, nC]
    refine Seq.call rfl rfl rfl rfl (by kernel_rfl) (middle_w (k := (1 * k + 2)) (px1 := px1) (px2 := px2) (py1 := py1) (py2 := py2) (pt1 := pt1) (pt2 := pt2) HT.out (Z_px.out.more (by omega)) (Z_py.out.more (by omega)) (Z_pt.out.more (by omega))  rfl rfl rfl (by omega) (by omega)) ?_
    simp only [Act.put, nA, nB, nC]
    refine Seq.alloc rfl rfl rfl (z := .agg (FW rz0 rz0 false rz0)) (by kernel_rfl) rfl ?_
    intro bk28 _ _ hbk28_r
    simp only [Act.put, nA, nB, nC]
    refine Seq.store rfl rfl rfl rfl rfl (by repeat (first | exact rS | refine rN (by assumption) ?_)) (n := 10) rfl rfl (by kernel_rfl) (FC_one _ _ _ _) ?_
    simp only [Act.put, nA, nB, nC]
    refine Seq.done fun ws47 hws => ?_
    have HS47 := hws.list1 (p := bk28) (by repeat (first | exact rS | refine rN (by assumption) ?_))
    clear HS46 hws
    go_upto_region 31 with (fail)
    refine wp_seq_text [] (StR.no HS47) ?_
    refine Seq.load rfl rfl rfl rfl (by repeat (first | exact mC | apply mT)) (n := 10) rfl (by kernel_rfl) ?_
    simp only [Act.put, nA, nB, nC]
    refine Seq.call rfl rfl rfl rfl (by kernel_rfl) (frames_w (k := (4 * k + 3)) (f1_t := (rt ((pxl + pxh) / 2))) (f2_t := (rt ((pyl + pyh) / 2))) (ft_t := (rt ((ptl + pth) / 2))) HT.out (RawT.rc ((((Z_px.out.rz (by omega)).1.add (Z_px.out.rz (by omega)).2).div Rz.two2 (by decide)).more (by omega))) (RawT.rc ((((Z_py.out.rz (by omega)).1.add (Z_py.out.rz (by omega)).2).div Rz.two2 (by decide)).more (by omega))) (RawT.rc ((((Z_pt.out.rz (by omega)).1.add (Z_pt.out.rz (by omega)).2).div Rz.two2 (by decide)).more (by omega)))   (by omega) (by omega)) ?_
    simp only [Act.put, nA, nB, nC]
    refine Seq.pure rfl rfl (by intro w; go_simp; try rfl) ?_
    simp only [Act.put, nA, nB, nC]
    refine Seq.done fun ws48 hws => ?_
    have HS48 := hws.st
    clear HS47 hws
    go_wp2_with fail
    refine wp_loop_rounds 4 ?_
    rw [rounds_succ]
    go_upto_region 32 with (fail)
    refine wp_seq_text [] (StR.no HS48) ?_
    refine Seq.pure rfl rfl (by intro w; go_simp; try rfl) ?_
    simp only [Act.put, nA, nB, nC]
    refine Seq.done fun ws49 hws => ?_
    have HS49 := hws.st
    clear HS48 hws
    go_upto_region 33 with (fail)
    refine wp_seq_text [] (StR.no HS49) ?_
    refine Seq.pure rfl rfl (by intro w; go_simp; try rfl) ?_
    simp only [Act.put, nA, nB, nC]
    refine Seq.pure (v := .agg (RC ((pxl + pxh) / 2))) rfl rfl (by intro w; unfold TW; go_simp; try first | with_reducible rfl | rfl) ?_
    simp only [Act.put, nA, nB, nC]
    refine Seq.alloc rfl rfl rfl (z := .agg (RT.c rz0)) (by kernel_rfl) rfl ?_
    intro bk30 _ _ hbk30_r
    simp only [Act.put, nA, nB, nC]
    refine Seq.pure rfl rfl (by intro w; go_simp; try rfl) ?_
    simp only [Act.put, nA, nB, nC]
    refine Seq.store rfl rfl rfl rfl rfl (by repeat (first | exact rS | refine rN (by assumption) ?_)) (n := 3) rfl rfl (by kernel_rfl) (RC_one _) ?_
    simp only [Act.put, nA, nB, nC]
    refine Seq.done fun ws50 hws => ?_
    have HS50 := hws.list1 (p := bk30) (by repeat (first | exact rS | refine rN (by assumption) ?_))
    clear HS49 hws
    go_upto_region 34 with (fail)
    refine wp_seq [] (by kernel_rfl) (by kernel_rfl) Reg.fin_no (StR.no HS50) ?_
    refine Seq.call rfl rfl rfl rfl (by kernel_rfl) (of_q HT.out (by omega) (by omega) (show ((2 : Int) : Rat) = (2 : Rat) from rfl)) ?_
    simp only [Act.put, nA, nB, nC]
    refine Seq.load rfl rfl rfl rfl (by repeat (first | exact mC | apply mT)) (n := 3) rfl (by kernel_rfl) ?_
    simp only [Act.put, nA, nB, nC]
    refine Seq.call rfl rfl rfl rfl (by kernel_rfl) (mul_q (k := (4 * k + 3)) HT.out ((show Rz 2 (2 : Rat) from Rz.lit (z := 2) rfl (by decide)).more (by omega)) ((((Z_px.out.rz (by omega)).1.add (Z_px.out.rz (by omega)).2).div Rz.two2 (by decide)).more (by omega)) rfl (by omega)) ?_
    simp only [Act.put, nA, nB, nC]
    iterate 3 (refine Seq.pure rfl rfl (by intro w; go_simp; try rfl) ?_; simp only [Act.put, nA, nB, nC])
    refine Seq.loadAt rfl rfl rfl rfl (by repeat (first | exact mC | apply mT)) (n := 3) (cs' := RC pxl) (Nat.le_of_ble_eq_true rfl) (by kernel_rfl) rfl ?_
    simp only [Act.put, nA, nB, nC]
    iterate 3 (refine Seq.pure rfl rfl (by intro w; go_simp; try rfl) ?_; simp only [Act.put, nA, nB, nC])
    refine Seq.loadAt rfl rfl rfl rfl (by repeat (first | exact mC | apply mT)) (n := 3) (cs' := RC pxh) (Nat.le_of_ble_eq_true rfl) (by kernel_rfl) rfl ?_
    simp only [Act.put, nA, nB, nC]
    refine Seq.call rfl rfl rfl rfl (by kernel_rfl) (add_q (k := (1 * k + 0)) HT.out ((Z_px.out.rz (by omega)).1.more (by omega)) ((Z_px.out.rz (by omega)).2.more (by omega)) rfl (by omega)) ?_
    simp only [Act.put, nA, nB, nC]
    refine Seq.call rfl rfl rfl rfl (by kernel_rfl) (cmp_q (k := (4 * k + 5)) HT.out (((show Rz 2 (2 : Rat) from Rz.lit (z := 2) rfl (by decide)).mul (((Z_px.out.rz (by omega)).1.add (Z_px.out.rz (by omega)).2).div Rz.two2 (by decide))).more (by omega)) (((Z_px.out.rz (by omega)).1.add (Z_px.out.rz (by omega)).2).more (by omega)) ((cmpQ_zero _ _).2 (mid_two _)) (by omega)) ?_
    simp only [Act.put, nA, nB, nC]
    refine Seq.pure rfl rfl (by intro w; go_simp; try rfl) ?_
    simp only [Act.put, nA, nB, nC]
    refine Seq.done fun ws51 hws => ?_
    have HS51 := hws.st
    clear HS50 hws
    go_upto_region 36 with (fail)
    refine wp_seq_text [] (StR.no HS51) ?_
    refine Seq.pure (v := .int .i64 1) rfl rfl (by intro w; go_simp; try rfl) ?_
    simp only [Act.put, nA, nB, nC]
    refine Seq.pure rfl rfl (by intro w; go_simp; try rfl) ?_
    simp only [Act.put, nA, nB, nC]
    refine Seq.done fun ws52 hws => ?_
    have HS52 := hws.st
    clear HS51 hws
    go_wp2_with fail
    rw [rounds_succ]
    go_upto_region 32 with (fail)
    refine wp_seq_text [] (StR.no HS52) ?_
    refine Seq.pure rfl rfl (by intro w; go_simp; try rfl) ?_
    simp only [Act.put, nA, nB, nC]
    refine Seq.done fun ws53 hws => ?_
    have HS53 := hws.st
    clear HS52 hws
    go_upto_region 33 with (fail)
    refine wp_seq_text [] (StR.no HS53) ?_
    refine Seq.pure rfl rfl (by intro w; go_simp; try rfl) ?_
    simp only [Act.put, nA, nB, nC]
    refine Seq.pure (v := .agg (RC ((pyl + pyh) / 2))) rfl rfl (by intro w; unfold TW; go_simp; try first | with_reducible rfl | rfl) ?_
    simp only [Act.put, nA, nB, nC]
    refine Seq.alloc rfl rfl rfl (z := .agg (RT.c rz0)) (by kernel_rfl) rfl ?_
    intro bk30_1 _ _ hbk30_1_r
    simp only [Act.put, nA, nB, nC]
    refine Seq.pure rfl rfl (by intro w; go_simp; try rfl) ?_
    simp only [Act.put, nA, nB, nC]
    refine Seq.store rfl rfl rfl rfl rfl (by repeat (first | exact rS | refine rN (by assumption) ?_)) (n := 3) rfl rfl (by kernel_rfl) (RC_one _) ?_
    simp only [Act.put, nA, nB, nC]
    refine Seq.done fun ws54 hws => ?_
    have HS54 := hws.list1 (p := bk30_1) (by repeat (first | exact rS | refine rN (by assumption) ?_))
    clear HS53 hws
    go_upto_region 34 with (fail)
    refine wp_seq [] (by kernel_rfl) (by kernel_rfl) Reg.fin_no (StR.no HS54) ?_
    refine Seq.call rfl rfl rfl rfl (by kernel_rfl) (of_q HT.out (by omega) (by omega) (show ((2 : Int) : Rat) = (2 : Rat) from rfl)) ?_
    simp only [Act.put, nA, nB, nC]
    refine Seq.load rfl rfl rfl rfl (by repeat (first | exact mC | apply mT)) (n := 3) rfl (by kernel_rfl) ?_
    simp only [Act.put, nA, nB, nC]
    refine Seq.call rfl rfl rfl rfl (by kernel_rfl) (mul_q (k := (4 * k + 3)) HT.out ((show Rz 2 (2 : Rat) from Rz.lit (z := 2) rfl (by decide)).more (by omega)) ((((Z_py.out.rz (by omega)).1.add (Z_py.out.rz (by omega)).2).div Rz.two2 (by decide)).more (by omega)) rfl (by omega)) ?_
    simp only [Act.put, nA, nB, nC]
    iterate 3 (refine Seq.pure rfl rfl (by intro w; go_simp; try rfl) ?_; simp only [Act.put, nA, nB, nC])
    refine Seq.loadAt rfl rfl rfl rfl (by repeat (first | exact mC | apply mT)) (n := 3) (cs' := RC pyl) (Nat.le_of_ble_eq_true rfl) (by kernel_rfl) rfl ?_
    simp only [Act.put, nA, nB, nC]
    iterate 3 (refine Seq.pure rfl rfl (by intro w; go_simp; try rfl) ?_; simp only [Act.put, nA, nB, nC])
    refine Seq.loadAt rfl rfl rfl rfl (by repeat (first | exact mC | apply mT)) (n := 3) (cs' := RC pyh) (Nat.le_of_ble_eq_true rfl) (by kernel_rfl) rfl ?_
    simp only [Act.put, nA, nB, nC]
    refine Seq.call rfl rfl rfl rfl (by kernel_rfl) (add_q (k := (1 * k + 0)) HT.out ((Z_py.out.rz (by omega)).1.more (by omega)) ((Z_py.out.rz (by omega)).2.more (by omega)) rfl (by omega)) ?_
    simp only [Act.put, nA, nB, nC]
    refine Seq.call rfl rfl rfl rfl (by kernel_rfl) (cmp_q (k := (4 * k + 5)) HT.out (((show Rz 2 (2 : Rat) from Rz.lit (z := 2) rfl (by decide)).mul (((Z_py.out.rz (by omega)).1.add (Z_py.out.rz (by omega)).2).div Rz.two2 (by decide))).more (by omega)) (((Z_py.out.rz (by omega)).1.add (Z_py.out.rz (by omega)).2).more (by omega)) ((cmpQ_zero _ _).2 (mid_two _)) (by omega)) ?_
    simp only [Act.put, nA, nB, nC]
    refine Seq.pure rfl rfl (by intro w; go_simp; try rfl) ?_
    simp only [Act.put, nA, nB, nC]
    refine Seq.done fun ws55 hws => ?_
    have HS55 := hws.st
    clear HS54 hws
    go_upto_region 36 with (fail)
    refine wp_seq_text [] (StR.no HS55) ?_
    refine Seq.pure (v := .int .i64 2) rfl rfl (by intro w; go_simp; try rfl) ?_
    simp only [Act.put, nA, nB, nC]
    refine Seq.pure rfl rfl (by intro w; go_simp; try rfl) ?_
    simp only [Act.put, nA, nB, nC]
    refine Seq.done fun ws56 hws => ?_
    have HS56 := hws.st
    clear HS55 hws
    go_wp2_with fail
    rw [rounds_succ]
    go_upto_region 32 with (fail)
    refine wp_seq_text [] (StR.no HS56) ?_
    refine Seq.pure rfl rfl (by intro w; go_simp; try rfl) ?_
    simp only [Act.put, nA, nB, nC]
    refine Seq.done fun ws57 hws => ?_
    have HS57 := hws.st
    clear HS56 hws
    go_upto_region 33 with (fail)
    refine wp_seq_text [] (StR.no HS57) ?_
    refine Seq.pure rfl rfl (by intro w; go_simp; try rfl) ?_
    simp only [Act.put, nA, nB, nC]
    refine Seq.pure (v := .agg (RC ((ptl + pth) / 2))) rfl rfl (by intro w; unfold TW; go_simp; try first | with_reducible rfl | rfl) ?_
    simp only [Act.put, nA, nB, nC]
    refine Seq.alloc rfl rfl rfl (z := .agg (RT.c rz0)) (by kernel_rfl) rfl ?_
    intro bk30_2 _ _ hbk30_2_r
    simp only [Act.put, nA, nB, nC]
    refine Seq.pure rfl rfl (by intro w; go_simp; try rfl) ?_
    simp only [Act.put, nA, nB, nC]
    refine Seq.store rfl rfl rfl rfl rfl (by repeat (first | exact rS | refine rN (by assumption) ?_)) (n := 3) rfl rfl (by kernel_rfl) (RC_one _) ?_
    simp only [Act.put, nA, nB, nC]
    refine Seq.done fun ws58 hws => ?_
    have HS58 := hws.list1 (p := bk30_2) (by repeat (first | exact rS | refine rN (by assumption) ?_))
    clear HS57 hws
    go_upto_region 34 with (fail)
    refine wp_seq [] (by kernel_rfl) (by kernel_rfl) Reg.fin_no (StR.no HS58) ?_
    refine Seq.call rfl rfl rfl rfl (by kernel_rfl) (of_q HT.out (by omega) (by omega) (show ((2 : Int) : Rat) = (2 : Rat) from rfl)) ?_
    simp only [Act.put, nA, nB, nC]
    refine Seq.load rfl rfl rfl rfl (by repeat (first | exact mC | apply mT)) (n := 3) rfl (by kernel_rfl) ?_
    simp only [Act.put, nA, nB, nC]
    refine Seq.call rfl rfl rfl rfl (by kernel_rfl) (mul_q (k := (4 * k + 3)) HT.out ((show Rz 2 (2 : Rat) from Rz.lit (z := 2) rfl (by decide)).more (by omega)) ((((Z_pt.out.rz (by omega)).1.add (Z_pt.out.rz (by omega)).2).div Rz.two2 (by decide)).more (by omega)) rfl (by omega)) ?_
    simp only [Act.put, nA, nB, nC]
    iterate 3 (refine Seq.pure rfl rfl (by intro w; go_simp; try rfl) ?_; simp only [Act.put, nA, nB, nC])
    refine Seq.loadAt rfl rfl rfl rfl (by repeat (first | exact mC | apply mT)) (n := 3) (cs' := RC ptl) (Nat.le_of_ble_eq_true rfl) (by kernel_rfl) rfl ?_
    simp only [Act.put, nA, nB, nC]
    iterate 3 (refine Seq.pure rfl rfl (by intro w; go_simp; try rfl) ?_; simp only [Act.put, nA, nB, nC])
    refine Seq.loadAt rfl rfl rfl rfl (by repeat (first | exact mC | apply mT)) (n := 3) (cs' := RC pth) (Nat.le_of_ble_eq_true rfl) (by kernel_rfl) rfl ?_
    simp only [Act.put, nA, nB, nC]
    refine Seq.call rfl rfl rfl rfl (by kernel_rfl) (add_q (k := (1 * k + 0)) HT.out ((Z_pt.out.rz (by omega)).1.more (by omega)) ((Z_pt.out.rz (by omega)).2.more (by omega)) rfl (by omega)) ?_
    simp only [Act.put, nA, nB, nC]
    refine Seq.call rfl rfl rfl rfl (by kernel_rfl) (cmp_q (k := (4 * k + 5)) HT.out (((show Rz 2 (2 : Rat) from Rz.lit (z := 2) rfl (by decide)).mul (((Z_pt.out.rz (by omega)).1.add (Z_pt.out.rz (by omega)).2).div Rz.two2 (by decide))).more (by omega)) (((Z_pt.out.rz (by omega)).1.add (Z_pt.out.rz (by omega)).2).more (by omega)) ((cmpQ_zero _ _).2 (mid_two _)) (by omega)) ?_
    simp only [Act.put, nA, nB, nC]
    refine Seq.pure rfl rfl (by intro w; go_simp; try rfl) ?_
    simp only [Act.put, nA, nB, nC]
    refine Seq.done fun ws59 hws => ?_
    have HS59 := hws.st
    clear HS58 hws
    go_upto_region 36 with (fail)
    refine wp_seq_text [] (StR.no HS59) ?_
    refine Seq.pure (v := .int .i64 3) rfl rfl (by intro w; go_simp; try rfl) ?_
    simp only [Act.put, nA, nB, nC]
    refine Seq.pure rfl rfl (by intro w; go_simp; try rfl) ?_
    simp only [Act.put, nA, nB, nC]
    refine Seq.done fun ws60 hws => ?_
    have HS60 := hws.st
    clear HS59 hws
    go_wp2_with fail
    rw [rounds_succ]
    go_upto_region 32 with (fail)
    refine wp_seq_text [] (StR.no HS60) ?_
    refine Seq.pure rfl rfl (by intro w; go_simp; try rfl) ?_
    simp only [Act.put, nA, nB, nC]
    refine Seq.done fun ws61 hws => ?_
    have HS61 := hws.st
    clear HS60 hws
    go_upto_region 37 with (fail)
    refine wp_seq [] (by kernel_rfl) (by kernel_rfl) Reg.fin_no (StR.no HS61) ?_
    refine Seq.load rfl rfl rfl rfl (by repeat (first | exact mC | apply mT)) (n := 3) rfl (by kernel_rfl) ?_
    simp only [Act.put, nA, nB, nC]
    refine Seq.pure rfl rfl (by intro w; go_simp; try rfl) ?_
    simp only [Act.put, nA, nB, nC]
    refine Seq.loadAt rfl rfl rfl rfl (by repeat (first | exact mC | apply mT)) (n := 3) (cs' := RC (pxh - pxl)) (Nat.le_of_ble_eq_true rfl) (by kernel_rfl) rfl ?_
    simp only [Act.put, nA, nB, nC]
    refine Seq.pure rfl rfl (by intro w; go_simp; try rfl) ?_
    simp only [Act.put, nA, nB, nC]
    refine Seq.loadAt rfl rfl rfl rfl (by repeat (first | exact mC | apply mT)) (n := 3) (cs' := RC (pyh - pyl)) (Nat.le_of_ble_eq_true rfl) (by kernel_rfl) rfl ?_
    simp only [Act.put, nA, nB, nC]
    refine Seq.call rfl rfl rfl rfl (by kernel_rfl) (max_q (k := (4 * k + 1)) HT.out (((Z_px.out.rz (by omega)).2.sub (Z_px.out.rz (by omega)).1).more (by omega)) (((Z_py.out.rz (by omega)).2.sub (Z_py.out.rz (by omega)).1).more (by omega)) rfl (by omega)) ?_
    simp only [Act.put, nA, nB, nC]
    refine Seq.call rfl rfl rfl rfl (by kernel_rfl) (cmp_q (k := (4 * k + 1)) HT.out ((Rz.max (k := (4 * k + 1)) (((Z_px.out.rz (by omega)).2.sub (Z_px.out.rz (by omega)).1).more (by omega)) (((Z_py.out.rz (by omega)).2.sub (Z_py.out.rz (by omega)).1).more (by omega))).more (by omega)) ((Rz.max (k := (4 * k + 1)) (((Z_px.out.rz (by omega)).2.sub (Z_px.out.rz (by omega)).1).more (by omega)) (((Z_py.out.rz (by omega)).2.sub (Z_py.out.rz (by omega)).1).more (by omega))).more (by omega)) ((cmpQ_zero _ _).2 rfl) (by omega)) ?_
    simp only [Act.put, nA, nB, nC]
    iterate 2 (refine Seq.pure rfl rfl (by intro w; go_simp; try rfl) ?_; simp only [Act.put, nA, nB, nC])
    refine Seq.load rfl rfl rfl rfl (by repeat (first | exact mC | apply mT)) (n := 3) rfl (by kernel_rfl) ?_
    simp only [Act.put, nA, nB, nC]
    refine Seq.pure rfl rfl (by intro w; go_simp; try rfl) ?_
    simp only [Act.put, nA, nB, nC]
    refine Seq.loadAt rfl rfl rfl rfl (by repeat (first | exact mC | apply mT)) (n := 3) (cs' := RC (pth - ptl)) (Nat.le_of_ble_eq_true rfl) (by kernel_rfl) rfl ?_
    simp only [Act.put, nA, nB, nC]
    refine Seq.call rfl rfl rfl rfl (by kernel_rfl) (cmp_q (k := (4 * k + 1)) HT.out (((Z_pt.out.rz (by omega)).2.sub (Z_pt.out.rz (by omega)).1).more (by omega)) (((Z_pt.out.rz (by omega)).2.sub (Z_pt.out.rz (by omega)).1).more (by omega)) ((cmpQ_zero _ _).2 rfl) (by omega)) ?_
    simp only [Act.put, nA, nB, nC]
    iterate 5 (refine Seq.pure rfl rfl (by intro w; go_simp; try rfl) ?_; simp only [Act.put, nA, nB, nC])
    refine Seq.loadCell rfl rfl rfl rfl (by repeat (first | exact mC | apply mT)) (v := .bool false) rfl (by kernel_rfl) rfl ?_
    simp only [Act.put, nA, nB, nC]
    iterate 3 (refine Seq.pure rfl rfl (by intro w; go_simp; try rfl) ?_; simp only [Act.put, nA, nB, nC])
    refine Seq.done fun ws62 hws => ?_
    have HS62 := hws.st
    clear HS61 hws
    go_wp2_with fail
    go_ret
    exact ⟨rfl, HS62.below⟩
end Go.Proofs.YtdhhbpnnahdofaaDoor
