/- Joined texts: CaF CaG. -/
import Derived.Test.YtoejojfjiikogaaDoorCaD
import Derived.Test.YtoejojfjiikogaaDoorSpC
import Derived.LoopN
namespace Go.Proofs.YtoejojfjiikogaaDoor
open Go.RowKit
set_option linter.unusedVariables false
set_option linter.unusedSimpArgs false

set_option maxHeartbeats 2000000 in
set_option maxRecDepth 20000 in
theorem carry_ok {k : Nat} {pxl pxh pyl pyh ptl pth : Rat} {pxg pyg ptg : Bool} {px1 px2 py1 py2 pt1 pt2 : RT} {g1 g2 gt h1 h2 ht : Rat} {g1_g g2_g gt_g h1_g h2_g ht_g gh hh : Bool} {g1_t g2_t gt_t h1_t h2_t ht_t : RT} {u0 u1 u2 u3 u4 u5 : Rat} {w0 w1 w2 w3 w4 w5 : Rat} {W : World} {l : List Own} (hT : Tab W) (Zpx : RawS k pxl pxh pxg px1 px2) (Zpy : RawS k pyl pyh pyg py1 py2) (Zpt : RawS k ptl pth ptg pt1 pt2) (Zg1 : RawT k g1 g1_g g1_t) (Zg2 : RawT k g2 g2_g g2_t) (Zgt : RawT k gt gt_g gt_t) (Zh1 : RawT k h1 h1_g h1_t) (Zh2 : RawT k h2 h2_g h2_t) (Zht : RawT k ht ht_g ht_t) (Zu0 : Rz (48 * k + 60) u0) (Zu1 : Rz (48 * k + 60) u1) (Zu2 : Rz (48 * k + 60) u2) (Zu3 : Rz (48 * k + 60) u3) (Zu4 : Rz (48 * k + 60) u4) (Zu5 : Rz (48 * k + 60) u5) (hlu : u0 ≤ u1 ∧ u2 ≤ u3 ∧ u4 ≤ u5) (Zw0 : Rz (3552 * k + 4530) w0) (Zw1 : Rz (3552 * k + 4530) w1) (Zw2 : Rz (3552 * k + 4530) w2) (Zw3 : Rz (3552 * k + 4530) w3) (Zw4 : Rz (3552 * k + 4530) w4) (Zw5 : Rz (3552 * k + 4530) w5) (hgh : gh = false) (hok : tOk (-gt) ptl pth = true) (hu : gX0 pxl pxh pyl pyh g1 g2 gt = u0 ∧ gX1 pxl pxh pyl pyh g1 g2 gt = u1 ∧ gY0 pxl pxh pyl pyh g1 g2 gt = u2 ∧ gY1 pxl pxh pyl pyh g1 g2 gt = u3 ∧ tuQ (-gt) ptl = u4 ∧ tuQ (-gt) pth = u5) (hhh : hh = false) (hokh : tOk ht u4 u5 = true) (hw : pX0 u0 u1 u2 u3 h1 h2 ht = w0 ∧ pX1 u0 u1 u2 u3 h1 h2 ht = w1 ∧ pY0 u0 u1 u2 u3 h1 h2 ht = w2 ∧ pY1 u0 u1 u2 u3 h1 h2 ht = w3 ∧ tuQ ht u4 = w4 ∧ tuQ ht u5 = w5) (hk0 : 2 ≤ k) (hk : k ≤ 347222220) (w : World) (h : St W l w) :
    Calls Tryd.prog 27 #[.agg (PW px1 px2 py1 py2 pt1 pt2), .agg (FW g1_t g2_t gh gt_t), .agg (FW h1_t h2_t hh ht_t)] w fun e w' => e = .returned (.tuple #[.agg (PW (rt w0) (rt w1) (rt w2) (rt w3) (rt w4) (rt w5)), .int .i64 0]) ∧ Below w.heap.size w w' := by
  have HT := Lib.hid (tabS hT h); clear hT h
  have Z_px := Lib.hid Zpx; clear Zpx
  have Z_py := Lib.hid Zpy; clear Zpy
  have Z_pt := Lib.hid Zpt; clear Zpt
  have Z_g1 := Lib.hid Zg1; clear Zg1
  have Z_g2 := Lib.hid Zg2; clear Zg2
  have Z_gt := Lib.hid Zgt; clear Zgt
  have Z_h1 := Lib.hid Zh1; clear Zh1
  have Z_h2 := Lib.hid Zh2; clear Zh2
  have Z_ht := Lib.hid Zht; clear Zht
  have Z_u0 := Lib.hid Zu0; clear Zu0
  have Z_u1 := Lib.hid Zu1; clear Zu1
  have Z_u2 := Lib.hid Zu2; clear Zu2
  have Z_u3 := Lib.hid Zu3; clear Zu3
  have Z_u4 := Lib.hid Zu4; clear Zu4
  have Z_u5 := Lib.hid Zu5; clear Zu5
  have Z_w0 := Lib.hid Zw0; clear Zw0
  have Z_w1 := Lib.hid Zw1; clear Zw1
  have Z_w2 := Lib.hid Zw2; clear Zw2
  have Z_w3 := Lib.hid Zw3; clear Zw3
  have Z_w4 := Lib.hid Zw4; clear Zw4
  have Z_w5 := Lib.hid Zw5; clear Zw5
  have HGH := Lib.hid hgh; clear hgh
  have HOK := Lib.hid hok; clear hok
  have HU := Lib.hid hu; clear hu
  have HHH := Lib.hid hhh; clear hhh
  have HOKH := Lib.hid hokh; clear hokh
  have HW := Lib.hid hw; clear hw
  have HLU := Lib.hid hlu; clear hlu
  go_enter Tryd.func27, Tryd.ntmps27
  have HS : St w [] w := St.start
  go_upto_region 0 with (fail)
  refine wp_seq_text [] (StR.no HS) ?_
  refine Seq.box rfl rfl rfl (v := .agg (PW px1 px2 py1 py2 pt1 pt2)) (cs := PW px1 px2 py1 py2 pt1 pt2) rfl rfl ?_
  intro bk3 _ _ hbk3_r
  simp only [Act.put, nA, nB, nC]
  refine Seq.box rfl rfl rfl (v := .agg (FW g1_t g2_t gh gt_t)) (cs := FW g1_t g2_t gh gt_t) rfl rfl ?_
  intro bk4 _ _ hbk4_r
  obtain ⟨ne_bk4_bk3, hbk4_r⟩ := Reg.ne_of_put hbk4_r
  have ne_bk3_bk4 := Ne.symm ne_bk4_bk3
  simp only [Act.put, nA, nB, nC]
  refine Seq.box rfl rfl rfl (v := .agg (FW h1_t h2_t hh ht_t)) (cs := FW h1_t h2_t hh ht_t) rfl rfl ?_
  intro bk5 _ _ hbk5_r
  obtain ⟨ne_bk5_bk4, hbk5_r⟩ := Reg.ne_of_put hbk5_r
  have ne_bk4_bk5 := Ne.symm ne_bk5_bk4
  obtain ⟨ne_bk5_bk3, hbk5_r⟩ := Reg.ne_of_put hbk5_r
  have ne_bk3_bk5 := Ne.symm ne_bk5_bk3
  simp only [Act.put, nA, nB, nC]
  refine Seq.alloc rfl rfl rfl (z := .agg (PW rz0 rz0 rz0 rz0 rz0 rz0)) (by kernel_rfl) rfl ?_
  intro bk6 _ _ hbk6_r
  obtain ⟨ne_bk6_bk5, hbk6_r⟩ := Reg.ne_of_put hbk6_r
  have ne_bk5_bk6 := Ne.symm ne_bk6_bk5
  obtain ⟨ne_bk6_bk4, hbk6_r⟩ := Reg.ne_of_put hbk6_r
  have ne_bk4_bk6 := Ne.symm ne_bk6_bk4
  obtain ⟨ne_bk6_bk3, hbk6_r⟩ := Reg.ne_of_put hbk6_r
  have ne_bk3_bk6 := Ne.symm ne_bk6_bk3
  simp only [Act.put, nA, nB, nC]
  refine Seq.pure rfl rfl (by intro w; go_simp; try rfl) ?_
  simp only [Act.put, nA, nB, nC]
  refine Seq.done fun ws1 hws => ?_
  have HS1 : St w [(bk3, 27, PW px1 px2 py1 py2 pt1 pt2), (bk4, 33, FW g1_t g2_t gh gt_t), (bk5, 33, FW h1_t h2_t hh ht_t), (bk6, 27, PW rz0 rz0 rz0 rz0 rz0 rz0)] ws1 := hws.listN [(bk3, 27, PW px1 px2 py1 py2 pt1 pt2), (bk4, 33, FW g1_t g2_t gh gt_t), (bk5, 33, FW h1_t h2_t hh ht_t), (bk6, 27, PW rz0 rz0 rz0 rz0 rz0 rz0)] (by simp [*]) (by intro e he; simp only [List.mem_cons, List.not_mem_nil, or_false] at he; rcases he with rfl | rfl | rfl | rfl <;> first | exact Reg.put_same _ _ _ | (simp [Reg.put, *]; done) | (simp [Reg.put, *]; rfl))
  clear HS hws
  go_upto_region 1 with (fail)
  refine wp_seq_text [] (StR.no HS1) ?_
  refine Seq.load rfl rfl rfl rfl (by repeat (first | exact mC | apply mT)) (n := 18) rfl (by kernel_rfl) ?_
  simp only [Act.put, nA, nB, nC]
  refine Seq.load rfl rfl rfl rfl (by repeat (first | exact mC | apply mT)) (n := 10) rfl (by kernel_rfl) ?_
  simp only [Act.put, nA, nB, nC]
  refine Seq.call rfl rfl rfl rfl (by kernel_rfl) (grip_ok (k := (1 * k + 2)) (px1 := px1) (px2 := px2) (py1 := py1) (py2 := py2) (pt1 := pt1) (pt2 := pt2) (g1_t := g1_t) (g2_t := g2_t) (gt_t := gt_t) HT.out (Z_px.out.more (by omega)) (Z_py.out.more (by omega)) (Z_pt.out.more (by omega)) (Z_g1.out.more (by omega)) (Z_g2.out.more (by omega)) (Z_gt.out.more (by omega)) HGH.out HOK.out HU.out.1 HU.out.2.1 HU.out.2.2.1 HU.out.2.2.2.1 HU.out.2.2.2.2.1 HU.out.2.2.2.2.2 (by omega) (by omega)) ?_
  simp only [Act.put, nA, nB, nC]
  refine Seq.pure rfl rfl (by intro w; go_simp; try rfl) ?_
  simp only [Act.put, nA, nB, nC]
  refine Seq.pure (v := .agg (PW (rt u0) (rt u1) (rt u2) (rt u3) (rt u4) (rt u5))) rfl rfl (fun w => rfl) ?_
  simp only [Act.put, nA, nB, nC]
  refine Seq.pure (v := .int .i64 0) rfl rfl (fun w => rfl) ?_
  simp only [Act.put, nA, nB, nC]
  refine Seq.alloc rfl rfl rfl (z := .agg (PW rz0 rz0 rz0 rz0 rz0 rz0)) (by kernel_rfl) rfl ?_
  intro bk8 _ _ hbk8_r
  simp only [Act.put, nA, nB, nC]
  refine Seq.store rfl rfl rfl rfl rfl (by repeat (first | exact rS | refine rN (by assumption) ?_)) (n := 18) rfl rfl (by kernel_rfl) (PW_one _ _ _ _ _ _) ?_
  simp only [Act.put, nA, nB, nC]
  refine Seq.pure rfl rfl (by intro w; go_simp; try rfl) ?_
  simp only [Act.put, nA, nB, nC]
  refine Seq.done fun ws2 hws => ?_
  have HS2 := hws.list1 (p := bk8) (by repeat (first | exact rS | refine rN (by assumption) ?_))
  clear HS1 hws
  go_upto_region 2 with (fail)
  refine wp_seq_text [] (StR.no HS2) ?_
  iterate 2 (refine Seq.pure rfl rfl (by intro w; go_simp; try rfl) ?_; simp only [Act.put, nA, nB, nC])
  refine Seq.done fun ws3 hws => ?_
  have HS3 := hws.st
  clear HS2 hws
  go_upto_region 4 with (fail)
  have HPbk6 := HS3.f4
  refine wp_seq_text [] (StR.move (StR.no HPbk6)) ?_
  refine Seq.load rfl rfl rfl rfl (by repeat (first | exact mC | apply mT)) (n := 18) rfl (by kernel_rfl) ?_
  simp only [Act.put, nA, nB, nC]
  refine Seq.load rfl rfl rfl rfl (by repeat (first | exact mC | apply mT)) (n := 10) rfl (by kernel_rfl) ?_
  simp only [Act.put, nA, nB, nC]
  refine Seq.call rfl rfl rfl rfl (by kernel_rfl) (put_ok (k := (48 * k + 60)) (px1 := (rt u0)) (px2 := (rt u1)) (py1 := (rt u2)) (py2 := (rt u3)) (pt1 := (rt u4)) (pt2 := (rt u5)) (g1_t := h1_t) (g2_t := h2_t) (gt_t := ht_t) HT.out (RawS.of HLU.out.1 (Z_u0.out.more (by omega)) (Z_u1.out.more (by omega))) (RawS.of HLU.out.2.1 (Z_u2.out.more (by omega)) (Z_u3.out.more (by omega))) (RawS.of HLU.out.2.2 (Z_u4.out.more (by omega)) (Z_u5.out.more (by omega))) (Z_h1.out.more (by omega)) (Z_h2.out.more (by omega)) (Z_ht.out.more (by omega)) HHH.out HOKH.out HW.out.1 HW.out.2.1 HW.out.2.2.1 HW.out.2.2.2.1 HW.out.2.2.2.2.1 HW.out.2.2.2.2.2 (by omega) (by omega)) ?_
  simp only [Act.put, nA, nB, nC]
  refine Seq.pure (v := .agg (PW (rt w0) (rt w1) (rt w2) (rt w3) (rt w4) (rt w5))) rfl rfl (fun w => rfl) ?_
  simp only [Act.put, nA, nB, nC]
  refine Seq.pure (v := .int .i64 0) rfl rfl (fun w => rfl) ?_
  simp only [Act.put, nA, nB, nC]
  refine Seq.store rfl rfl rfl rfl rfl (by repeat (first | exact rS | refine rN (by assumption) ?_)) (n := 18) rfl rfl (by kernel_rfl) (PW_one _ _ _ _ _ _) ?_
  simp only [Act.put, nA, nB, nC]
  refine Seq.pure rfl rfl (by intro w; go_simp; try rfl) ?_
  simp only [Act.put, nA, nB, nC]
  refine Seq.done fun ws4 hws => ?_
  have HS4 := hws.list1 (p := bk6) (by repeat (first | exact rS | refine rN (by assumption) ?_))
  clear HS3 hws HPbk6
  go_wp2_with fail
  exact ret_own2 rfl rfl rfl rfl HS4 (by repeat (first | exact mC | apply mT)) (n := 18) rfl (by kernel_rfl) ⟨rfl, HS4.below⟩
end Go.Proofs.YtoejojfjiikogaaDoor
namespace Go.Proofs.YtoejojfjiikogaaDoor
open Go.RowKit
set_option linter.unusedVariables false
set_option linter.unusedSimpArgs false

theorem bld_Vec0 {o : Oper} {a : Act} {X : Operand} {x : RT} (ho : o.op = .build 29 #[(0, X)]) (hX : a.eval X = .agg (RT.c x)) (w : World) : (execOp a.eval o).run Tryd.prog w = .ok (.value (.agg (SW x rz0))) w := by
  unfold RT.c at hX
  unfold execOp SW rz0
  simp only [ho, List.map_toArray, List.map_cons, List.map_nil, hX]
  go_simp
theorem RawS0 : RawS 2 0 0 false rz0 rz0 := ⟨⟨0, false, 0, false, RawT0, RawT0, rfl, fun h => by cases h⟩, fun _ => ⟨rfl, rfl⟩⟩
theorem Rz5 : Rz 2 (5 : Rat) := Rz.lit (z := 5) rfl (by decide)
set_option maxHeartbeats 2000000 in
set_option maxRecDepth 20000 in
theorem carried_q {W : World} {l : List Own} (hT : Tab W) (w : World) (h : St W l w) :
    Calls Tryd.prog 6 #[] w fun e w' => e = .returned (.bool true) ∧ Below w.heap.size w w' := by
  have HT := Lib.hid (tabS hT h); clear hT h
  go_enter Tryd.func6, Tryd.ntmps6
  have HS : St w [] w := St.start
  go_upto_region 0 with (fail)
  refine wp_seq_text [] (StR.no HS) ?_
  refine Seq.pure rfl rfl (by intro w; go_simp; try rfl) ?_
  simp only [Act.put, nA, nB, nC]
  refine Seq.done fun ws1 hws => ?_
  have HS1 := hws.st
  clear HS hws
  go_upto_region 1 with (fail)
  refine wp_seq_text [] (StR.no HS1) ?_
  refine Seq.pure (v := .agg (PW rz0 rz0 rz0 rz0 rz0 rz0)) rfl rfl (by intro w; go_simp; try rfl) ?_
  simp only [Act.put, nA, nB, nC]
  refine Seq.pure (v := .agg (FW rz0 rz0 false rz0)) rfl rfl (by intro w; go_simp; try rfl) ?_
  simp only [Act.put, nA, nB, nC]
  refine Seq.call rfl rfl rfl rfl (by kernel_rfl) (of_q HT.out (by omega) (by omega) (show ((5 : Int) : Rat) = (5 : Rat) from rfl)) ?_
  simp only [Act.put, nA, nB, nC]
  refine Seq.pure (v := .agg (SW (rt (5 : Rat)) rz0)) rfl rfl (fun w => bld_Vec0 rfl rfl w) ?_
  simp only [Act.put, nA, nB, nC]
  refine Seq.pure (v := .agg (FW (rt (5 : Rat)) rz0 false rz0)) rfl rfl (fun w => bld_Frame0 rfl rfl w) ?_
  simp only [Act.put, nA, nB, nC]
  refine Seq.call rfl rfl rfl rfl (by kernel_rfl) (carry_ok (k := 2) (pxl := 0) (pxh := 0) (pyl := 0) (pyh := 0) (ptl := 0) (pth := 0) (pxg := false) (pyg := false) (ptg := false) (px1 := rz0) (px2 := rz0) (py1 := rz0) (py2 := rz0) (pt1 := rz0) (pt2 := rz0) (g1 := 0) (g2 := 0) (gt := 0) (h1 := 5) (h2 := 0) (ht := 0) (g1_g := false) (g2_g := false) (gt_g := false) (h2_g := false) (ht_g := false) (gh := false) (hh := false) (g1_t := rz0) (g2_t := rz0) (gt_t := rz0) (h1_t := rt 5) (h2_t := rz0) (ht_t := rz0) (u0 := 0) (u1 := 0) (u2 := 0) (u3 := 0) (u4 := 0) (u5 := 0) (w0 := 5) (w1 := 5) (w2 := 0) (w3 := 0) (w4 := 0) (w5 := 0) HT.out RawS0 RawS0 RawS0 RawT0 RawT0 RawT0 (RawT.rc Rz5) RawT0 RawT0 (Rz.zero2.more (by omega)) (Rz.zero2.more (by omega)) (Rz.zero2.more (by omega)) (Rz.zero2.more (by omega)) (Rz.zero2.more (by omega)) (Rz.zero2.more (by omega)) ⟨Rat.le_refl, Rat.le_refl, Rat.le_refl⟩ (Rz5.more (by omega)) (Rz5.more (by omega)) (Rz.zero2.more (by omega)) (Rz.zero2.more (by omega)) (Rz.zero2.more (by omega)) (Rz.zero2.more (by omega)) rfl (by decide +kernel) ⟨(by decide +kernel), (by decide +kernel), (by decide +kernel), (by decide +kernel), (by decide +kernel), (by decide +kernel)⟩ rfl (by decide +kernel) ⟨(by decide +kernel), (by decide +kernel), (by decide +kernel), (by decide +kernel), (by decide +kernel), (by decide +kernel)⟩ (by omega) (by omega)) ?_
  simp only [Act.put, nA, nB, nC]
  refine Seq.pure rfl rfl (by intro w; go_simp; try rfl) ?_
  simp only [Act.put, nA, nB, nC]
  refine Seq.pure (v := .agg (PW (rt (5 : Rat)) (rt (5 : Rat)) (rt (0 : Rat)) (rt (0 : Rat)) (rt (0 : Rat)) (rt (0 : Rat)))) rfl rfl (fun w => rfl) ?_
  simp only [Act.put, nA, nB, nC]
  refine Seq.pure (v := .int .i64 0) rfl rfl (fun w => rfl) ?_
  simp only [Act.put, nA, nB, nC]
  refine Seq.alloc rfl rfl rfl (z := .agg (PW rz0 rz0 rz0 rz0 rz0 rz0)) (by kernel_rfl) rfl ?_
  intro bk1 _ _ hbk1_r
  simp only [Act.put, nA, nB, nC]
  refine Seq.store rfl rfl rfl rfl rfl (by repeat (first | exact rS | refine rN (by assumption) ?_)) (n := 18) rfl rfl (by kernel_rfl) (PW_one _ _ _ _ _ _) ?_
  simp only [Act.put, nA, nB, nC]
  refine Seq.pure rfl rfl (by intro w; go_simp; try rfl) ?_
  simp only [Act.put, nA, nB, nC]
  refine Seq.done fun ws2 hws => ?_
  have HS2 := hws.list1 (p := bk1) (by repeat (first | exact rS | refine rN (by assumption) ?_))
  clear HS1 hws
  go_upto_region 2 with (fail)
  refine wp_seq [] (by kernel_rfl) (by kernel_rfl) Reg.fin_no (StR.no HS2) ?_
  refine Seq.call rfl rfl rfl rfl (by kernel_rfl) (small_q HT.out) ?_
  simp only [Act.put, nA, nB, nC]
  iterate 7 (refine Seq.pure rfl rfl (by intro w; go_simp; try rfl) ?_; simp only [Act.put, nA, nB, nC])
  refine Seq.loadAt rfl rfl rfl rfl (by repeat (first | exact mC | apply mT)) (n := 3) (cs' := RC (5 : Rat)) (Nat.le_of_ble_eq_true rfl) (by kernel_rfl) rfl ?_
  simp only [Act.put, nA, nB, nC]
  refine Seq.call rfl rfl rfl rfl (by kernel_rfl) (of_q HT.out (by omega) (by omega) (show ((5 : Int) : Rat) = (5 : Rat) from rfl)) ?_
  simp only [Act.put, nA, nB, nC]
  refine Seq.call rfl rfl rfl rfl (by kernel_rfl) (cmp_q (k := 2) HT.out (Rz5.more (by omega)) ((show Rz 2 (5 : Rat) from Rz.lit (z := 5) rfl (by decide)).more (by omega)) (show cmpQ 5 5 = 0 from by decide +kernel) (by omega)) ?_
  simp only [Act.put, nA, nB, nC]
  iterate 3 (refine Seq.pure rfl rfl (by intro w; go_simp; try rfl) ?_; simp only [Act.put, nA, nB, nC])
  refine Seq.done fun ws3 hws => ?_
  have HS3 := hws.st
  clear HS2 hws
  go_wp2_with fail
  go_ret
  exact ⟨rfl, HS3.below⟩
end Go.Proofs.YtoejojfjiikogaaDoor
