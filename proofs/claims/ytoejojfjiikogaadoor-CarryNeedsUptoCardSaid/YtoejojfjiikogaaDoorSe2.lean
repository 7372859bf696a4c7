/- span.Of, span.Has, PoseOf, see.Has, Frames, InPose. -/
import Derived.Test.YtoejojfjiikogaaDoorSe1
import Derived.LoopN

namespace Go.Proofs.YtoejojfjiikogaaDoor
open Go.RowKit
set_option linter.unusedVariables false
set_option linter.unusedSimpArgs false

theorem cmpQ_lt (x y : Rat) : cmpQ x y < 0 ↔ x < y := by unfold cmpQ; grind
theorem cmpQ_gt (x y : Rat) : cmpQ x y > 0 ↔ y < x := by unfold cmpQ; grind
theorem cmpQ_le (x y : Rat) : cmpQ x y ≤ 0 ↔ x ≤ y := by unfold cmpQ; grind
set_option maxHeartbeats 2000000 in
set_option maxRecDepth 20000 in
theorem poseOf_w {k : Nat} {pxl pxh : Rat} {pxg : Bool} {px1 px2 : RT} {pyl pyh : Rat} {pyg : Bool} {py1 py2 : RT} {ptl pth : Rat} {ptg : Bool} {pt1 pt2 : RT} {z0 : Rat} {z1 : Rat} {z2 : Rat} {z3 : Rat} {z4 : Rat} {z5 : Rat} {W : World} {l : List Own} (hT : Tab W) (Zpx : RawS k pxl pxh pxg px1 px2) (Zpy : RawS k pyl pyh pyg py1 py2) (Zpt : RawS k ptl pth ptg pt1 pt2) (hz0 : pxl = z0) (hz1 : pxh = z1) (hz2 : pyl = z2) (hz3 : pyh = z3) (hz4 : ptl = z4) (hz5 : pth = z5) (hk0 : 2 ≤ k) (hk : k ≤ 999999999996) (w : World) (h : St W l w) :
    Calls Tryd.prog 5 #[.agg (PW px1 px2 py1 py2 pt1 pt2)] w fun e w' => e = .returned (.agg (PW (rt z0) (rt z1) (rt z2) (rt z3) (rt z4) (rt z5))) ∧ Below w.heap.size w w' := by
  subst hz0
  subst hz1
  subst hz2
  subst hz3
  subst hz4
  subst hz5
  have HT := Lib.hid (tabS hT h); clear hT h
  have Z_px := Lib.hid Zpx; clear Zpx
  have Z_py := Lib.hid Zpy; clear Zpy
  have Z_pt := Lib.hid Zpt; clear Zpt
  go_enter Tryd.func5, Tryd.ntmps5
  have HS : St w [] w := St.start
  go_upto_region 0 with (fail)
  refine wp_seq_text [] (StR.no HS) ?_
  refine Seq.box rfl rfl rfl (v := .agg (PW px1 px2 py1 py2 pt1 pt2)) (cs := PW px1 px2 py1 py2 pt1 pt2) rfl rfl ?_
  intro bk1 _ _ hbk1_r
  simp only [Act.put, nA, nB, nC]
  refine Seq.alloc rfl rfl rfl (z := .agg (PW rz0 rz0 rz0 rz0 rz0 rz0)) (by kernel_rfl) rfl ?_
  intro bk2 _ _ hbk2_r
  obtain ⟨ne_bk2_bk1, hbk2_r⟩ := Reg.ne_of_put hbk2_r
  have ne_bk1_bk2 := Ne.symm ne_bk2_bk1
  simp only [Act.put, nA, nB, nC]
  refine Seq.done fun ws1 hws => ?_
  have HS1 := hws.list2 (p := bk1) (q := bk2) (by repeat (first | exact rS | refine rN (by assumption) ?_)) (by repeat (first | exact rS | refine rN (by assumption) ?_)) (by assumption)
  clear HS hws
  go_upto_region 1 with (fail)
  have HPbk2 := HS1.f1
  refine wp_seq [] (by kernel_rfl) (by kernel_rfl) (Reg.fin.put Reg.fin_no _ _) (StR.move (StR.no HPbk2)) ?_
  refine Seq.pure rfl rfl (by intro w; go_simp; try rfl) ?_
  simp only [Act.put, nA, nB, nC]
  refine Seq.loadAt rfl rfl rfl rfl (by repeat (first | exact mC | apply mT)) (n := 6) (cs' := SW px1 px2) (Nat.le_of_ble_eq_true rfl) (by kernel_rfl) rfl ?_
  simp only [Act.put, nA, nB, nC]
  refine Seq.call rfl rfl rfl rfl (by kernel_rfl) (ends_w (k := (1 * k + 2)) (a1 := px1) (a2 := px2) HT.out (Z_px.out.more (by omega))  rfl rfl (by omega) (by omega)) ?_
  simp only [Act.put, nA, nB, nC]
  refine Seq.pure rfl rfl (by intro w; go_simp; try rfl) ?_
  simp only [Act.put, nA, nB, nC]
  refine Seq.loadAt rfl rfl rfl rfl (by repeat (first | exact mC | apply mT)) (n := 6) (cs' := SW py1 py2) (Nat.le_of_ble_eq_true rfl) (by kernel_rfl) rfl ?_
  simp only [Act.put, nA, nB, nC]
  refine Seq.call rfl rfl rfl rfl (by kernel_rfl) (ends_w (k := (1 * k + 2)) (a1 := py1) (a2 := py2) HT.out (Z_py.out.more (by omega))  rfl rfl (by omega) (by omega)) ?_
  simp only [Act.put, nA, nB, nC]
  refine Seq.pure rfl rfl (by intro w; go_simp; try rfl) ?_
  simp only [Act.put, nA, nB, nC]
  refine Seq.loadAt rfl rfl rfl rfl (by repeat (first | exact mC | apply mT)) (n := 6) (cs' := SW pt1 pt2) (Nat.le_of_ble_eq_true rfl) (by kernel_rfl) rfl ?_
  simp only [Act.put, nA, nB, nC]
  refine Seq.call rfl rfl rfl rfl (by kernel_rfl) (ends_w (k := (1 * k + 2)) (a1 := pt1) (a2 := pt2) HT.out (Z_pt.out.more (by omega))  rfl rfl (by omega) (by omega)) ?_
  simp only [Act.put, nA, nB, nC]
  refine Seq.pure (v := .agg (PW (rt pxl) (rt pxh) (rt pyl) (rt pyh) (rt ptl) (rt pth))) rfl rfl (fun w => bld_RPose (x := (rt pxl)) (y := (rt pxh)) (z := (rt pyl)) (u := (rt pyh)) (v := (rt ptl)) (t := (rt pth)) rfl rfl rfl rfl w) ?_
  simp only [Act.put, nA, nB, nC]
  refine Seq.store rfl rfl rfl rfl rfl (by repeat (first | exact rS | refine rN (by assumption) ?_)) (n := 18) rfl rfl (by kernel_rfl) (PW_one _ _ _ _ _ _) ?_
  simp only [Act.put, nA, nB, nC]
  refine Seq.done fun ws2 hws => ?_
  have HS2 := hws.list1 (p := bk2) (by repeat (first | exact rS | refine rN (by assumption) ?_))
  clear HS1 hws HPbk2
  go_wp2_with fail
  exact ret_own rfl rfl rfl HS2 (by repeat (first | exact mC | apply mT)) (n := 18) rfl (by kernel_rfl) ⟨rfl, HS2.below⟩
end Go.Proofs.YtoejojfjiikogaaDoor
