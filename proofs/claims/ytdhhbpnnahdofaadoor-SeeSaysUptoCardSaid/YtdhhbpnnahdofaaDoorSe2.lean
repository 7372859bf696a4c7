/- span.Of, span.Has, PoseOf, see.Has, Frames, InPose. -/
import Derived.Test.YtdhhbpnnahdofaaDoorSe1
import Derived.LoopN

namespace Go.Proofs.YtdhhbpnnahdofaaDoor
open Go.RowKit
set_option linter.unusedVariables false
set_option linter.unusedSimpArgs false

theorem cmpQ_lt (x y : Rat) : cmpQ x y < 0 ↔ x < y := by unfold cmpQ; grind
theorem cmpQ_gt (x y : Rat) : cmpQ x y > 0 ↔ y < x := by unfold cmpQ; grind
theorem cmpQ_le (x y : Rat) : cmpQ x y ≤ 0 ↔ x ≤ y := by unfold cmpQ; grind
def hasQ (l h x : Rat) : Bool := decide (l ≤ x ∧ x ≤ h)
/-- a frame is in a pose -/
def inQ (hf : Bool) (xl xh yl yh tl th x y t : Rat) : Bool := !hf && hasQ xl xh x && hasQ yl yh y && hasQ tl th t
set_option maxHeartbeats 2000000 in
set_option maxRecDepth 20000 in
theorem has_w {k : Nat} {al ah : Rat} {ag : Bool} {a1 a2 : RT} {t : Rat} {t_g : Bool} {t_t : RT} {z0 : Bool} {W : World} {l : List Own} (hT : Tab W) (Za : RawS k al ah ag a1 a2) (Zt : RawT k t t_g t_t) (hz0 : hasQ al ah t = z0) (hk0 : 2 ≤ k) (hk : k ≤ 999999999996) (w : World) (h : St W l w) :
    Calls Tryd.prog 72 #[.agg (SW a1 a2), .agg (RT.c t_t)] w fun e w' => e = .returned (.bool z0) ∧ Below w.heap.size w w' := by
  subst hz0
  have HT := Lib.hid (tabS hT h); clear hT h
  have Z_a := Lib.hid Za; clear Za
  have Z_t := Lib.hid Zt; clear Zt
  have hsp : ¬ al ≤ t ∨ (al ≤ t ∧ ¬ t ≤ ah) ∨ (al ≤ t ∧ t ≤ ah) := by grind
  rcases hsp with hc | ⟨hc, hd⟩ | ⟨hc, hd⟩
  · have HB := Lib.hid (show false = hasQ al ah t from by unfold hasQ; symm; simp; grind)
    obtain ⟨v1, hv1, r1⟩ : ∃ v, cmpQ al t = v ∧ decide (v ≤ 0) = false := ⟨_, rfl, decide_eq_false (fun h => absurd ((cmpQ_le _ _).1 h) (by grind))⟩
    have C1 := Lib.hid hv1; clear hv1
    clear hc
    go_enter Tryd.func72, Tryd.ntmps72
    have HS : St w [] w := St.start
    go_upto_region 0 with (fail)
    refine wp_seq_text [] (StR.no HS) ?_
    refine Seq.box rfl rfl rfl (v := .agg (SW a1 a2)) (cs := SW a1 a2) rfl rfl ?_
    intro bk2 _ _ hbk2_r
    simp only [Act.put, nA, nB, nC]
    refine Seq.box rfl rfl rfl (v := .agg (RT.c t_t)) (cs := RT.c t_t) rfl rfl ?_
    intro bk3 _ _ hbk3_r
    obtain ⟨ne_bk3_bk2, hbk3_r⟩ := Reg.ne_of_put hbk3_r
    have ne_bk2_bk3 := Ne.symm ne_bk3_bk2
    simp only [Act.put, nA, nB, nC]
    refine Seq.pure rfl rfl (by intro w; go_simp; try rfl) ?_
    simp only [Act.put, nA, nB, nC]
    refine Seq.done fun ws1 hws => ?_
    have HS1 := hws.list2 (p := bk2) (q := bk3) (by repeat (first | exact rS | refine rN (by assumption) ?_)) (by repeat (first | exact rS | refine rN (by assumption) ?_)) (by assumption)
    clear HS hws
    go_upto_region 1 with (fail)
    refine wp_seq_text [0] (StR.move (StR.no HS1)) ?_
    refine Seq.get rfl rfl rfl rfl (by repeat (first | exact rS | refine rN (by assumption) ?_)) (n := 6) rfl (by kernel_rfl) ?_
    simp only [Act.put, nA, nB, nC]
    refine Seq.call rfl rfl rfl rfl (by kernel_rfl) (sfit_w (k := (1 * k + 2)) (a1 := a1) (a2 := a2) HT.out (Z_a.out.more (by omega))  rfl rfl (by omega) (by omega)) ?_
    simp only [Act.put, nA, nB, nC]
    refine Seq.store rfl rfl rfl rfl rfl (by repeat (first | exact rS | refine rN (by assumption) ?_)) (n := 6) rfl rfl (by kernel_rfl) (VC_one _ _) ?_
    simp only [Act.put, nA, nB, nC]
    refine Seq.done fun ws2 hws => ?_
    have HS2 := hws.list1 (p := bk2) (by repeat (first | exact rS | refine rN (by assumption) ?_))
    clear HS1 hws
    go_upto_region 2 with (fail)
    refine wp_seq_text [] (StR.no HS2) ?_
    refine Seq.pure rfl rfl (by intro w; go_simp; try rfl) ?_
    simp only [Act.put, nA, nB, nC]
    refine Seq.loadAt rfl rfl rfl rfl (by repeat (first | exact mC | apply mT)) (n := 3) (cs' := RC al) (Nat.le_of_ble_eq_true rfl) (by kernel_rfl) rfl ?_
    simp only [Act.put, nA, nB, nC]
    refine Seq.load rfl rfl rfl rfl (by repeat (first | exact mC | apply mT)) (n := 3) rfl (by kernel_rfl) ?_
    simp only [Act.put, nA, nB, nC]
    refine Seq.call rfl rfl rfl rfl (by kernel_rfl) (cmp_qw (k := (1 * k + 2)) HT.out ((Z_a.out.rz (by omega)).1.more (by omega)) (Z_t.out.more (by omega)) C1.out (by omega)) ?_
    simp only [Act.put, nA, nB, nC]
    iterate 2 (refine Seq.pure rfl rfl (by intro w; go_simp; try rfl) ?_; simp only [Act.put, nA, nB, nC])
    iterate 5 (refine Seq.nw rfl ?_; simp only [Act.put, nA, nB, nC])
    iterate 2 (refine Seq.pure rfl rfl (by intro w; go_simp; try rfl) ?_; simp only [Act.put, nA, nB, nC])
    refine Seq.done fun ws3 hws => ?_
    have HS3 := hws.st
    clear HS2 hws
    go_wp2_with fail
    go_ret
    exact ⟨congrArg (fun b => Ending.returned (.bool b)) HB.out, HS3.below⟩
  · have HB := Lib.hid (show false = hasQ al ah t from by unfold hasQ; symm; simp; grind)
    obtain ⟨v1, hv1, r1⟩ : ∃ v, cmpQ al t = v ∧ decide (v ≤ 0) = true := ⟨_, rfl, decide_eq_true ((cmpQ_le _ _).2 (by grind))⟩
    have C1 := Lib.hid hv1; clear hv1
    obtain ⟨v2, hv2, r2⟩ : ∃ v, cmpQ t ah = v ∧ decide (v ≤ 0) = false := ⟨_, rfl, decide_eq_false (fun h => absurd ((cmpQ_le _ _).1 h) (by grind))⟩
    have C2 := Lib.hid hv2; clear hv2
    clear hc hd
    go_enter Tryd.func72, Tryd.ntmps72
    have HS : St w [] w := St.start
    go_upto_region 0 with (fail)
    refine wp_seq_text [] (StR.no HS) ?_
    refine Seq.box rfl rfl rfl (v := .agg (SW a1 a2)) (cs := SW a1 a2) rfl rfl ?_
    intro bk2 _ _ hbk2_r
    simp only [Act.put, nA, nB, nC]
    refine Seq.box rfl rfl rfl (v := .agg (RT.c t_t)) (cs := RT.c t_t) rfl rfl ?_
    intro bk3 _ _ hbk3_r
    obtain ⟨ne_bk3_bk2, hbk3_r⟩ := Reg.ne_of_put hbk3_r
    have ne_bk2_bk3 := Ne.symm ne_bk3_bk2
    simp only [Act.put, nA, nB, nC]
    refine Seq.pure rfl rfl (by intro w; go_simp; try rfl) ?_
    simp only [Act.put, nA, nB, nC]
    refine Seq.done fun ws1 hws => ?_
    have HS1 := hws.list2 (p := bk2) (q := bk3) (by repeat (first | exact rS | refine rN (by assumption) ?_)) (by repeat (first | exact rS | refine rN (by assumption) ?_)) (by assumption)
    clear HS hws
    go_upto_region 1 with (fail)
    refine wp_seq_text [0] (StR.move (StR.no HS1)) ?_
    refine Seq.get rfl rfl rfl rfl (by repeat (first | exact rS | refine rN (by assumption) ?_)) (n := 6) rfl (by kernel_rfl) ?_
    simp only [Act.put, nA, nB, nC]
    refine Seq.call rfl rfl rfl rfl (by kernel_rfl) (sfit_w (k := (1 * k + 2)) (a1 := a1) (a2 := a2) HT.out (Z_a.out.more (by omega))  rfl rfl (by omega) (by omega)) ?_
    simp only [Act.put, nA, nB, nC]
    refine Seq.store rfl rfl rfl rfl rfl (by repeat (first | exact rS | refine rN (by assumption) ?_)) (n := 6) rfl rfl (by kernel_rfl) (VC_one _ _) ?_
    simp only [Act.put, nA, nB, nC]
    refine Seq.done fun ws2 hws => ?_
    have HS2 := hws.list1 (p := bk2) (by repeat (first | exact rS | refine rN (by assumption) ?_))
    clear HS1 hws
    go_upto_region 2 with (fail)
    refine wp_seq_text [] (StR.no HS2) ?_
    refine Seq.pure rfl rfl (by intro w; go_simp; try rfl) ?_
    simp only [Act.put, nA, nB, nC]
    refine Seq.loadAt rfl rfl rfl rfl (by repeat (first | exact mC | apply mT)) (n := 3) (cs' := RC al) (Nat.le_of_ble_eq_true rfl) (by kernel_rfl) rfl ?_
    simp only [Act.put, nA, nB, nC]
    refine Seq.load rfl rfl rfl rfl (by repeat (first | exact mC | apply mT)) (n := 3) rfl (by kernel_rfl) ?_
    simp only [Act.put, nA, nB, nC]
    refine Seq.call rfl rfl rfl rfl (by kernel_rfl) (cmp_qw (k := (1 * k + 2)) HT.out ((Z_a.out.rz (by omega)).1.more (by omega)) (Z_t.out.more (by omega)) C1.out (by omega)) ?_
    simp only [Act.put, nA, nB, nC]
    iterate 2 (refine Seq.pure rfl rfl (by intro w; go_simp; try rfl) ?_; simp only [Act.put, nA, nB, nC])
    refine Seq.load rfl rfl rfl rfl (by repeat (first | exact mC | apply mT)) (n := 3) rfl (by kernel_rfl) ?_
    simp only [Act.put, nA, nB, nC]
    refine Seq.pure rfl rfl (by intro w; go_simp; try rfl) ?_
    simp only [Act.put, nA, nB, nC]
    refine Seq.loadAt rfl rfl rfl rfl (by repeat (first | exact mC | apply mT)) (n := 3) (cs' := RC ah) (Nat.le_of_ble_eq_true rfl) (by kernel_rfl) rfl ?_
    simp only [Act.put, nA, nB, nC]
    refine Seq.call rfl rfl rfl rfl (by kernel_rfl) (cmp_wq (k := (1 * k + 2)) HT.out (Z_t.out.more (by omega)) ((Z_a.out.rz (by omega)).2.more (by omega)) C2.out (by omega)) ?_
    simp only [Act.put, nA, nB, nC]
    iterate 3 (refine Seq.pure rfl rfl (by intro w; go_simp; try rfl) ?_; simp only [Act.put, nA, nB, nC])
    refine Seq.done fun ws3 hws => ?_
    have HS3 := hws.st
    clear HS2 hws
    go_wp2_with fail
    go_ret
    exact ⟨congrArg (fun b => Ending.returned (.bool b)) HB.out, HS3.below⟩
  · have HB := Lib.hid (show true = hasQ al ah t from by unfold hasQ; symm; simp; grind)
    obtain ⟨v1, hv1, r1⟩ : ∃ v, cmpQ al t = v ∧ decide (v ≤ 0) = true := ⟨_, rfl, decide_eq_true ((cmpQ_le _ _).2 (by grind))⟩
    have C1 := Lib.hid hv1; clear hv1
    obtain ⟨v2, hv2, r2⟩ : ∃ v, cmpQ t ah = v ∧ decide (v ≤ 0) = true := ⟨_, rfl, decide_eq_true ((cmpQ_le _ _).2 (by grind))⟩
    have C2 := Lib.hid hv2; clear hv2
    clear hc hd
    go_enter Tryd.func72, Tryd.ntmps72
    have HS : St w [] w := St.start
    go_upto_region 0 with (fail)
    refine wp_seq_text [] (StR.no HS) ?_
    refine Seq.box rfl rfl rfl (v := .agg (SW a1 a2)) (cs := SW a1 a2) rfl rfl ?_
    intro bk2 _ _ hbk2_r
    simp only [Act.put, nA, nB, nC]
    refine Seq.box rfl rfl rfl (v := .agg (RT.c t_t)) (cs := RT.c t_t) rfl rfl ?_
    intro bk3 _ _ hbk3_r
    obtain ⟨ne_bk3_bk2, hbk3_r⟩ := Reg.ne_of_put hbk3_r
    have ne_bk2_bk3 := Ne.symm ne_bk3_bk2
    simp only [Act.put, nA, nB, nC]
    refine Seq.pure rfl rfl (by intro w; go_simp; try rfl) ?_
    simp only [Act.put, nA, nB, nC]
    refine Seq.done fun ws1 hws => ?_
    have HS1 := hws.list2 (p := bk2) (q := bk3) (by repeat (first | exact rS | refine rN (by assumption) ?_)) (by repeat (first | exact rS | refine rN (by assumption) ?_)) (by assumption)
    clear HS hws
    go_upto_region 1 with (fail)
    refine wp_seq_text [0] (StR.move (StR.no HS1)) ?_
    refine Seq.get rfl rfl rfl rfl (by repeat (first | exact rS | refine rN (by assumption) ?_)) (n := 6) rfl (by kernel_rfl) ?_
    simp only [Act.put, nA, nB, nC]
    refine Seq.call rfl rfl rfl rfl (by kernel_rfl) (sfit_w (k := (1 * k + 2)) (a1 := a1) (a2 := a2) HT.out (Z_a.out.more (by omega))  rfl rfl (by omega) (by omega)) ?_
    simp only [Act.put, nA, nB, nC]
    refine Seq.store rfl rfl rfl rfl rfl (by repeat (first | exact rS | refine rN (by assumption) ?_)) (n := 6) rfl rfl (by kernel_rfl) (VC_one _ _) ?_
    simp only [Act.put, nA, nB, nC]
    refine Seq.done fun ws2 hws => ?_
    have HS2 := hws.list1 (p := bk2) (by repeat (first | exact rS | refine rN (by assumption) ?_))
    clear HS1 hws
    go_upto_region 2 with (fail)
    refine wp_seq_text [] (StR.no HS2) ?_
    refine Seq.pure rfl rfl (by intro w; go_simp; try rfl) ?_
    simp only [Act.put, nA, nB, nC]
    refine Seq.loadAt rfl rfl rfl rfl (by repeat (first | exact mC | apply mT)) (n := 3) (cs' := RC al) (Nat.le_of_ble_eq_true rfl) (by kernel_rfl) rfl ?_
    simp only [Act.put, nA, nB, nC]
    refine Seq.load rfl rfl rfl rfl (by repeat (first | exact mC | apply mT)) (n := 3) rfl (by kernel_rfl) ?_
    simp only [Act.put, nA, nB, nC]
    refine Seq.call rfl rfl rfl rfl (by kernel_rfl) (cmp_qw (k := (1 * k + 2)) HT.out ((Z_a.out.rz (by omega)).1.more (by omega)) (Z_t.out.more (by omega)) C1.out (by omega)) ?_
    simp only [Act.put, nA, nB, nC]
    iterate 2 (refine Seq.pure rfl rfl (by intro w; go_simp; try rfl) ?_; simp only [Act.put, nA, nB, nC])
    refine Seq.load rfl rfl rfl rfl (by repeat (first | exact mC | apply mT)) (n := 3) rfl (by kernel_rfl) ?_
    simp only [Act.put, nA, nB, nC]
    refine Seq.pure rfl rfl (by intro w; go_simp; try rfl) ?_
    simp only [Act.put, nA, nB, nC]
    refine Seq.loadAt rfl rfl rfl rfl (by repeat (first | exact mC | apply mT)) (n := 3) (cs' := RC ah) (Nat.le_of_ble_eq_true rfl) (by kernel_rfl) rfl ?_
    simp only [Act.put, nA, nB, nC]
    refine Seq.call rfl rfl rfl rfl (by kernel_rfl) (cmp_wq (k := (1 * k + 2)) HT.out (Z_t.out.more (by omega)) ((Z_a.out.rz (by omega)).2.more (by omega)) C2.out (by omega)) ?_
    simp only [Act.put, nA, nB, nC]
    iterate 3 (refine Seq.pure rfl rfl (by intro w; go_simp; try rfl) ?_; simp only [Act.put, nA, nB, nC])
    refine Seq.done fun ws3 hws => ?_
    have HS3 := hws.st
    clear HS2 hws
    go_wp2_with fail
    go_ret
    exact ⟨congrArg (fun b => Ending.returned (.bool b)) HB.out, HS3.below⟩
set_option maxHeartbeats 2000000 in
set_option maxRecDepth 20000 in
theorem poseOf_w {k : Nat} {pxl pxh : Rat} {pxg : Bool} {px1 px2 : RT} {pyl pyh : Rat} {pyg : Bool} {py1 py2 : RT} {ptl pth : Rat} {ptg : Bool} {pt1 pt2 : RT} {z0 : Rat} {z1 : Rat} {z2 : Rat} {z3 : Rat} {z4 : Rat} {z5 : Rat} {W : World} {l : List Own} (hT : Tab W) (Zpx : RawS k pxl pxh pxg px1 px2) (Zpy : RawS k pyl pyh pyg py1 py2) (Zpt : RawS k ptl pth ptg pt1 pt2) (hz0 : pxl = z0) (hz1 : pxh = z1) (hz2 : pyl = z2) (hz3 : pyh = z3) (hz4 : ptl = z4) (hz5 : pth = z5) (hk0 : 2 ≤ k) (hk : k ≤ 999999999996) (w : World) (h : St W l w) :
    Calls Tryd.prog 13 #[.agg (PW px1 px2 py1 py2 pt1 pt2)] w fun e w' => e = .returned (.agg (PW (rt z0) (rt z1) (rt z2) (rt z3) (rt z4) (rt z5))) ∧ Below w.heap.size w w' := by
  subst hz0
  subst hz1
  subst hz2
  subst hz3
  subst hz4
  subst hz5
  have HT := Lib.hid (tabS hT h); clear hT h
  have Z_px := Lib.hid Zpx; clear Zpx
  have Z_py := Lib.hid Zpy; clear Zpy
  have Z_pt := Lib.hid Zpt; clear Zpt
  go_enter Tryd.func13, Tryd.ntmps13
  have HS : St w [] w := St.start
  go_upto_region 0 with (fail)
  refine wp_seq_text [] (StR.no HS) ?_
  refine Seq.box rfl rfl rfl (v := .agg (PW px1 px2 py1 py2 pt1 pt2)) (cs := PW px1 px2 py1 py2 pt1 pt2) rfl rfl ?_
  intro bk1 _ _ hbk1_r
  simp only [Act.put, nA, nB, nC]
  refine Seq.alloc rfl rfl rfl (z := .agg (PW rz0 rz0 rz0 rz0 rz0 rz0)) (by kernel_rfl) rfl ?_
  intro bk2 _ _ hbk2_r
  obtain ⟨ne_bk2_bk1, hbk2_r⟩ := Reg.ne_of_put hbk2_r
  have ne_bk1_bk2 := Ne.symm ne_bk2_bk1
  simp only [Act.put, nA, nB, nC]
  refine Seq.done fun ws1 hws => ?_
  have HS1 := hws.list2 (p := bk1) (q := bk2) (by repeat (first | exact rS | refine rN (by assumption) ?_)) (by repeat (first | exact rS | refine rN (by assumption) ?_)) (by assumption)
  clear HS hws
  go_upto_region 1 with (fail)
  have HPbk2 := HS1.f1
  refine wp_seq [] (by kernel_rfl) (by kernel_rfl) (Reg.fin.put Reg.fin_no _ _) (StR.move (StR.no HPbk2)) ?_
  refine Seq.pure rfl rfl (by intro w; go_simp; try rfl) ?_
  simp only [Act.put, nA, nB, nC]
  refine Seq.loadAt rfl rfl rfl rfl (by repeat (first | exact mC | apply mT)) (n := 6) (cs' := SW px1 px2) (Nat.le_of_ble_eq_true rfl) (by kernel_rfl) rfl ?_
  simp only [Act.put, nA, nB, nC]
  refine Seq.call rfl rfl rfl rfl (by kernel_rfl) (ends_w (k := (1 * k + 2)) (a1 := px1) (a2 := px2) HT.out (Z_px.out.more (by omega))  rfl rfl (by omega) (by omega)) ?_
  simp only [Act.put, nA, nB, nC]
  refine Seq.pure rfl rfl (by intro w; go_simp; try rfl) ?_
  simp only [Act.put, nA, nB, nC]
  refine Seq.loadAt rfl rfl rfl rfl (by repeat (first | exact mC | apply mT)) (n := 6) (cs' := SW py1 py2) (Nat.le_of_ble_eq_true rfl) (by kernel_rfl) rfl ?_
  simp only [Act.put, nA, nB, nC]
  refine Seq.call rfl rfl rfl rfl (by kernel_rfl) (ends_w (k := (1 * k + 2)) (a1 := py1) (a2 := py2) HT.out (Z_py.out.more (by omega))  rfl rfl (by omega) (by omega)) ?_
  simp only [Act.put, nA, nB, nC]
  refine Seq.pure rfl rfl (by intro w; go_simp; try rfl) ?_
  simp only [Act.put, nA, nB, nC]
  refine Seq.loadAt rfl rfl rfl rfl (by repeat (first | exact mC | apply mT)) (n := 6) (cs' := SW pt1 pt2) (Nat.le_of_ble_eq_true rfl) (by kernel_rfl) rfl ?_
  simp only [Act.put, nA, nB, nC]
  refine Seq.call rfl rfl rfl rfl (by kernel_rfl) (ends_w (k := (1 * k + 2)) (a1 := pt1) (a2 := pt2) HT.out (Z_pt.out.more (by omega))  rfl rfl (by omega) (by omega)) ?_
  simp only [Act.put, nA, nB, nC]
  refine Seq.pure (v := .agg (PW (rt pxl) (rt pxh) (rt pyl) (rt pyh) (rt ptl) (rt pth))) rfl rfl (fun w => bld_RPose (x := (rt pxl)) (y := (rt pxh)) (z := (rt pyl)) (u := (rt pyh)) (v := (rt ptl)) (t := (rt pth)) rfl rfl rfl rfl w) ?_
  simp only [Act.put, nA, nB, nC]
  refine Seq.store rfl rfl rfl rfl rfl (by repeat (first | exact rS | refine rN (by assumption) ?_)) (n := 18) rfl rfl (by kernel_rfl) (PW_one _ _ _ _ _ _) ?_
  simp only [Act.put, nA, nB, nC]
  refine Seq.done fun ws2 hws => ?_
  have HS2 := hws.list1 (p := bk2) (by repeat (first | exact rS | refine rN (by assumption) ?_))
  clear HS1 hws HPbk2
  go_wp2_with fail
  exact ret_own rfl rfl rfl HS2 (by repeat (first | exact mC | apply mT)) (n := 18) rfl (by kernel_rfl) ⟨rfl, HS2.below⟩
set_option maxHeartbeats 2000000 in
set_option maxRecDepth 20000 in
theorem shas_w {k : Nat} {pxl pxh : Rat} {pxg : Bool} {px1 px2 : RT} {pyl pyh : Rat} {pyg : Bool} {py1 py2 : RT} {ptl pth : Rat} {ptg : Bool} {pt1 pt2 : RT} {f1 : Rat} {f1_g : Bool} {f1_t : RT} {f2 : Rat} {f2_g : Bool} {f2_t : RT} {fh : Bool} {ft : Rat} {ft_g : Bool} {ft_t : RT} {z0 : Bool} {W : World} {l : List Own} (hT : Tab W) (Zpx : RawS k pxl pxh pxg px1 px2) (Zpy : RawS k pyl pyh pyg py1 py2) (Zpt : RawS k ptl pth ptg pt1 pt2) (Zf1 : RawT k f1 f1_g f1_t) (Zf2 : RawT k f2 f2_g f2_t) (Zft : RawT k ft ft_g ft_t) (hz0 : inQ fh pxl pxh pyl pyh ptl pth f1 f2 ft = z0) (hk0 : 2 ≤ k) (hk : k ≤ 999999999994) (w : World) (h : St W l w) :
    Calls Tryd.prog 15 #[.agg (PW px1 px2 py1 py2 pt1 pt2), .agg (FW f1_t f2_t fh ft_t)] w fun e w' => e = .returned (.bool z0) ∧ Below w.heap.size w w' := by
  subst hz0
  have HT := Lib.hid (tabS hT h); clear hT h
  have Z_px := Lib.hid Zpx; clear Zpx
  have Z_py := Lib.hid Zpy; clear Zpy
  have Z_pt := Lib.hid Zpt; clear Zpt
  have Z_f1 := Lib.hid Zf1; clear Zf1
  have Z_f2 := Lib.hid Zf2; clear Zf2
  have Z_ft := Lib.hid Zft; clear Zft
  have hsp : fh = true ∨ (fh = false ∧ hasQ pxl pxh f1 = false) ∨ (fh = false ∧ hasQ pxl pxh f1 = true ∧ hasQ pyl pyh f2 = false) ∨ (fh = false ∧ hasQ pxl pxh f1 = true ∧ hasQ pyl pyh f2 = true ∧ hasQ ptl pth ft = false) ∨ (fh = false ∧ hasQ pxl pxh f1 = true ∧ hasQ pyl pyh f2 = true ∧ hasQ ptl pth ft = true) := by
    cases fh <;> cases hasQ pxl pxh f1 <;> cases hasQ pyl pyh f2 <;> cases hasQ ptl pth ft <;> simp
  rcases hsp with rfl | ⟨rfl, hb1⟩ | ⟨rfl, hb1, hb2⟩ | ⟨rfl, hb1, hb2, hb3⟩ | ⟨rfl, hb1, hb2, hb3⟩
  · have HB := Lib.hid (show false = inQ true pxl pxh pyl pyh ptl pth f1 f2 ft from by unfold inQ; simp [])
    go_enter Tryd.func15, Tryd.ntmps15
    have HS : St w [] w := St.start
    go_upto_region 0 with (fail)
    refine wp_seq_text [] (StR.no HS) ?_
    refine Seq.box rfl rfl rfl (v := .agg (PW px1 px2 py1 py2 pt1 pt2)) (cs := PW px1 px2 py1 py2 pt1 pt2) rfl rfl ?_
    intro bk2 _ _ hbk2_r
    simp only [Act.put, nA, nB, nC]
    refine Seq.box rfl rfl rfl (v := .agg (FW f1_t f2_t true ft_t)) (cs := FW f1_t f2_t true ft_t) rfl rfl ?_
    intro bk3 _ _ hbk3_r
    obtain ⟨ne_bk3_bk2, hbk3_r⟩ := Reg.ne_of_put hbk3_r
    have ne_bk2_bk3 := Ne.symm ne_bk3_bk2
    simp only [Act.put, nA, nB, nC]
    refine Seq.pure rfl rfl (by intro w; go_simp; try rfl) ?_
    simp only [Act.put, nA, nB, nC]
    refine Seq.done fun ws1 hws => ?_
    have HS1 := hws.list2 (p := bk2) (q := bk3) (by repeat (first | exact rS | refine rN (by assumption) ?_)) (by repeat (first | exact rS | refine rN (by assumption) ?_)) (by assumption)
    clear HS hws
    go_upto_region 1 with (fail)
    refine wp_seq_text [] (StR.no HS1) ?_
    iterate 2 (refine Seq.pure rfl rfl (by intro w; go_simp; try rfl) ?_; simp only [Act.put, nA, nB, nC])
    refine Seq.loadCell rfl rfl rfl rfl (by repeat (first | exact mC | apply mT)) (v := .bool true) rfl (by kernel_rfl) rfl ?_
    simp only [Act.put, nA, nB, nC]
    iterate 2 (refine Seq.pure rfl rfl (by intro w; go_simp; try rfl) ?_; simp only [Act.put, nA, nB, nC])
    iterate 6 (refine Seq.nw rfl ?_; simp only [Act.put, nA, nB, nC])
    iterate 2 (refine Seq.pure rfl rfl (by intro w; go_simp; try rfl) ?_; simp only [Act.put, nA, nB, nC])
    iterate 6 (refine Seq.nw rfl ?_; simp only [Act.put, nA, nB, nC])
    iterate 2 (refine Seq.pure rfl rfl (by intro w; go_simp; try rfl) ?_; simp only [Act.put, nA, nB, nC])
    iterate 6 (refine Seq.nw rfl ?_; simp only [Act.put, nA, nB, nC])
    iterate 2 (refine Seq.pure rfl rfl (by intro w; go_simp; try rfl) ?_; simp only [Act.put, nA, nB, nC])
    refine Seq.done fun ws2 hws => ?_
    have HS2 := hws.st
    clear HS1 hws
    go_wp2_with fail
    go_ret
    exact ⟨congrArg (fun b => Ending.returned (.bool b)) HB.out, HS2.below⟩
  · have B1 := Lib.hid hb1
    have HB := Lib.hid (show false = inQ false pxl pxh pyl pyh ptl pth f1 f2 ft from by unfold inQ; simp [hb1])
    clear hb1
    go_enter Tryd.func15, Tryd.ntmps15
    have HS : St w [] w := St.start
    go_upto_region 0 with (fail)
    refine wp_seq_text [] (StR.no HS) ?_
    refine Seq.box rfl rfl rfl (v := .agg (PW px1 px2 py1 py2 pt1 pt2)) (cs := PW px1 px2 py1 py2 pt1 pt2) rfl rfl ?_
    intro bk2 _ _ hbk2_r
    simp only [Act.put, nA, nB, nC]
    refine Seq.box rfl rfl rfl (v := .agg (FW f1_t f2_t false ft_t)) (cs := FW f1_t f2_t false ft_t) rfl rfl ?_
    intro bk3 _ _ hbk3_r
    obtain ⟨ne_bk3_bk2, hbk3_r⟩ := Reg.ne_of_put hbk3_r
    have ne_bk2_bk3 := Ne.symm ne_bk3_bk2
    simp only [Act.put, nA, nB, nC]
    refine Seq.pure rfl rfl (by intro w; go_simp; try rfl) ?_
    simp only [Act.put, nA, nB, nC]
    refine Seq.done fun ws1 hws => ?_
    have HS1 := hws.list2 (p := bk2) (q := bk3) (by repeat (first | exact rS | refine rN (by assumption) ?_)) (by repeat (first | exact rS | refine rN (by assumption) ?_)) (by assumption)
    clear HS hws
    go_upto_region 1 with (fail)
    refine wp_seq_text [] (StR.no HS1) ?_
    iterate 2 (refine Seq.pure rfl rfl (by intro w; go_simp; try rfl) ?_; simp only [Act.put, nA, nB, nC])
    refine Seq.loadCell rfl rfl rfl rfl (by repeat (first | exact mC | apply mT)) (v := .bool false) rfl (by kernel_rfl) rfl ?_
    simp only [Act.put, nA, nB, nC]
    iterate 3 (refine Seq.pure rfl rfl (by intro w; go_simp; try rfl) ?_; simp only [Act.put, nA, nB, nC])
    refine Seq.loadAt rfl rfl rfl rfl (by repeat (first | exact mC | apply mT)) (n := 6) (cs' := SW px1 px2) (Nat.le_of_ble_eq_true rfl) (by kernel_rfl) rfl ?_
    simp only [Act.put, nA, nB, nC]
    iterate 2 (refine Seq.pure rfl rfl (by intro w; go_simp; try rfl) ?_; simp only [Act.put, nA, nB, nC])
    refine Seq.loadAt rfl rfl rfl rfl (by repeat (first | exact mC | apply mT)) (n := 3) (cs' := RT.c f1_t) (Nat.le_of_ble_eq_true rfl) (by kernel_rfl) rfl ?_
    simp only [Act.put, nA, nB, nC]
    refine Seq.call rfl rfl rfl rfl (by kernel_rfl) (has_w (k := (1 * k + 2)) (a1 := px1) (a2 := px2) (t_t := f1_t) HT.out (Z_px.out.more (by omega)) (Z_f1.out.more (by omega))  B1.out (by omega) (by omega)) ?_
    simp only [Act.put, nA, nB, nC]
    iterate 2 (refine Seq.pure rfl rfl (by intro w; go_simp; try rfl) ?_; simp only [Act.put, nA, nB, nC])
    iterate 6 (refine Seq.nw rfl ?_; simp only [Act.put, nA, nB, nC])
    iterate 2 (refine Seq.pure rfl rfl (by intro w; go_simp; try rfl) ?_; simp only [Act.put, nA, nB, nC])
    iterate 6 (refine Seq.nw rfl ?_; simp only [Act.put, nA, nB, nC])
    iterate 2 (refine Seq.pure rfl rfl (by intro w; go_simp; try rfl) ?_; simp only [Act.put, nA, nB, nC])
    refine Seq.done fun ws2 hws => ?_
    have HS2 := hws.st
    clear HS1 hws
    go_wp2_with fail
    go_ret
    exact ⟨congrArg (fun b => Ending.returned (.bool b)) HB.out, HS2.below⟩
  · have B1 := Lib.hid hb1
    have B2 := Lib.hid hb2
    have HB := Lib.hid (show false = inQ false pxl pxh pyl pyh ptl pth f1 f2 ft from by unfold inQ; simp [hb1, hb2])
    clear hb1 hb2
    go_enter Tryd.func15, Tryd.ntmps15
    have HS : St w [] w := St.start
    go_upto_region 0 with (fail)
    refine wp_seq_text [] (StR.no HS) ?_
    refine Seq.box rfl rfl rfl (v := .agg (PW px1 px2 py1 py2 pt1 pt2)) (cs := PW px1 px2 py1 py2 pt1 pt2) rfl rfl ?_
    intro bk2 _ _ hbk2_r
    simp only [Act.put, nA, nB, nC]
    refine Seq.box rfl rfl rfl (v := .agg (FW f1_t f2_t false ft_t)) (cs := FW f1_t f2_t false ft_t) rfl rfl ?_
    intro bk3 _ _ hbk3_r
    obtain ⟨ne_bk3_bk2, hbk3_r⟩ := Reg.ne_of_put hbk3_r
    have ne_bk2_bk3 := Ne.symm ne_bk3_bk2
    simp only [Act.put, nA, nB, nC]
    refine Seq.pure rfl rfl (by intro w; go_simp; try rfl) ?_
    simp only [Act.put, nA, nB, nC]
    refine Seq.done fun ws1 hws => ?_
    have HS1 := hws.list2 (p := bk2) (q := bk3) (by repeat (first | exact rS | refine rN (by assumption) ?_)) (by repeat (first | exact rS | refine rN (by assumption) ?_)) (by assumption)
    clear HS hws
    go_upto_region 1 with (fail)
    refine wp_seq_text [] (StR.no HS1) ?_
    iterate 2 (refine Seq.pure rfl rfl (by intro w; go_simp; try rfl) ?_; simp only [Act.put, nA, nB, nC])
    refine Seq.loadCell rfl rfl rfl rfl (by repeat (first | exact mC | apply mT)) (v := .bool false) rfl (by kernel_rfl) rfl ?_
    simp only [Act.put, nA, nB, nC]
    iterate 3 (refine Seq.pure rfl rfl (by intro w; go_simp; try rfl) ?_; simp only [Act.put, nA, nB, nC])
    refine Seq.loadAt rfl rfl rfl rfl (by repeat (first | exact mC | apply mT)) (n := 6) (cs' := SW px1 px2) (Nat.le_of_ble_eq_true rfl) (by kernel_rfl) rfl ?_
    simp only [Act.put, nA, nB, nC]
    iterate 2 (refine Seq.pure rfl rfl (by intro w; go_simp; try rfl) ?_; simp only [Act.put, nA, nB, nC])
    refine Seq.loadAt rfl rfl rfl rfl (by repeat (first | exact mC | apply mT)) (n := 3) (cs' := RT.c f1_t) (Nat.le_of_ble_eq_true rfl) (by kernel_rfl) rfl ?_
    simp only [Act.put, nA, nB, nC]
    refine Seq.call rfl rfl rfl rfl (by kernel_rfl) (has_w (k := (1 * k + 2)) (a1 := px1) (a2 := px2) (t_t := f1_t) HT.out (Z_px.out.more (by omega)) (Z_f1.out.more (by omega))  B1.out (by omega) (by omega)) ?_
    simp only [Act.put, nA, nB, nC]
    iterate 3 (refine Seq.pure rfl rfl (by intro w; go_simp; try rfl) ?_; simp only [Act.put, nA, nB, nC])
    refine Seq.loadAt rfl rfl rfl rfl (by repeat (first | exact mC | apply mT)) (n := 6) (cs' := SW py1 py2) (Nat.le_of_ble_eq_true rfl) (by kernel_rfl) rfl ?_
    simp only [Act.put, nA, nB, nC]
    iterate 2 (refine Seq.pure rfl rfl (by intro w; go_simp; try rfl) ?_; simp only [Act.put, nA, nB, nC])
    refine Seq.loadAt rfl rfl rfl rfl (by repeat (first | exact mC | apply mT)) (n := 3) (cs' := RT.c f2_t) (Nat.le_of_ble_eq_true rfl) (by kernel_rfl) rfl ?_
    simp only [Act.put, nA, nB, nC]
    refine Seq.call rfl rfl rfl rfl (by kernel_rfl) (has_w (k := (1 * k + 2)) (a1 := py1) (a2 := py2) (t_t := f2_t) HT.out (Z_py.out.more (by omega)) (Z_f2.out.more (by omega))  B2.out (by omega) (by omega)) ?_
    simp only [Act.put, nA, nB, nC]
    iterate 2 (refine Seq.pure rfl rfl (by intro w; go_simp; try rfl) ?_; simp only [Act.put, nA, nB, nC])
    iterate 6 (refine Seq.nw rfl ?_; simp only [Act.put, nA, nB, nC])
    iterate 2 (refine Seq.pure rfl rfl (by intro w; go_simp; try rfl) ?_; simp only [Act.put, nA, nB, nC])
    refine Seq.done fun ws2 hws => ?_
    have HS2 := hws.st
    clear HS1 hws
    go_wp2_with fail
    go_ret
    exact ⟨congrArg (fun b => Ending.returned (.bool b)) HB.out, HS2.below⟩
  · have B1 := Lib.hid hb1
    have B2 := Lib.hid hb2
    have B3 := Lib.hid hb3
    have HB := Lib.hid (show false = inQ false pxl pxh pyl pyh ptl pth f1 f2 ft from by unfold inQ; simp [hb1, hb2, hb3])
    clear hb1 hb2 hb3
    go_enter Tryd.func15, Tryd.ntmps15
    have HS : St w [] w := St.start
    go_upto_region 0 with (fail)
    refine wp_seq_text [] (StR.no HS) ?_
    refine Seq.box rfl rfl rfl (v := .agg (PW px1 px2 py1 py2 pt1 pt2)) (cs := PW px1 px2 py1 py2 pt1 pt2) rfl rfl ?_
    intro bk2 _ _ hbk2_r
    simp only [Act.put, nA, nB, nC]
    refine Seq.box rfl rfl rfl (v := .agg (FW f1_t f2_t false ft_t)) (cs := FW f1_t f2_t false ft_t) rfl rfl ?_
    intro bk3 _ _ hbk3_r
    obtain ⟨ne_bk3_bk2, hbk3_r⟩ := Reg.ne_of_put hbk3_r
    have ne_bk2_bk3 := Ne.symm ne_bk3_bk2
    simp only [Act.put, nA, nB, nC]
    refine Seq.pure rfl rfl (by intro w; go_simp; try rfl) ?_
    simp only [Act.put, nA, nB, nC]
    refine Seq.done fun ws1 hws => ?_
    have HS1 := hws.list2 (p := bk2) (q := bk3) (by repeat (first | exact rS | refine rN (by assumption) ?_)) (by repeat (first | exact rS | refine rN (by assumption) ?_)) (by assumption)
    clear HS hws
    go_upto_region 1 with (fail)
    refine wp_seq_text [] (StR.no HS1) ?_
    iterate 2 (refine Seq.pure rfl rfl (by intro w; go_simp; try rfl) ?_; simp only [Act.put, nA, nB, nC])
    refine Seq.loadCell rfl rfl rfl rfl (by repeat (first | exact mC | apply mT)) (v := .bool false) rfl (by kernel_rfl) rfl ?_
    simp only [Act.put, nA, nB, nC]
    iterate 3 (refine Seq.pure rfl rfl (by intro w; go_simp; try rfl) ?_; simp only [Act.put, nA, nB, nC])
    refine Seq.loadAt rfl rfl rfl rfl (by repeat (first | exact mC | apply mT)) (n := 6) (cs' := SW px1 px2) (Nat.le_of_ble_eq_true rfl) (by kernel_rfl) rfl ?_
    simp only [Act.put, nA, nB, nC]
    iterate 2 (refine Seq.pure rfl rfl (by intro w; go_simp; try rfl) ?_; simp only [Act.put, nA, nB, nC])
    refine Seq.loadAt rfl rfl rfl rfl (by repeat (first | exact mC | apply mT)) (n := 3) (cs' := RT.c f1_t) (Nat.le_of_ble_eq_true rfl) (by kernel_rfl) rfl ?_
    simp only [Act.put, nA, nB, nC]
    refine Seq.call rfl rfl rfl rfl (by kernel_rfl) (has_w (k := (1 * k + 2)) (a1 := px1) (a2 := px2) (t_t := f1_t) HT.out (Z_px.out.more (by omega)) (Z_f1.out.more (by omega))  B1.out (by omega) (by omega)) ?_
    simp only [Act.put, nA, nB, nC]
    iterate 3 (refine Seq.pure rfl rfl (by intro w; go_simp; try rfl) ?_; simp only [Act.put, nA, nB, nC])
    refine Seq.loadAt rfl rfl rfl rfl (by repeat (first | exact mC | apply mT)) (n := 6) (cs' := SW py1 py2) (Nat.le_of_ble_eq_true rfl) (by kernel_rfl) rfl ?_
    simp only [Act.put, nA, nB, nC]
    iterate 2 (refine Seq.pure rfl rfl (by intro w; go_simp; try rfl) ?_; simp only [Act.put, nA, nB, nC])
    refine Seq.loadAt rfl rfl rfl rfl (by repeat (first | exact mC | apply mT)) (n := 3) (cs' := RT.c f2_t) (Nat.le_of_ble_eq_true rfl) (by kernel_rfl) rfl ?_
    simp only [Act.put, nA, nB, nC]
    refine Seq.call rfl rfl rfl rfl (by kernel_rfl) (has_w (k := (1 * k + 2)) (a1 := py1) (a2 := py2) (t_t := f2_t) HT.out (Z_py.out.more (by omega)) (Z_f2.out.more (by omega))  B2.out (by omega) (by omega)) ?_
    simp only [Act.put, nA, nB, nC]
    iterate 3 (refine Seq.pure rfl rfl (by intro w; go_simp; try rfl) ?_; simp only [Act.put, nA, nB, nC])
    refine Seq.loadAt rfl rfl rfl rfl (by repeat (first | exact mC | apply mT)) (n := 6) (cs' := SW pt1 pt2) (Nat.le_of_ble_eq_true rfl) (by kernel_rfl) rfl ?_
    simp only [Act.put, nA, nB, nC]
    iterate 2 (refine Seq.pure rfl rfl (by intro w; go_simp; try rfl) ?_; simp only [Act.put, nA, nB, nC])
    refine Seq.loadAt rfl rfl rfl rfl (by repeat (first | exact mC | apply mT)) (n := 3) (cs' := RT.c ft_t) (Nat.le_of_ble_eq_true rfl) (by kernel_rfl) rfl ?_
    simp only [Act.put, nA, nB, nC]
    refine Seq.call rfl rfl rfl rfl (by kernel_rfl) (has_w (k := (1 * k + 2)) (a1 := pt1) (a2 := pt2) (t_t := ft_t) HT.out (Z_pt.out.more (by omega)) (Z_ft.out.more (by omega))  B3.out (by omega) (by omega)) ?_
    simp only [Act.put, nA, nB, nC]
    iterate 2 (refine Seq.pure rfl rfl (by intro w; go_simp; try rfl) ?_; simp only [Act.put, nA, nB, nC])
    refine Seq.done fun ws2 hws => ?_
    have HS2 := hws.st
    clear HS1 hws
    go_wp2_with fail
    go_ret
    exact ⟨congrArg (fun b => Ending.returned (.bool b)) HB.out, HS2.below⟩
  · have B1 := Lib.hid hb1
    have B2 := Lib.hid hb2
    have B3 := Lib.hid hb3
    have HB := Lib.hid (show true = inQ false pxl pxh pyl pyh ptl pth f1 f2 ft from by unfold inQ; simp [hb1, hb2, hb3])
    clear hb1 hb2 hb3
    go_enter Tryd.func15, Tryd.ntmps15
    have HS : St w [] w := St.start
    go_upto_region 0 with (fail)
    refine wp_seq_text [] (StR.no HS) ?_
    refine Seq.box rfl rfl rfl (v := .agg (PW px1 px2 py1 py2 pt1 pt2)) (cs := PW px1 px2 py1 py2 pt1 pt2) rfl rfl ?_
    intro bk2 _ _ hbk2_r
    simp only [Act.put, nA, nB, nC]
    refine Seq.box rfl rfl rfl (v := .agg (FW f1_t f2_t false ft_t)) (cs := FW f1_t f2_t false ft_t) rfl rfl ?_
    intro bk3 _ _ hbk3_r
    obtain ⟨ne_bk3_bk2, hbk3_r⟩ := Reg.ne_of_put hbk3_r
    have ne_bk2_bk3 := Ne.symm ne_bk3_bk2
    simp only [Act.put, nA, nB, nC]
    refine Seq.pure rfl rfl (by intro w; go_simp; try rfl) ?_
    simp only [Act.put, nA, nB, nC]
    refine Seq.done fun ws1 hws => ?_
    have HS1 := hws.list2 (p := bk2) (q := bk3) (by repeat (first | exact rS | refine rN (by assumption) ?_)) (by repeat (first | exact rS | refine rN (by assumption) ?_)) (by assumption)
    clear HS hws
    go_upto_region 1 with (fail)
    refine wp_seq_text [] (StR.no HS1) ?_
    iterate 2 (refine Seq.pure rfl rfl (by intro w; go_simp; try rfl) ?_; simp only [Act.put, nA, nB, nC])
    refine Seq.loadCell rfl rfl rfl rfl (by repeat (first | exact mC | apply mT)) (v := .bool false) rfl (by kernel_rfl) rfl ?_
    simp only [Act.put, nA, nB, nC]
    iterate 3 (refine Seq.pure rfl rfl (by intro w; go_simp; try rfl) ?_; simp only [Act.put, nA, nB, nC])
    refine Seq.loadAt rfl rfl rfl rfl (by repeat (first | exact mC | apply mT)) (n := 6) (cs' := SW px1 px2) (Nat.le_of_ble_eq_true rfl) (by kernel_rfl) rfl ?_
    simp only [Act.put, nA, nB, nC]
    iterate 2 (refine Seq.pure rfl rfl (by intro w; go_simp; try rfl) ?_; simp only [Act.put, nA, nB, nC])
    refine Seq.loadAt rfl rfl rfl rfl (by repeat (first | exact mC | apply mT)) (n := 3) (cs' := RT.c f1_t) (Nat.le_of_ble_eq_true rfl) (by kernel_rfl) rfl ?_
    simp only [Act.put, nA, nB, nC]
    refine Seq.call rfl rfl rfl rfl (by kernel_rfl) (has_w (k := (1 * k + 2)) (a1 := px1) (a2 := px2) (t_t := f1_t) HT.out (Z_px.out.more (by omega)) (Z_f1.out.more (by omega))  B1.out (by omega) (by omega)) ?_
    simp only [Act.put, nA, nB, nC]
    iterate 3 (refine Seq.pure rfl rfl (by intro w; go_simp; try rfl) ?_; simp only [Act.put, nA, nB, nC])
    refine Seq.loadAt rfl rfl rfl rfl (by repeat (first | exact mC | apply mT)) (n := 6) (cs' := SW py1 py2) (Nat.le_of_ble_eq_true rfl) (by kernel_rfl) rfl ?_
    simp only [Act.put, nA, nB, nC]
    iterate 2 (refine Seq.pure rfl rfl (by intro w; go_simp; try rfl) ?_; simp only [Act.put, nA, nB, nC])
    refine Seq.loadAt rfl rfl rfl rfl (by repeat (first | exact mC | apply mT)) (n := 3) (cs' := RT.c f2_t) (Nat.le_of_ble_eq_true rfl) (by kernel_rfl) rfl ?_
    simp only [Act.put, nA, nB, nC]
    refine Seq.call rfl rfl rfl rfl (by kernel_rfl) (has_w (k := (1 * k + 2)) (a1 := py1) (a2 := py2) (t_t := f2_t) HT.out (Z_py.out.more (by omega)) (Z_f2.out.more (by omega))  B2.out (by omega) (by omega)) ?_
    simp only [Act.put, nA, nB, nC]
    iterate 3 (refine Seq.pure rfl rfl (by intro w; go_simp; try rfl) ?_; simp only [Act.put, nA, nB, nC])
    refine Seq.loadAt rfl rfl rfl rfl (by repeat (first | exact mC | apply mT)) (n := 6) (cs' := SW pt1 pt2) (Nat.le_of_ble_eq_true rfl) (by kernel_rfl) rfl ?_
    simp only [Act.put, nA, nB, nC]
    iterate 2 (refine Seq.pure rfl rfl (by intro w; go_simp; try rfl) ?_; simp only [Act.put, nA, nB, nC])
    refine Seq.loadAt rfl rfl rfl rfl (by repeat (first | exact mC | apply mT)) (n := 3) (cs' := RT.c ft_t) (Nat.le_of_ble_eq_true rfl) (by kernel_rfl) rfl ?_
    simp only [Act.put, nA, nB, nC]
    refine Seq.call rfl rfl rfl rfl (by kernel_rfl) (has_w (k := (1 * k + 2)) (a1 := pt1) (a2 := pt2) (t_t := ft_t) HT.out (Z_pt.out.more (by omega)) (Z_ft.out.more (by omega))  B3.out (by omega) (by omega)) ?_
    simp only [Act.put, nA, nB, nC]
    iterate 2 (refine Seq.pure rfl rfl (by intro w; go_simp; try rfl) ?_; simp only [Act.put, nA, nB, nC])
    refine Seq.done fun ws2 hws => ?_
    have HS2 := hws.st
    clear HS1 hws
    go_wp2_with fail
    go_ret
    exact ⟨congrArg (fun b => Ending.returned (.bool b)) HB.out, HS2.below⟩
set_option maxHeartbeats 2000000 in
set_option maxRecDepth 20000 in
theorem frames_w {k : Nat} {f1 : Rat} {f1_g : Bool} {f1_t : RT} {f2 : Rat} {f2_g : Bool} {f2_t : RT} {fh : Bool} {ft : Rat} {ft_g : Bool} {ft_t : RT} {W : World} {l : List Own} (hT : Tab W) (Zf1 : RawT k f1 f1_g f1_t) (Zf2 : RawT k f2 f2_g f2_t) (Zft : RawT k ft ft_g ft_t) (hk0 : 2 ≤ k) (hk : k ≤ 1000000000000) (w : World) (h : St W l w) :
    Calls Tryd.prog 27 #[.agg (FW f1_t f2_t fh ft_t)] w fun e w' => e = .returned (.agg (TW f1_t f2_t ft_t)) ∧ Below w.heap.size w w' := by
  have HT := Lib.hid (tabS hT h); clear hT h
  have Z_f1 := Lib.hid Zf1; clear Zf1
  have Z_f2 := Lib.hid Zf2; clear Zf2
  have Z_ft := Lib.hid Zft; clear Zft
  go_enter Tryd.func27, Tryd.ntmps27
  have HS : St w [] w := St.start
  go_upto_region 0 with (fail)
  refine wp_seq_text [] (StR.no HS) ?_
  refine Seq.box rfl rfl rfl (v := .agg (FW f1_t f2_t fh ft_t)) (cs := FW f1_t f2_t fh ft_t) rfl rfl ?_
  intro bk1 _ _ hbk1_r
  simp only [Act.put, nA, nB, nC]
  refine Seq.alloc rfl rfl rfl (z := .agg (TW rz0 rz0 rz0)) (by kernel_rfl) rfl ?_
  intro bk2 _ _ hbk2_r
  obtain ⟨ne_bk2_bk1, hbk2_r⟩ := Reg.ne_of_put hbk2_r
  have ne_bk1_bk2 := Ne.symm ne_bk2_bk1
  simp only [Act.put, nA, nB, nC]
  refine Seq.done fun ws1 hws => ?_
  have HS1 := hws.list2 (p := bk1) (q := bk2) (by repeat (first | exact rS | refine rN (by assumption) ?_)) (by repeat (first | exact rS | refine rN (by assumption) ?_)) (by assumption)
  clear HS hws
  go_upto_region 1 with (fail)
  have HPbk2 := HS1.f1
  refine wp_seq_text [] (StR.move (StR.no HPbk2)) ?_
  iterate 2 (refine Seq.pure rfl rfl (by intro w; go_simp; try rfl) ?_; simp only [Act.put, nA, nB, nC])
  refine Seq.loadAt rfl rfl rfl rfl (by repeat (first | exact mC | apply mT)) (n := 3) (cs' := RT.c f1_t) (Nat.le_of_ble_eq_true rfl) (by kernel_rfl) rfl ?_
  simp only [Act.put, nA, nB, nC]
  iterate 2 (refine Seq.pure rfl rfl (by intro w; go_simp; try rfl) ?_; simp only [Act.put, nA, nB, nC])
  refine Seq.loadAt rfl rfl rfl rfl (by repeat (first | exact mC | apply mT)) (n := 3) (cs' := RT.c f2_t) (Nat.le_of_ble_eq_true rfl) (by kernel_rfl) rfl ?_
  simp only [Act.put, nA, nB, nC]
  iterate 2 (refine Seq.pure rfl rfl (by intro w; go_simp; try rfl) ?_; simp only [Act.put, nA, nB, nC])
  refine Seq.loadAt rfl rfl rfl rfl (by repeat (first | exact mC | apply mT)) (n := 3) (cs' := RT.c ft_t) (Nat.le_of_ble_eq_true rfl) (by kernel_rfl) rfl ?_
  simp only [Act.put, nA, nB, nC]
  refine Seq.pure (v := .agg (TW f1_t f2_t ft_t)) rfl rfl (fun w => bld_RF3 (x := f1_t) (y := f2_t) (z := ft_t) rfl rfl rfl rfl w) ?_
  simp only [Act.put, nA, nB, nC]
  refine Seq.store rfl rfl rfl rfl rfl (by repeat (first | exact rS | refine rN (by assumption) ?_)) (n := 9) rfl rfl (by kernel_rfl) (TW_one _ _ _) ?_
  simp only [Act.put, nA, nB, nC]
  refine Seq.done fun ws2 hws => ?_
  have HS2 := hws.list1 (p := bk2) (by repeat (first | exact rS | refine rN (by assumption) ?_))
  clear HS1 hws HPbk2
  go_wp2_with fail
  exact ret_own rfl rfl rfl HS2 (by repeat (first | exact mC | apply mT)) (n := 9) rfl (by kernel_rfl) ⟨rfl, HS2.below⟩
set_option maxHeartbeats 2000000 in
set_option maxRecDepth 20000 in
theorem inPose_w {k : Nat} {p1 : Rat} {p2 : Rat} {p3 : Rat} {p4 : Rat} {p5 : Rat} {p6 : Rat} {f1 : Rat} {f1_g : Bool} {f1_t : RT} {f2 : Rat} {f2_g : Bool} {f2_t : RT} {fh : Bool} {ft : Rat} {ft_g : Bool} {ft_t : RT} {z0 : Bool} {W : World} {l : List Own} (hT : Tab W) (Zp1 : Rz k p1) (Zp2 : Rz k p2) (Zp3 : Rz k p3) (Zp4 : Rz k p4) (Zp5 : Rz k p5) (Zp6 : Rz k p6) (Zf1 : RawT k f1 f1_g f1_t) (Zf2 : RawT k f2 f2_g f2_t) (Zft : RawT k ft ft_g ft_t) (hz0 : inQ fh p1 p2 p3 p4 p5 p6 f1 f2 ft = z0) (hk0 : 2 ≤ k) (hk : k ≤ 999999999998) (w : World) (h : St W l w) :
    Calls Tryd.prog 16 #[.agg (PW (rt p1) (rt p2) (rt p3) (rt p4) (rt p5) (rt p6)), .agg (FW f1_t f2_t fh ft_t)] w fun e w' => e = .returned (.bool z0) ∧ Below w.heap.size w w' := by
  subst hz0
  have HT := Lib.hid (tabS hT h); clear hT h
  have Z_p1 := Lib.hid Zp1; clear Zp1
  have Z_p2 := Lib.hid Zp2; clear Zp2
  have Z_p3 := Lib.hid Zp3; clear Zp3
  have Z_p4 := Lib.hid Zp4; clear Zp4
  have Z_p5 := Lib.hid Zp5; clear Zp5
  have Z_p6 := Lib.hid Zp6; clear Zp6
  have Z_f1 := Lib.hid Zf1; clear Zf1
  have Z_f2 := Lib.hid Zf2; clear Zf2
  have Z_ft := Lib.hid Zft; clear Zft
  have hsp : fh = true ∨ (fh = false ∧ (f1 < p1)) ∨ (fh = false ∧ (¬ f1 < p1 ∧ p2 < f1)) ∨ (fh = false ∧ (¬ f1 < p1 ∧ ¬ p2 < f1) ∧ (f2 < p3)) ∨ (fh = false ∧ (¬ f1 < p1 ∧ ¬ p2 < f1) ∧ (¬ f2 < p3 ∧ p4 < f2)) ∨ (fh = false ∧ (¬ f1 < p1 ∧ ¬ p2 < f1) ∧ (¬ f2 < p3 ∧ ¬ p4 < f2) ∧ (ft < p5)) ∨ (fh = false ∧ (¬ f1 < p1 ∧ ¬ p2 < f1) ∧ (¬ f2 < p3 ∧ ¬ p4 < f2) ∧ (¬ ft < p5 ∧ p6 < ft)) ∨ (fh = false ∧ (¬ f1 < p1 ∧ ¬ p2 < f1) ∧ (¬ f2 < p3 ∧ ¬ p4 < f2) ∧ (¬ ft < p5 ∧ ¬ p6 < ft)) := by
    cases fh
    · right; simp only [true_and]; grind
    · left; rfl
  rcases hsp with rfl | ⟨rfl, hb1⟩ | ⟨rfl, hb1⟩ | ⟨rfl, hb1, hb2⟩ | ⟨rfl, hb1, hb2⟩ | ⟨rfl, hb1, hb2, hb3⟩ | ⟨rfl, hb1, hb2, hb3⟩ | ⟨rfl, hb1, hb2, hb3⟩
  · have HB := Lib.hid (show false = inQ true p1 p2 p3 p4 p5 p6 f1 f2 ft from by unfold inQ; simp)
    go_enter Tryd.func16, Tryd.ntmps16
    have HS : St w [] w := St.start
    go_upto_region 0 with (fail)
    refine wp_seq_text [] (StR.no HS) ?_
    refine Seq.box rfl rfl rfl (v := .agg (PW (rt p1) (rt p2) (rt p3) (rt p4) (rt p5) (rt p6))) (cs := PW (rt p1) (rt p2) (rt p3) (rt p4) (rt p5) (rt p6)) rfl rfl ?_
    intro bk2 _ _ hbk2_r
    simp only [Act.put, nA, nB, nC]
    refine Seq.box rfl rfl rfl (v := .agg (FW f1_t f2_t true ft_t)) (cs := FW f1_t f2_t true ft_t) rfl rfl ?_
    intro bk3 _ _ hbk3_r
    obtain ⟨ne_bk3_bk2, hbk3_r⟩ := Reg.ne_of_put hbk3_r
    have ne_bk2_bk3 := Ne.symm ne_bk3_bk2
    simp only [Act.put, nA, nB, nC]
    refine Seq.pure rfl rfl (by intro w; go_simp; try rfl) ?_
    simp only [Act.put, nA, nB, nC]
    refine Seq.done fun ws1 hws => ?_
    have HS1 := hws.list2 (p := bk2) (q := bk3) (by repeat (first | exact rS | refine rN (by assumption) ?_)) (by repeat (first | exact rS | refine rN (by assumption) ?_)) (by assumption)
    clear HS hws
    go_upto_region 1 with (fail)
    refine wp_seq_text [] (StR.no HS1) ?_
    iterate 2 (refine Seq.pure rfl rfl (by intro w; go_simp; try rfl) ?_; simp only [Act.put, nA, nB, nC])
    refine Seq.loadCell rfl rfl rfl rfl (by repeat (first | exact mC | apply mT)) (v := .bool true) rfl (by kernel_rfl) rfl ?_
    simp only [Act.put, nA, nB, nC]
    refine Seq.done fun ws2 hws => ?_
    have HS2 := hws.st
    clear HS1 hws
    go_upto_region 2 with (fail)
    refine wp_seq_text [] (StR.no HS2) ?_
    refine Seq.pure rfl rfl (by intro w; go_simp; try rfl) ?_
    simp only [Act.put, nA, nB, nC]
    refine Seq.done fun ws3 hws => ?_
    have HS3 := hws.st
    clear HS2 hws
    go_wp2_with fail
    go_ret
    exact ⟨congrArg (fun b => Ending.returned (.bool b)) HB.out, HS3.below⟩
  · have HB := Lib.hid (show false = inQ false p1 p2 p3 p4 p5 p6 f1 f2 ft from by unfold inQ hasQ; symm; simp; grind)
    obtain ⟨va0, hva0, ra0⟩ : ∃ v, cmpQ f1 p1 = v ∧ decide (v < 0) = true := ⟨_, rfl, decide_eq_true ((cmpQ_lt _ _).2 (by grind))⟩
    have Ca0 := Lib.hid hva0; clear hva0
    clear hb1
    go_enter Tryd.func16, Tryd.ntmps16
    have HS : St w [] w := St.start
    go_upto_region 0 with (fail)
    refine wp_seq_text [] (StR.no HS) ?_
    refine Seq.box rfl rfl rfl (v := .agg (PW (rt p1) (rt p2) (rt p3) (rt p4) (rt p5) (rt p6))) (cs := PW (rt p1) (rt p2) (rt p3) (rt p4) (rt p5) (rt p6)) rfl rfl ?_
    intro bk2 _ _ hbk2_r
    simp only [Act.put, nA, nB, nC]
    refine Seq.box rfl rfl rfl (v := .agg (FW f1_t f2_t false ft_t)) (cs := FW f1_t f2_t false ft_t) rfl rfl ?_
    intro bk3 _ _ hbk3_r
    obtain ⟨ne_bk3_bk2, hbk3_r⟩ := Reg.ne_of_put hbk3_r
    have ne_bk2_bk3 := Ne.symm ne_bk3_bk2
    simp only [Act.put, nA, nB, nC]
    refine Seq.pure rfl rfl (by intro w; go_simp; try rfl) ?_
    simp only [Act.put, nA, nB, nC]
    refine Seq.done fun ws1 hws => ?_
    have HS1 := hws.list2 (p := bk2) (q := bk3) (by repeat (first | exact rS | refine rN (by assumption) ?_)) (by repeat (first | exact rS | refine rN (by assumption) ?_)) (by assumption)
    clear HS hws
    go_upto_region 1 with (fail)
    refine wp_seq_text [] (StR.no HS1) ?_
    iterate 2 (refine Seq.pure rfl rfl (by intro w; go_simp; try rfl) ?_; simp only [Act.put, nA, nB, nC])
    refine Seq.loadCell rfl rfl rfl rfl (by repeat (first | exact mC | apply mT)) (v := .bool false) rfl (by kernel_rfl) rfl ?_
    simp only [Act.put, nA, nB, nC]
    refine Seq.done fun ws2 hws => ?_
    have HS2 := hws.st
    clear HS1 hws
    go_upto_region 3 with (fail)
    refine wp_seq_text [] (StR.no HS2) ?_
    refine Seq.load rfl rfl rfl rfl (by repeat (first | exact mC | apply mT)) (n := 10) rfl (by kernel_rfl) ?_
    simp only [Act.put, nA, nB, nC]
    refine Seq.call rfl rfl rfl rfl (by kernel_rfl) (frames_w (k := (1 * k + 2)) (f1_t := f1_t) (f2_t := f2_t) (ft_t := ft_t) HT.out (Z_f1.out.more (by omega)) (Z_f2.out.more (by omega)) (Z_ft.out.more (by omega))   (by omega) (by omega)) ?_
    simp only [Act.put, nA, nB, nC]
    refine Seq.pure rfl rfl (by intro w; go_simp; try rfl) ?_
    simp only [Act.put, nA, nB, nC]
    refine Seq.done fun ws3 hws => ?_
    have HS3 := hws.st
    clear HS2 hws
    go_wp2_with fail
    refine wp_loop_rounds 4 ?_
    rw [rounds_succ]
    go_upto_region 4 with (fail)
    refine wp_seq_text [] (StR.no HS3) ?_
    refine Seq.pure rfl rfl (by intro w; go_simp; try rfl) ?_
    simp only [Act.put, nA, nB, nC]
    refine Seq.done fun ws4 hws => ?_
    have HS4 := hws.st
    clear HS3 hws
    go_upto_region 5 with (fail)
    refine wp_seq_text [] (StR.no HS4) ?_
    refine Seq.pure rfl rfl (by intro w; go_simp; try rfl) ?_
    simp only [Act.put, nA, nB, nC]
    refine Seq.pure (v := .agg (RT.c f1_t)) rfl rfl (by intro w; unfold TW; go_simp; try first | with_reducible rfl | rfl) ?_
    simp only [Act.put, nA, nB, nC]
    refine Seq.alloc rfl rfl rfl (z := .agg (RT.c rz0)) (by kernel_rfl) rfl ?_
    intro bk6 _ _ hbk6_r
    simp only [Act.put, nA, nB, nC]
    refine Seq.pure rfl rfl (by intro w; go_simp; try rfl) ?_
    simp only [Act.put, nA, nB, nC]
    refine Seq.store rfl rfl rfl rfl rfl (by repeat (first | exact rS | refine rN (by assumption) ?_)) (n := 3) rfl rfl (by kernel_rfl) (RT_one _) ?_
    simp only [Act.put, nA, nB, nC]
    refine Seq.done fun ws5 hws => ?_
    have HS5 := hws.list1 (p := bk6) (by repeat (first | exact rS | refine rN (by assumption) ?_))
    clear HS4 hws
    go_upto_region 6 with (fail)
    refine wp_seq [] (by kernel_rfl) (by kernel_rfl) Reg.fin_no (StR.no HS5) ?_
    refine Seq.load rfl rfl rfl rfl (by repeat (first | exact mC | apply mT)) (n := 3) rfl (by kernel_rfl) ?_
    simp only [Act.put, nA, nB, nC]
    iterate 3 (refine Seq.pure rfl rfl (by intro w; go_simp; try rfl) ?_; simp only [Act.put, nA, nB, nC])
    refine Seq.loadAt rfl rfl rfl rfl (by repeat (first | exact mC | apply mT)) (n := 3) (cs' := RC p1) (Nat.le_of_ble_eq_true rfl) (by kernel_rfl) rfl ?_
    simp only [Act.put, nA, nB, nC]
    refine Seq.call rfl rfl rfl rfl (by kernel_rfl) (cmp_wq (k := (1 * k + 2)) HT.out (Z_f1.out.more (by omega)) (Z_p1.out.more (by omega)) Ca0.out (by omega)) ?_
    simp only [Act.put, nA, nB, nC]
    iterate 2 (refine Seq.pure rfl rfl (by intro w; go_simp; try rfl) ?_; simp only [Act.put, nA, nB, nC])
    iterate 7 (refine Seq.nw rfl ?_; simp only [Act.put, nA, nB, nC])
    refine Seq.pure rfl rfl (by intro w; go_simp; try rfl) ?_
    simp only [Act.put, nA, nB, nC]
    refine Seq.done fun ws6 hws => ?_
    have HS6 := hws.st
    clear HS5 hws
    go_upto_region 7 with (fail)
    refine wp_seq_text [] (StR.no HS6) ?_
    refine Seq.pure rfl rfl (by intro w; go_simp; try rfl) ?_
    simp only [Act.put, nA, nB, nC]
    refine Seq.done fun ws7 hws => ?_
    have HS7 := hws.st
    clear HS6 hws
    go_wp2_with fail
    go_ret
    exact ⟨congrArg (fun b => Ending.returned (.bool b)) HB.out, HS7.below⟩
  · have HB := Lib.hid (show false = inQ false p1 p2 p3 p4 p5 p6 f1 f2 ft from by unfold inQ hasQ; symm; simp; grind)
    obtain ⟨va0, hva0, ra0⟩ : ∃ v, cmpQ f1 p1 = v ∧ decide (v < 0) = false := ⟨_, rfl, decide_eq_false (fun h => absurd ((cmpQ_lt _ _).1 h) (by grind))⟩
    have Ca0 := Lib.hid hva0; clear hva0
    obtain ⟨vb0, hvb0, rb0, rb0'⟩ : ∃ v, cmpQ f1 p2 = v ∧ decide (v > 0) = true ∧ decide (0 < v) = true := ⟨_, rfl, decide_eq_true ((cmpQ_gt _ _).2 (by grind)), decide_eq_true ((cmpQ_gt _ _).2 (by grind))⟩
    have Cb0 := Lib.hid hvb0; clear hvb0
    clear hb1
    go_enter Tryd.func16, Tryd.ntmps16
    have HS : St w [] w := St.start
    go_upto_region 0 with (fail)
    refine wp_seq_text [] (StR.no HS) ?_
    refine Seq.box rfl rfl rfl (v := .agg (PW (rt p1) (rt p2) (rt p3) (rt p4) (rt p5) (rt p6))) (cs := PW (rt p1) (rt p2) (rt p3) (rt p4) (rt p5) (rt p6)) rfl rfl ?_
    intro bk2 _ _ hbk2_r
    simp only [Act.put, nA, nB, nC]
    refine Seq.box rfl rfl rfl (v := .agg (FW f1_t f2_t false ft_t)) (cs := FW f1_t f2_t false ft_t) rfl rfl ?_
    intro bk3 _ _ hbk3_r
    obtain ⟨ne_bk3_bk2, hbk3_r⟩ := Reg.ne_of_put hbk3_r
    have ne_bk2_bk3 := Ne.symm ne_bk3_bk2
    simp only [Act.put, nA, nB, nC]
    refine Seq.pure rfl rfl (by intro w; go_simp; try rfl) ?_
    simp only [Act.put, nA, nB, nC]
    refine Seq.done fun ws1 hws => ?_
    have HS1 := hws.list2 (p := bk2) (q := bk3) (by repeat (first | exact rS | refine rN (by assumption) ?_)) (by repeat (first | exact rS | refine rN (by assumption) ?_)) (by assumption)
    clear HS hws
    go_upto_region 1 with (fail)
    refine wp_seq_text [] (StR.no HS1) ?_
    iterate 2 (refine Seq.pure rfl rfl (by intro w; go_simp; try rfl) ?_; simp only [Act.put, nA, nB, nC])
    refine Seq.loadCell rfl rfl rfl rfl (by repeat (first | exact mC | apply mT)) (v := .bool false) rfl (by kernel_rfl) rfl ?_
    simp only [Act.put, nA, nB, nC]
    refine Seq.done fun ws2 hws => ?_
    have HS2 := hws.st
    clear HS1 hws
    go_upto_region 3 with (fail)
    refine wp_seq_text [] (StR.no HS2) ?_
    refine Seq.load rfl rfl rfl rfl (by repeat (first | exact mC | apply mT)) (n := 10) rfl (by kernel_rfl) ?_
    simp only [Act.put, nA, nB, nC]
    refine Seq.call rfl rfl rfl rfl (by kernel_rfl) (frames_w (k := (1 * k + 2)) (f1_t := f1_t) (f2_t := f2_t) (ft_t := ft_t) HT.out (Z_f1.out.more (by omega)) (Z_f2.out.more (by omega)) (Z_ft.out.more (by omega))   (by omega) (by omega)) ?_
    simp only [Act.put, nA, nB, nC]
    refine Seq.pure rfl rfl (by intro w; go_simp; try rfl) ?_
    simp only [Act.put, nA, nB, nC]
    refine Seq.done fun ws3 hws => ?_
    have HS3 := hws.st
    clear HS2 hws
    go_wp2_with fail
    refine wp_loop_rounds 4 ?_
    rw [rounds_succ]
    go_upto_region 4 with (fail)
    refine wp_seq_text [] (StR.no HS3) ?_
    refine Seq.pure rfl rfl (by intro w; go_simp; try rfl) ?_
    simp only [Act.put, nA, nB, nC]
    refine Seq.done fun ws4 hws => ?_
    have HS4 := hws.st
    clear HS3 hws
    go_upto_region 5 with (fail)
    refine wp_seq_text [] (StR.no HS4) ?_
    refine Seq.pure rfl rfl (by intro w; go_simp; try rfl) ?_
    simp only [Act.put, nA, nB, nC]
    refine Seq.pure (v := .agg (RT.c f1_t)) rfl rfl (by intro w; unfold TW; go_simp; try first | with_reducible rfl | rfl) ?_
    simp only [Act.put, nA, nB, nC]
    refine Seq.alloc rfl rfl rfl (z := .agg (RT.c rz0)) (by kernel_rfl) rfl ?_
    intro bk6 _ _ hbk6_r
    simp only [Act.put, nA, nB, nC]
    refine Seq.pure rfl rfl (by intro w; go_simp; try rfl) ?_
    simp only [Act.put, nA, nB, nC]
    refine Seq.store rfl rfl rfl rfl rfl (by repeat (first | exact rS | refine rN (by assumption) ?_)) (n := 3) rfl rfl (by kernel_rfl) (RT_one _) ?_
    simp only [Act.put, nA, nB, nC]
    refine Seq.done fun ws5 hws => ?_
    have HS5 := hws.list1 (p := bk6) (by repeat (first | exact rS | refine rN (by assumption) ?_))
    clear HS4 hws
    go_upto_region 6 with (fail)
    refine wp_seq [] (by kernel_rfl) (by kernel_rfl) Reg.fin_no (StR.no HS5) ?_
    refine Seq.load rfl rfl rfl rfl (by repeat (first | exact mC | apply mT)) (n := 3) rfl (by kernel_rfl) ?_
    simp only [Act.put, nA, nB, nC]
    iterate 3 (refine Seq.pure rfl rfl (by intro w; go_simp; try rfl) ?_; simp only [Act.put, nA, nB, nC])
    refine Seq.loadAt rfl rfl rfl rfl (by repeat (first | exact mC | apply mT)) (n := 3) (cs' := RC p1) (Nat.le_of_ble_eq_true rfl) (by kernel_rfl) rfl ?_
    simp only [Act.put, nA, nB, nC]
    refine Seq.call rfl rfl rfl rfl (by kernel_rfl) (cmp_wq (k := (1 * k + 2)) HT.out (Z_f1.out.more (by omega)) (Z_p1.out.more (by omega)) Ca0.out (by omega)) ?_
    simp only [Act.put, nA, nB, nC]
    iterate 2 (refine Seq.pure rfl rfl (by intro w; go_simp; try rfl) ?_; simp only [Act.put, nA, nB, nC])
    refine Seq.load rfl rfl rfl rfl (by repeat (first | exact mC | apply mT)) (n := 3) rfl (by kernel_rfl) ?_
    simp only [Act.put, nA, nB, nC]
    iterate 3 (refine Seq.pure rfl rfl (by intro w; go_simp; try rfl) ?_; simp only [Act.put, nA, nB, nC])
    refine Seq.loadAt rfl rfl rfl rfl (by repeat (first | exact mC | apply mT)) (n := 3) (cs' := RC p2) (Nat.le_of_ble_eq_true rfl) (by kernel_rfl) rfl ?_
    simp only [Act.put, nA, nB, nC]
    refine Seq.call rfl rfl rfl rfl (by kernel_rfl) (cmp_wq (k := (1 * k + 2)) HT.out (Z_f1.out.more (by omega)) (Z_p2.out.more (by omega)) Cb0.out (by omega)) ?_
    simp only [Act.put, nA, nB, nC]
    iterate 2 (refine Seq.pure rfl rfl (by intro w; go_simp; try rfl) ?_; simp only [Act.put, nA, nB, nC])
    refine Seq.done fun ws6 hws => ?_
    have HS6 := hws.st
    clear HS5 hws
    go_upto_region 7 with (fail)
    refine wp_seq_text [] (StR.no HS6) ?_
    refine Seq.pure rfl rfl (by intro w; go_simp; try rfl) ?_
    simp only [Act.put, nA, nB, nC]
    refine Seq.done fun ws7 hws => ?_
    have HS7 := hws.st
    clear HS6 hws
    go_wp2_with fail
    go_ret
    exact ⟨congrArg (fun b => Ending.returned (.bool b)) HB.out, HS7.below⟩
  · have HB := Lib.hid (show false = inQ false p1 p2 p3 p4 p5 p6 f1 f2 ft from by unfold inQ hasQ; symm; simp; grind)
    obtain ⟨va0, hva0, ra0⟩ : ∃ v, cmpQ f1 p1 = v ∧ decide (v < 0) = false := ⟨_, rfl, decide_eq_false (fun h => absurd ((cmpQ_lt _ _).1 h) (by grind))⟩
    have Ca0 := Lib.hid hva0; clear hva0
    obtain ⟨vb0, hvb0, rb0, rb0'⟩ : ∃ v, cmpQ f1 p2 = v ∧ decide (v > 0) = false ∧ decide (0 < v) = false := ⟨_, rfl, decide_eq_false (fun h => absurd ((cmpQ_gt _ _).1 h) (by grind)), decide_eq_false (fun h => absurd ((cmpQ_gt _ _).1 h) (by grind))⟩
    have Cb0 := Lib.hid hvb0; clear hvb0
    obtain ⟨va1, hva1, ra1⟩ : ∃ v, cmpQ f2 p3 = v ∧ decide (v < 0) = true := ⟨_, rfl, decide_eq_true ((cmpQ_lt _ _).2 (by grind))⟩
    have Ca1 := Lib.hid hva1; clear hva1
    clear hb1 hb2
    go_enter Tryd.func16, Tryd.ntmps16
    have HS : St w [] w := St.start
    go_upto_region 0 with (fail)
    refine wp_seq_text [] (StR.no HS) ?_
    refine Seq.box rfl rfl rfl (v := .agg (PW (rt p1) (rt p2) (rt p3) (rt p4) (rt p5) (rt p6))) (cs := PW (rt p1) (rt p2) (rt p3) (rt p4) (rt p5) (rt p6)) rfl rfl ?_
    intro bk2 _ _ hbk2_r
    simp only [Act.put, nA, nB, nC]
    refine Seq.box rfl rfl rfl (v := .agg (FW f1_t f2_t false ft_t)) (cs := FW f1_t f2_t false ft_t) rfl rfl ?_
    intro bk3 _ _ hbk3_r
    obtain ⟨ne_bk3_bk2, hbk3_r⟩ := Reg.ne_of_put hbk3_r
    have ne_bk2_bk3 := Ne.symm ne_bk3_bk2
    simp only [Act.put, nA, nB, nC]
    refine Seq.pure rfl rfl (by intro w; go_simp; try rfl) ?_
    simp only [Act.put, nA, nB, nC]
    refine Seq.done fun ws1 hws => ?_
    have HS1 := hws.list2 (p := bk2) (q := bk3) (by repeat (first | exact rS | refine rN (by assumption) ?_)) (by repeat (first | exact rS | refine rN (by assumption) ?_)) (by assumption)
    clear HS hws
    go_upto_region 1 with (fail)
    refine wp_seq_text [] (StR.no HS1) ?_
    iterate 2 (refine Seq.pure rfl rfl (by intro w; go_simp; try rfl) ?_; simp only [Act.put, nA, nB, nC])
    refine Seq.loadCell rfl rfl rfl rfl (by repeat (first | exact mC | apply mT)) (v := .bool false) rfl (by kernel_rfl) rfl ?_
    simp only [Act.put, nA, nB, nC]
    refine Seq.done fun ws2 hws => ?_
    have HS2 := hws.st
    clear HS1 hws
    go_upto_region 3 with (fail)
    refine wp_seq_text [] (StR.no HS2) ?_
    refine Seq.load rfl rfl rfl rfl (by repeat (first | exact mC | apply mT)) (n := 10) rfl (by kernel_rfl) ?_
    simp only [Act.put, nA, nB, nC]
    refine Seq.call rfl rfl rfl rfl (by kernel_rfl) (frames_w (k := (1 * k + 2)) (f1_t := f1_t) (f2_t := f2_t) (ft_t := ft_t) HT.out (Z_f1.out.more (by omega)) (Z_f2.out.more (by omega)) (Z_ft.out.more (by omega))   (by omega) (by omega)) ?_
    simp only [Act.put, nA, nB, nC]
    refine Seq.pure rfl rfl (by intro w; go_simp; try rfl) ?_
    simp only [Act.put, nA, nB, nC]
    refine Seq.done fun ws3 hws => ?_
    have HS3 := hws.st
    clear HS2 hws
    go_wp2_with fail
    refine wp_loop_rounds 4 ?_
    rw [rounds_succ]
    go_upto_region 4 with (fail)
    refine wp_seq_text [] (StR.no HS3) ?_
    refine Seq.pure rfl rfl (by intro w; go_simp; try rfl) ?_
    simp only [Act.put, nA, nB, nC]
    refine Seq.done fun ws4 hws => ?_
    have HS4 := hws.st
    clear HS3 hws
    go_upto_region 5 with (fail)
    refine wp_seq_text [] (StR.no HS4) ?_
    refine Seq.pure rfl rfl (by intro w; go_simp; try rfl) ?_
    simp only [Act.put, nA, nB, nC]
    refine Seq.pure (v := .agg (RT.c f1_t)) rfl rfl (by intro w; unfold TW; go_simp; try first | with_reducible rfl | rfl) ?_
    simp only [Act.put, nA, nB, nC]
    refine Seq.alloc rfl rfl rfl (z := .agg (RT.c rz0)) (by kernel_rfl) rfl ?_
    intro bk6 _ _ hbk6_r
    simp only [Act.put, nA, nB, nC]
    refine Seq.pure rfl rfl (by intro w; go_simp; try rfl) ?_
    simp only [Act.put, nA, nB, nC]
    refine Seq.store rfl rfl rfl rfl rfl (by repeat (first | exact rS | refine rN (by assumption) ?_)) (n := 3) rfl rfl (by kernel_rfl) (RT_one _) ?_
    simp only [Act.put, nA, nB, nC]
    refine Seq.done fun ws5 hws => ?_
    have HS5 := hws.list1 (p := bk6) (by repeat (first | exact rS | refine rN (by assumption) ?_))
    clear HS4 hws
    go_upto_region 6 with (fail)
    refine wp_seq [] (by kernel_rfl) (by kernel_rfl) Reg.fin_no (StR.no HS5) ?_
    refine Seq.load rfl rfl rfl rfl (by repeat (first | exact mC | apply mT)) (n := 3) rfl (by kernel_rfl) ?_
    simp only [Act.put, nA, nB, nC]
    iterate 3 (refine Seq.pure rfl rfl (by intro w; go_simp; try rfl) ?_; simp only [Act.put, nA, nB, nC])
    refine Seq.loadAt rfl rfl rfl rfl (by repeat (first | exact mC | apply mT)) (n := 3) (cs' := RC p1) (Nat.le_of_ble_eq_true rfl) (by kernel_rfl) rfl ?_
    simp only [Act.put, nA, nB, nC]
    refine Seq.call rfl rfl rfl rfl (by kernel_rfl) (cmp_wq (k := (1 * k + 2)) HT.out (Z_f1.out.more (by omega)) (Z_p1.out.more (by omega)) Ca0.out (by omega)) ?_
    simp only [Act.put, nA, nB, nC]
    iterate 2 (refine Seq.pure rfl rfl (by intro w; go_simp; try rfl) ?_; simp only [Act.put, nA, nB, nC])
    refine Seq.load rfl rfl rfl rfl (by repeat (first | exact mC | apply mT)) (n := 3) rfl (by kernel_rfl) ?_
    simp only [Act.put, nA, nB, nC]
    iterate 3 (refine Seq.pure rfl rfl (by intro w; go_simp; try rfl) ?_; simp only [Act.put, nA, nB, nC])
    refine Seq.loadAt rfl rfl rfl rfl (by repeat (first | exact mC | apply mT)) (n := 3) (cs' := RC p2) (Nat.le_of_ble_eq_true rfl) (by kernel_rfl) rfl ?_
    simp only [Act.put, nA, nB, nC]
    refine Seq.call rfl rfl rfl rfl (by kernel_rfl) (cmp_wq (k := (1 * k + 2)) HT.out (Z_f1.out.more (by omega)) (Z_p2.out.more (by omega)) Cb0.out (by omega)) ?_
    simp only [Act.put, nA, nB, nC]
    iterate 2 (refine Seq.pure rfl rfl (by intro w; go_simp; try rfl) ?_; simp only [Act.put, nA, nB, nC])
    refine Seq.done fun ws6 hws => ?_
    have HS6 := hws.st
    clear HS5 hws
    go_upto_region 8 with (fail)
    refine wp_seq_text [] (StR.no HS6) ?_
    refine Seq.pure (v := .int .i64 1) rfl rfl (by intro w; go_simp; try rfl) ?_
    simp only [Act.put, nA, nB, nC]
    refine Seq.pure rfl rfl (by intro w; go_simp; try rfl) ?_
    simp only [Act.put, nA, nB, nC]
    refine Seq.done fun ws7 hws => ?_
    have HS7 := hws.st
    clear HS6 hws
    go_wp2_with fail
    rw [rounds_succ]
    go_upto_region 4 with (fail)
    refine wp_seq_text [] (StR.no HS7) ?_
    refine Seq.pure rfl rfl (by intro w; go_simp; try rfl) ?_
    simp only [Act.put, nA, nB, nC]
    refine Seq.done fun ws8 hws => ?_
    have HS8 := hws.st
    clear HS7 hws
    go_upto_region 5 with (fail)
    refine wp_seq_text [] (StR.no HS8) ?_
    refine Seq.pure rfl rfl (by intro w; go_simp; try rfl) ?_
    simp only [Act.put, nA, nB, nC]
    refine Seq.pure (v := .agg (RT.c f2_t)) rfl rfl (by intro w; unfold TW; go_simp; try first | with_reducible rfl | rfl) ?_
    simp only [Act.put, nA, nB, nC]
    refine Seq.alloc rfl rfl rfl (z := .agg (RT.c rz0)) (by kernel_rfl) rfl ?_
    intro bk6_1 _ _ hbk6_1_r
    simp only [Act.put, nA, nB, nC]
    refine Seq.pure rfl rfl (by intro w; go_simp; try rfl) ?_
    simp only [Act.put, nA, nB, nC]
    refine Seq.store rfl rfl rfl rfl rfl (by repeat (first | exact rS | refine rN (by assumption) ?_)) (n := 3) rfl rfl (by kernel_rfl) (RT_one _) ?_
    simp only [Act.put, nA, nB, nC]
    refine Seq.done fun ws9 hws => ?_
    have HS9 := hws.list1 (p := bk6_1) (by repeat (first | exact rS | refine rN (by assumption) ?_))
    clear HS8 hws
    go_upto_region 6 with (fail)
    refine wp_seq [] (by kernel_rfl) (by kernel_rfl) Reg.fin_no (StR.no HS9) ?_
    refine Seq.load rfl rfl rfl rfl (by repeat (first | exact mC | apply mT)) (n := 3) rfl (by kernel_rfl) ?_
    simp only [Act.put, nA, nB, nC]
    iterate 3 (refine Seq.pure rfl rfl (by intro w; go_simp; try rfl) ?_; simp only [Act.put, nA, nB, nC])
    refine Seq.loadAt rfl rfl rfl rfl (by repeat (first | exact mC | apply mT)) (n := 3) (cs' := RC p3) (Nat.le_of_ble_eq_true rfl) (by kernel_rfl) rfl ?_
    simp only [Act.put, nA, nB, nC]
    refine Seq.call rfl rfl rfl rfl (by kernel_rfl) (cmp_wq (k := (1 * k + 2)) HT.out (Z_f2.out.more (by omega)) (Z_p3.out.more (by omega)) Ca1.out (by omega)) ?_
    simp only [Act.put, nA, nB, nC]
    iterate 2 (refine Seq.pure rfl rfl (by intro w; go_simp; try rfl) ?_; simp only [Act.put, nA, nB, nC])
    iterate 7 (refine Seq.nw rfl ?_; simp only [Act.put, nA, nB, nC])
    refine Seq.pure rfl rfl (by intro w; go_simp; try rfl) ?_
    simp only [Act.put, nA, nB, nC]
    refine Seq.done fun ws10 hws => ?_
    have HS10 := hws.st
    clear HS9 hws
    go_upto_region 7 with (fail)
    refine wp_seq_text [] (StR.no HS10) ?_
    refine Seq.pure rfl rfl (by intro w; go_simp; try rfl) ?_
    simp only [Act.put, nA, nB, nC]
    refine Seq.done fun ws11 hws => ?_
    have HS11 := hws.st
    clear HS10 hws
    go_wp2_with fail
    go_ret
    exact ⟨congrArg (fun b => Ending.returned (.bool b)) HB.out, HS11.below⟩
  · have HB := Lib.hid (show false = inQ false p1 p2 p3 p4 p5 p6 f1 f2 ft from by unfold inQ hasQ; symm; simp; grind)
    obtain ⟨va0, hva0, ra0⟩ : ∃ v, cmpQ f1 p1 = v ∧ decide (v < 0) = false := ⟨_, rfl, decide_eq_false (fun h => absurd ((cmpQ_lt _ _).1 h) (by grind))⟩
    have Ca0 := Lib.hid hva0; clear hva0
    obtain ⟨vb0, hvb0, rb0, rb0'⟩ : ∃ v, cmpQ f1 p2 = v ∧ decide (v > 0) = false ∧ decide (0 < v) = false := ⟨_, rfl, decide_eq_false (fun h => absurd ((cmpQ_gt _ _).1 h) (by grind)), decide_eq_false (fun h => absurd ((cmpQ_gt _ _).1 h) (by grind))⟩
    have Cb0 := Lib.hid hvb0; clear hvb0
    obtain ⟨va1, hva1, ra1⟩ : ∃ v, cmpQ f2 p3 = v ∧ decide (v < 0) = false := ⟨_, rfl, decide_eq_false (fun h => absurd ((cmpQ_lt _ _).1 h) (by grind))⟩
    have Ca1 := Lib.hid hva1; clear hva1
    obtain ⟨vb1, hvb1, rb1, rb1'⟩ : ∃ v, cmpQ f2 p4 = v ∧ decide (v > 0) = true ∧ decide (0 < v) = true := ⟨_, rfl, decide_eq_true ((cmpQ_gt _ _).2 (by grind)), decide_eq_true ((cmpQ_gt _ _).2 (by grind))⟩
    have Cb1 := Lib.hid hvb1; clear hvb1
    clear hb1 hb2
    go_enter Tryd.func16, Tryd.ntmps16
    have HS : St w [] w := St.start
    go_upto_region 0 with (fail)
    refine wp_seq_text [] (StR.no HS) ?_
    refine Seq.box rfl rfl rfl (v := .agg (PW (rt p1) (rt p2) (rt p3) (rt p4) (rt p5) (rt p6))) (cs := PW (rt p1) (rt p2) (rt p3) (rt p4) (rt p5) (rt p6)) rfl rfl ?_
    intro bk2 _ _ hbk2_r
    simp only [Act.put, nA, nB, nC]
    refine Seq.box rfl rfl rfl (v := .agg (FW f1_t f2_t false ft_t)) (cs := FW f1_t f2_t false ft_t) rfl rfl ?_
    intro bk3 _ _ hbk3_r
    obtain ⟨ne_bk3_bk2, hbk3_r⟩ := Reg.ne_of_put hbk3_r
    have ne_bk2_bk3 := Ne.symm ne_bk3_bk2
    simp only [Act.put, nA, nB, nC]
    refine Seq.pure rfl rfl (by intro w; go_simp; try rfl) ?_
    simp only [Act.put, nA, nB, nC]
    refine Seq.done fun ws1 hws => ?_
    have HS1 := hws.list2 (p := bk2) (q := bk3) (by repeat (first | exact rS | refine rN (by assumption) ?_)) (by repeat (first | exact rS | refine rN (by assumption) ?_)) (by assumption)
    clear HS hws
    go_upto_region 1 with (fail)
    refine wp_seq_text [] (StR.no HS1) ?_
    iterate 2 (refine Seq.pure rfl rfl (by intro w; go_simp; try rfl) ?_; simp only [Act.put, nA, nB, nC])
    refine Seq.loadCell rfl rfl rfl rfl (by repeat (first | exact mC | apply mT)) (v := .bool false) rfl (by kernel_rfl) rfl ?_
    simp only [Act.put, nA, nB, nC]
    refine Seq.done fun ws2 hws => ?_
    have HS2 := hws.st
    clear HS1 hws
    go_upto_region 3 with (fail)
    refine wp_seq_text [] (StR.no HS2) ?_
    refine Seq.load rfl rfl rfl rfl (by repeat (first | exact mC | apply mT)) (n := 10) rfl (by kernel_rfl) ?_
    simp only [Act.put, nA, nB, nC]
    refine Seq.call rfl rfl rfl rfl (by kernel_rfl) (frames_w (k := (1 * k + 2)) (f1_t := f1_t) (f2_t := f2_t) (ft_t := ft_t) HT.out (Z_f1.out.more (by omega)) (Z_f2.out.more (by omega)) (Z_ft.out.more (by omega))   (by omega) (by omega)) ?_
    simp only [Act.put, nA, nB, nC]
    refine Seq.pure rfl rfl (by intro w; go_simp; try rfl) ?_
    simp only [Act.put, nA, nB, nC]
    refine Seq.done fun ws3 hws => ?_
    have HS3 := hws.st
    clear HS2 hws
    go_wp2_with fail
    refine wp_loop_rounds 4 ?_
    rw [rounds_succ]
    go_upto_region 4 with (fail)
    refine wp_seq_text [] (StR.no HS3) ?_
    refine Seq.pure rfl rfl (by intro w; go_simp; try rfl) ?_
    simp only [Act.put, nA, nB, nC]
    refine Seq.done fun ws4 hws => ?_
    have HS4 := hws.st
    clear HS3 hws
    go_upto_region 5 with (fail)
    refine wp_seq_text [] (StR.no HS4) ?_
    refine Seq.pure rfl rfl (by intro w; go_simp; try rfl) ?_
    simp only [Act.put, nA, nB, nC]
    refine Seq.pure (v := .agg (RT.c f1_t)) rfl rfl (by intro w; unfold TW; go_simp; try first | with_reducible rfl | rfl) ?_
    simp only [Act.put, nA, nB, nC]
    refine Seq.alloc rfl rfl rfl (z := .agg (RT.c rz0)) (by kernel_rfl) rfl ?_
    intro bk6 _ _ hbk6_r
    simp only [Act.put, nA, nB, nC]
    refine Seq.pure rfl rfl (by intro w; go_simp; try rfl) ?_
    simp only [Act.put, nA, nB, nC]
    refine Seq.store rfl rfl rfl rfl rfl (by repeat (first | exact rS | refine rN (by assumption) ?_)) (n := 3) rfl rfl (by kernel_rfl) (RT_one _) ?_
    simp only [Act.put, nA, nB, nC]
    refine Seq.done fun ws5 hws => ?_
    have HS5 := hws.list1 (p := bk6) (by repeat (first | exact rS | refine rN (by assumption) ?_))
    clear HS4 hws
    go_upto_region 6 with (fail)
    refine wp_seq [] (by kernel_rfl) (by kernel_rfl) Reg.fin_no (StR.no HS5) ?_
    refine Seq.load rfl rfl rfl rfl (by repeat (first | exact mC | apply mT)) (n := 3) rfl (by kernel_rfl) ?_
    simp only [Act.put, nA, nB, nC]
    iterate 3 (refine Seq.pure rfl rfl (by intro w; go_simp; try rfl) ?_; simp only [Act.put, nA, nB, nC])
    refine Seq.loadAt rfl rfl rfl rfl (by repeat (first | exact mC | apply mT)) (n := 3) (cs' := RC p1) (Nat.le_of_ble_eq_true rfl) (by kernel_rfl) rfl ?_
    simp only [Act.put, nA, nB, nC]
    refine Seq.call rfl rfl rfl rfl (by kernel_rfl) (cmp_wq (k := (1 * k + 2)) HT.out (Z_f1.out.more (by omega)) (Z_p1.out.more (by omega)) Ca0.out (by omega)) ?_
    simp only [Act.put, nA, nB, nC]
    iterate 2 (refine Seq.pure rfl rfl (by intro w; go_simp; try rfl) ?_; simp only [Act.put, nA, nB, nC])
    refine Seq.load rfl rfl rfl rfl (by repeat (first | exact mC | apply mT)) (n := 3) rfl (by kernel_rfl) ?_
    simp only [Act.put, nA, nB, nC]
    iterate 3 (refine Seq.pure rfl rfl (by intro w; go_simp; try rfl) ?_; simp only [Act.put, nA, nB, nC])
    refine Seq.loadAt rfl rfl rfl rfl (by repeat (first | exact mC | apply mT)) (n := 3) (cs' := RC p2) (Nat.le_of_ble_eq_true rfl) (by kernel_rfl) rfl ?_
    simp only [Act.put, nA, nB, nC]
    refine Seq.call rfl rfl rfl rfl (by kernel_rfl) (cmp_wq (k := (1 * k + 2)) HT.out (Z_f1.out.more (by omega)) (Z_p2.out.more (by omega)) Cb0.out (by omega)) ?_
    simp only [Act.put, nA, nB, nC]
    iterate 2 (refine Seq.pure rfl rfl (by intro w; go_simp; try rfl) ?_; simp only [Act.put, nA, nB, nC])
    refine Seq.done fun ws6 hws => ?_
    have HS6 := hws.st
    clear HS5 hws
    go_upto_region 8 with (fail)
    refine wp_seq_text [] (StR.no HS6) ?_
    refine Seq.pure (v := .int .i64 1) rfl rfl (by intro w; go_simp; try rfl) ?_
    simp only [Act.put, nA, nB, nC]
    refine Seq.pure rfl rfl (by intro w; go_simp; try rfl) ?_
    simp only [Act.put, nA, nB, nC]
    refine Seq.done fun ws7 hws => ?_
    have HS7 := hws.st
    clear HS6 hws
    go_wp2_with fail
    rw [rounds_succ]
    go_upto_region 4 with (fail)
    refine wp_seq_text [] (StR.no HS7) ?_
    refine Seq.pure rfl rfl (by intro w; go_simp; try rfl) ?_
    simp only [Act.put, nA, nB, nC]
    refine Seq.done fun ws8 hws => ?_
    have HS8 := hws.st
    clear HS7 hws
    go_upto_region 5 with (fail)
    refine wp_seq_text [] (StR.no HS8) ?_
    refine Seq.pure rfl rfl (by intro w; go_simp; try rfl) ?_
    simp only [Act.put, nA, nB, nC]
    refine Seq.pure (v := .agg (RT.c f2_t)) rfl rfl (by intro w; unfold TW; go_simp; try first | with_reducible rfl | rfl) ?_
    simp only [Act.put, nA, nB, nC]
    refine Seq.alloc rfl rfl rfl (z := .agg (RT.c rz0)) (by kernel_rfl) rfl ?_
    intro bk6_1 _ _ hbk6_1_r
    simp only [Act.put, nA, nB, nC]
    refine Seq.pure rfl rfl (by intro w; go_simp; try rfl) ?_
    simp only [Act.put, nA, nB, nC]
    refine Seq.store rfl rfl rfl rfl rfl (by repeat (first | exact rS | refine rN (by assumption) ?_)) (n := 3) rfl rfl (by kernel_rfl) (RT_one _) ?_
    simp only [Act.put, nA, nB, nC]
    refine Seq.done fun ws9 hws => ?_
    have HS9 := hws.list1 (p := bk6_1) (by repeat (first | exact rS | refine rN (by assumption) ?_))
    clear HS8 hws
    go_upto_region 6 with (fail)
    refine wp_seq [] (by kernel_rfl) (by kernel_rfl) Reg.fin_no (StR.no HS9) ?_
    refine Seq.load rfl rfl rfl rfl (by repeat (first | exact mC | apply mT)) (n := 3) rfl (by kernel_rfl) ?_
    simp only [Act.put, nA, nB, nC]
    iterate 3 (refine Seq.pure rfl rfl (by intro w; go_simp; try rfl) ?_; simp only [Act.put, nA, nB, nC])
    refine Seq.loadAt rfl rfl rfl rfl (by repeat (first | exact mC | apply mT)) (n := 3) (cs' := RC p3) (Nat.le_of_ble_eq_true rfl) (by kernel_rfl) rfl ?_
    simp only [Act.put, nA, nB, nC]
    refine Seq.call rfl rfl rfl rfl (by kernel_rfl) (cmp_wq (k := (1 * k + 2)) HT.out (Z_f2.out.more (by omega)) (Z_p3.out.more (by omega)) Ca1.out (by omega)) ?_
    simp only [Act.put, nA, nB, nC]
    iterate 2 (refine Seq.pure rfl rfl (by intro w; go_simp; try rfl) ?_; simp only [Act.put, nA, nB, nC])
    refine Seq.load rfl rfl rfl rfl (by repeat (first | exact mC | apply mT)) (n := 3) rfl (by kernel_rfl) ?_
    simp only [Act.put, nA, nB, nC]
    iterate 3 (refine Seq.pure rfl rfl (by intro w; go_simp; try rfl) ?_; simp only [Act.put, nA, nB, nC])
    refine Seq.loadAt rfl rfl rfl rfl (by repeat (first | exact mC | apply mT)) (n := 3) (cs' := RC p4) (Nat.le_of_ble_eq_true rfl) (by kernel_rfl) rfl ?_
    simp only [Act.put, nA, nB, nC]
    refine Seq.call rfl rfl rfl rfl (by kernel_rfl) (cmp_wq (k := (1 * k + 2)) HT.out (Z_f2.out.more (by omega)) (Z_p4.out.more (by omega)) Cb1.out (by omega)) ?_
    simp only [Act.put, nA, nB, nC]
    iterate 2 (refine Seq.pure rfl rfl (by intro w; go_simp; try rfl) ?_; simp only [Act.put, nA, nB, nC])
    refine Seq.done fun ws10 hws => ?_
    have HS10 := hws.st
    clear HS9 hws
    go_upto_region 7 with (fail)
    refine wp_seq_text [] (StR.no HS10) ?_
    refine Seq.pure rfl rfl (by intro w; go_simp; try rfl) ?_
    simp only [Act.put, nA, nB, nC]
    refine Seq.done fun ws11 hws => ?_
    have HS11 := hws.st
    clear HS10 hws
    go_wp2_with fail
    go_ret
    exact ⟨congrArg (fun b => Ending.returned (.bool b)) HB.out, HS11.below⟩
  · have HB := Lib.hid (show false = inQ false p1 p2 p3 p4 p5 p6 f1 f2 ft from by unfold inQ hasQ; symm; simp; grind)
    obtain ⟨va0, hva0, ra0⟩ : ∃ v, cmpQ f1 p1 = v ∧ decide (v < 0) = false := ⟨_, rfl, decide_eq_false (fun h => absurd ((cmpQ_lt _ _).1 h) (by grind))⟩
    have Ca0 := Lib.hid hva0; clear hva0
    obtain ⟨vb0, hvb0, rb0, rb0'⟩ : ∃ v, cmpQ f1 p2 = v ∧ decide (v > 0) = false ∧ decide (0 < v) = false := ⟨_, rfl, decide_eq_false (fun h => absurd ((cmpQ_gt _ _).1 h) (by grind)), decide_eq_false (fun h => absurd ((cmpQ_gt _ _).1 h) (by grind))⟩
    have Cb0 := Lib.hid hvb0; clear hvb0
    obtain ⟨va1, hva1, ra1⟩ : ∃ v, cmpQ f2 p3 = v ∧ decide (v < 0) = false := ⟨_, rfl, decide_eq_false (fun h => absurd ((cmpQ_lt _ _).1 h) (by grind))⟩
    have Ca1 := Lib.hid hva1; clear hva1
    obtain ⟨vb1, hvb1, rb1, rb1'⟩ : ∃ v, cmpQ f2 p4 = v ∧ decide (v > 0) = false ∧ decide (0 < v) = false := ⟨_, rfl, decide_eq_false (fun h => absurd ((cmpQ_gt _ _).1 h) (by grind)), decide_eq_false (fun h => absurd ((cmpQ_gt _ _).1 h) (by grind))⟩
    have Cb1 := Lib.hid hvb1; clear hvb1
    obtain ⟨va2, hva2, ra2⟩ : ∃ v, cmpQ ft p5 = v ∧ decide (v < 0) = true := ⟨_, rfl, decide_eq_true ((cmpQ_lt _ _).2 (by grind))⟩
    have Ca2 := Lib.hid hva2; clear hva2
    clear hb1 hb2 hb3
    go_enter Tryd.func16, Tryd.ntmps16
    have HS : St w [] w := St.start
    go_upto_region 0 with (fail)
    refine wp_seq_text [] (StR.no HS) ?_
    refine Seq.box rfl rfl rfl (v := .agg (PW (rt p1) (rt p2) (rt p3) (rt p4) (rt p5) (rt p6))) (cs := PW (rt p1) (rt p2) (rt p3) (rt p4) (rt p5) (rt p6)) rfl rfl ?_
    intro bk2 _ _ hbk2_r
    simp only [Act.put, nA, nB, nC]
    refine Seq.box rfl rfl rfl (v := .agg (FW f1_t f2_t false ft_t)) (cs := FW f1_t f2_t false ft_t) rfl rfl ?_
    intro bk3 _ _ hbk3_r
    obtain ⟨ne_bk3_bk2, hbk3_r⟩ := Reg.ne_of_put hbk3_r
    have ne_bk2_bk3 := Ne.symm ne_bk3_bk2
    simp only [Act.put, nA, nB, nC]
    refine Seq.pure rfl rfl (by intro w; go_simp; try rfl) ?_
    simp only [Act.put, nA, nB, nC]
    refine Seq.done fun ws1 hws => ?_
    have HS1 := hws.list2 (p := bk2) (q := bk3) (by repeat (first | exact rS | refine rN (by assumption) ?_)) (by repeat (first | exact rS | refine rN (by assumption) ?_)) (by assumption)
    clear HS hws
    go_upto_region 1 with (fail)
    refine wp_seq_text [] (StR.no HS1) ?_
    iterate 2 (refine Seq.pure rfl rfl (by intro w; go_simp; try rfl) ?_; simp only [Act.put, nA, nB, nC])
    refine Seq.loadCell rfl rfl rfl rfl (by repeat (first | exact mC | apply mT)) (v := .bool false) rfl (by kernel_rfl) rfl ?_
    simp only [Act.put, nA, nB, nC]
    refine Seq.done fun ws2 hws => ?_
    have HS2 := hws.st
    clear HS1 hws
    go_upto_region 3 with (fail)
    refine wp_seq_text [] (StR.no HS2) ?_
    refine Seq.load rfl rfl rfl rfl (by repeat (first | exact mC | apply mT)) (n := 10) rfl (by kernel_rfl) ?_
    simp only [Act.put, nA, nB, nC]
    refine Seq.call rfl rfl rfl rfl (by kernel_rfl) (frames_w (k := (1 * k + 2)) (f1_t := f1_t) (f2_t := f2_t) (ft_t := ft_t) HT.out (Z_f1.out.more (by omega)) (Z_f2.out.more (by omega)) (Z_ft.out.more (by omega))   (by omega) (by omega)) ?_
    simp only [Act.put, nA, nB, nC]
    refine Seq.pure rfl rfl (by intro w; go_simp; try rfl) ?_
    simp only [Act.put, nA, nB, nC]
    refine Seq.done fun ws3 hws => ?_
    have HS3 := hws.st
    clear HS2 hws
    go_wp2_with fail
    refine wp_loop_rounds 4 ?_
    rw [rounds_succ]
    go_upto_region 4 with (fail)
    refine wp_seq_text [] (StR.no HS3) ?_
    refine Seq.pure rfl rfl (by intro w; go_simp; try rfl) ?_
    simp only [Act.put, nA, nB, nC]
    refine Seq.done fun ws4 hws => ?_
    have HS4 := hws.st
    clear HS3 hws
    go_upto_region 5 with (fail)
    refine wp_seq_text [] (StR.no HS4) ?_
    refine Seq.pure rfl rfl (by intro w; go_simp; try rfl) ?_
    simp only [Act.put, nA, nB, nC]
    refine Seq.pure (v := .agg (RT.c f1_t)) rfl rfl (by intro w; unfold TW; go_simp; try first | with_reducible rfl | rfl) ?_
    simp only [Act.put, nA, nB, nC]
    refine Seq.alloc rfl rfl rfl (z := .agg (RT.c rz0)) (by kernel_rfl) rfl ?_
    intro bk6 _ _ hbk6_r
    simp only [Act.put, nA, nB, nC]
    refine Seq.pure rfl rfl (by intro w; go_simp; try rfl) ?_
    simp only [Act.put, nA, nB, nC]
    refine Seq.store rfl rfl rfl rfl rfl (by repeat (first | exact rS | refine rN (by assumption) ?_)) (n := 3) rfl rfl (by kernel_rfl) (RT_one _) ?_
    simp only [Act.put, nA, nB, nC]
    refine Seq.done fun ws5 hws => ?_
    have HS5 := hws.list1 (p := bk6) (by repeat (first | exact rS | refine rN (by assumption) ?_))
    clear HS4 hws
    go_upto_region 6 with (fail)
    refine wp_seq [] (by kernel_rfl) (by kernel_rfl) Reg.fin_no (StR.no HS5) ?_
    refine Seq.load rfl rfl rfl rfl (by repeat (first | exact mC | apply mT)) (n := 3) rfl (by kernel_rfl) ?_
    simp only [Act.put, nA, nB, nC]
    iterate 3 (refine Seq.pure rfl rfl (by intro w; go_simp; try rfl) ?_; simp only [Act.put, nA, nB, nC])
    refine Seq.loadAt rfl rfl rfl rfl (by repeat (first | exact mC | apply mT)) (n := 3) (cs' := RC p1) (Nat.le_of_ble_eq_true rfl) (by kernel_rfl) rfl ?_
    simp only [Act.put, nA, nB, nC]
    refine Seq.call rfl rfl rfl rfl (by kernel_rfl) (cmp_wq (k := (1 * k + 2)) HT.out (Z_f1.out.more (by omega)) (Z_p1.out.more (by omega)) Ca0.out (by omega)) ?_
    simp only [Act.put, nA, nB, nC]
    iterate 2 (refine Seq.pure rfl rfl (by intro w; go_simp; try rfl) ?_; simp only [Act.put, nA, nB, nC])
    refine Seq.load rfl rfl rfl rfl (by repeat (first | exact mC | apply mT)) (n := 3) rfl (by kernel_rfl) ?_
    simp only [Act.put, nA, nB, nC]
    iterate 3 (refine Seq.pure rfl rfl (by intro w; go_simp; try rfl) ?_; simp only [Act.put, nA, nB, nC])
    refine Seq.loadAt rfl rfl rfl rfl (by repeat (first | exact mC | apply mT)) (n := 3) (cs' := RC p2) (Nat.le_of_ble_eq_true rfl) (by kernel_rfl) rfl ?_
    simp only [Act.put, nA, nB, nC]
    refine Seq.call rfl rfl rfl rfl (by kernel_rfl) (cmp_wq (k := (1 * k + 2)) HT.out (Z_f1.out.more (by omega)) (Z_p2.out.more (by omega)) Cb0.out (by omega)) ?_
    simp only [Act.put, nA, nB, nC]
    iterate 2 (refine Seq.pure rfl rfl (by intro w; go_simp; try rfl) ?_; simp only [Act.put, nA, nB, nC])
    refine Seq.done fun ws6 hws => ?_
    have HS6 := hws.st
    clear HS5 hws
    go_upto_region 8 with (fail)
    refine wp_seq_text [] (StR.no HS6) ?_
    refine Seq.pure (v := .int .i64 1) rfl rfl (by intro w; go_simp; try rfl) ?_
    simp only [Act.put, nA, nB, nC]
    refine Seq.pure rfl rfl (by intro w; go_simp; try rfl) ?_
    simp only [Act.put, nA, nB, nC]
    refine Seq.done fun ws7 hws => ?_
    have HS7 := hws.st
    clear HS6 hws
    go_wp2_with fail
    rw [rounds_succ]
    go_upto_region 4 with (fail)
    refine wp_seq_text [] (StR.no HS7) ?_
    refine Seq.pure rfl rfl (by intro w; go_simp; try rfl) ?_
    simp only [Act.put, nA, nB, nC]
    refine Seq.done fun ws8 hws => ?_
    have HS8 := hws.st
    clear HS7 hws
    go_upto_region 5 with (fail)
    refine wp_seq_text [] (StR.no HS8) ?_
    refine Seq.pure rfl rfl (by intro w; go_simp; try rfl) ?_
    simp only [Act.put, nA, nB, nC]
    refine Seq.pure (v := .agg (RT.c f2_t)) rfl rfl (by intro w; unfold TW; go_simp; try first | with_reducible rfl | rfl) ?_
    simp only [Act.put, nA, nB, nC]
    refine Seq.alloc rfl rfl rfl (z := .agg (RT.c rz0)) (by kernel_rfl) rfl ?_
    intro bk6_1 _ _ hbk6_1_r
    simp only [Act.put, nA, nB, nC]
    refine Seq.pure rfl rfl (by intro w; go_simp; try rfl) ?_
    simp only [Act.put, nA, nB, nC]
    refine Seq.store rfl rfl rfl rfl rfl (by repeat (first | exact rS | refine rN (by assumption) ?_)) (n := 3) rfl rfl (by kernel_rfl) (RT_one _) ?_
    simp only [Act.put, nA, nB, nC]
    refine Seq.done fun ws9 hws => ?_
    have HS9 := hws.list1 (p := bk6_1) (by repeat (first | exact rS | refine rN (by assumption) ?_))
    clear HS8 hws
    go_upto_region 6 with (fail)
    refine wp_seq [] (by kernel_rfl) (by kernel_rfl) Reg.fin_no (StR.no HS9) ?_
    refine Seq.load rfl rfl rfl rfl (by repeat (first | exact mC | apply mT)) (n := 3) rfl (by kernel_rfl) ?_
    simp only [Act.put, nA, nB, nC]
    iterate 3 (refine Seq.pure rfl rfl (by intro w; go_simp; try rfl) ?_; simp only [Act.put, nA, nB, nC])
    refine Seq.loadAt rfl rfl rfl rfl (by repeat (first | exact mC | apply mT)) (n := 3) (cs' := RC p3) (Nat.le_of_ble_eq_true rfl) (by kernel_rfl) rfl ?_
    simp only [Act.put, nA, nB, nC]
    refine Seq.call rfl rfl rfl rfl (by kernel_rfl) (cmp_wq (k := (1 * k + 2)) HT.out (Z_f2.out.more (by omega)) (Z_p3.out.more (by omega)) Ca1.out (by omega)) ?_
    simp only [Act.put, nA, nB, nC]
    iterate 2 (refine Seq.pure rfl rfl (by intro w; go_simp; try rfl) ?_; simp only [Act.put, nA, nB, nC])
    refine Seq.load rfl rfl rfl rfl (by repeat (first | exact mC | apply mT)) (n := 3) rfl (by kernel_rfl) ?_
    simp only [Act.put, nA, nB, nC]
    iterate 3 (refine Seq.pure rfl rfl (by intro w; go_simp; try rfl) ?_; simp only [Act.put, nA, nB, nC])
    refine Seq.loadAt rfl rfl rfl rfl (by repeat (first | exact mC | apply mT)) (n := 3) (cs' := RC p4) (Nat.le_of_ble_eq_true rfl) (by kernel_rfl) rfl ?_
    simp only [Act.put, nA, nB, nC]
    refine Seq.call rfl rfl rfl rfl (by kernel_rfl) (cmp_wq (k := (1 * k + 2)) HT.out (Z_f2.out.more (by omega)) (Z_p4.out.more (by omega)) Cb1.out (by omega)) ?_
    simp only [Act.put, nA, nB, nC]
    iterate 2 (refine Seq.pure rfl rfl (by intro w; go_simp; try rfl) ?_; simp only [Act.put, nA, nB, nC])
    refine Seq.done fun ws10 hws => ?_
    have HS10 := hws.st
    clear HS9 hws
    go_upto_region 8 with (fail)
    refine wp_seq_text [] (StR.no HS10) ?_
    refine Seq.pure (v := .int .i64 2) rfl rfl (by intro w; go_simp; try rfl) ?_
    simp only [Act.put, nA, nB, nC]
    refine Seq.pure rfl rfl (by intro w; go_simp; try rfl) ?_
    simp only [Act.put, nA, nB, nC]
    refine Seq.done fun ws11 hws => ?_
    have HS11 := hws.st
    clear HS10 hws
    go_wp2_with fail
    rw [rounds_succ]
    go_upto_region 4 with (fail)
    refine wp_seq_text [] (StR.no HS11) ?_
    refine Seq.pure rfl rfl (by intro w; go_simp; try rfl) ?_
    simp only [Act.put, nA, nB, nC]
    refine Seq.done fun ws12 hws => ?_
    have HS12 := hws.st
    clear HS11 hws
    go_upto_region 5 with (fail)
    refine wp_seq_text [] (StR.no HS12) ?_
    refine Seq.pure rfl rfl (by intro w; go_simp; try rfl) ?_
    simp only [Act.put, nA, nB, nC]
    refine Seq.pure (v := .agg (RT.c ft_t)) rfl rfl (by intro w; unfold TW; go_simp; try first | with_reducible rfl | rfl) ?_
    simp only [Act.put, nA, nB, nC]
    refine Seq.alloc rfl rfl rfl (z := .agg (RT.c rz0)) (by kernel_rfl) rfl ?_
    intro bk6_2 _ _ hbk6_2_r
    simp only [Act.put, nA, nB, nC]
    refine Seq.pure rfl rfl (by intro w; go_simp; try rfl) ?_
    simp only [Act.put, nA, nB, nC]
    refine Seq.store rfl rfl rfl rfl rfl (by repeat (first | exact rS | refine rN (by assumption) ?_)) (n := 3) rfl rfl (by kernel_rfl) (RT_one _) ?_
    simp only [Act.put, nA, nB, nC]
    refine Seq.done fun ws13 hws => ?_
    have HS13 := hws.list1 (p := bk6_2) (by repeat (first | exact rS | refine rN (by assumption) ?_))
    clear HS12 hws
    go_upto_region 6 with (fail)
    refine wp_seq [] (by kernel_rfl) (by kernel_rfl) Reg.fin_no (StR.no HS13) ?_
    refine Seq.load rfl rfl rfl rfl (by repeat (first | exact mC | apply mT)) (n := 3) rfl (by kernel_rfl) ?_
    simp only [Act.put, nA, nB, nC]
    iterate 3 (refine Seq.pure rfl rfl (by intro w; go_simp; try rfl) ?_; simp only [Act.put, nA, nB, nC])
    refine Seq.loadAt rfl rfl rfl rfl (by repeat (first | exact mC | apply mT)) (n := 3) (cs' := RC p5) (Nat.le_of_ble_eq_true rfl) (by kernel_rfl) rfl ?_
    simp only [Act.put, nA, nB, nC]
    refine Seq.call rfl rfl rfl rfl (by kernel_rfl) (cmp_wq (k := (1 * k + 2)) HT.out (Z_ft.out.more (by omega)) (Z_p5.out.more (by omega)) Ca2.out (by omega)) ?_
    simp only [Act.put, nA, nB, nC]
    iterate 2 (refine Seq.pure rfl rfl (by intro w; go_simp; try rfl) ?_; simp only [Act.put, nA, nB, nC])
    iterate 7 (refine Seq.nw rfl ?_; simp only [Act.put, nA, nB, nC])
    refine Seq.pure rfl rfl (by intro w; go_simp; try rfl) ?_
    simp only [Act.put, nA, nB, nC]
    refine Seq.done fun ws14 hws => ?_
    have HS14 := hws.st
    clear HS13 hws
    go_upto_region 7 with (fail)
    refine wp_seq_text [] (StR.no HS14) ?_
    refine Seq.pure rfl rfl (by intro w; go_simp; try rfl) ?_
    simp only [Act.put, nA, nB, nC]
    refine Seq.done fun ws15 hws => ?_
    have HS15 := hws.st
    clear HS14 hws
    go_wp2_with fail
    go_ret
    exact ⟨congrArg (fun b => Ending.returned (.bool b)) HB.out, HS15.below⟩
  · have HB := Lib.hid (show false = inQ false p1 p2 p3 p4 p5 p6 f1 f2 ft from by unfold inQ hasQ; symm; simp; grind)
    obtain ⟨va0, hva0, ra0⟩ : ∃ v, cmpQ f1 p1 = v ∧ decide (v < 0) = false := ⟨_, rfl, decide_eq_false (fun h => absurd ((cmpQ_lt _ _).1 h) (by grind))⟩
    have Ca0 := Lib.hid hva0; clear hva0
    obtain ⟨vb0, hvb0, rb0, rb0'⟩ : ∃ v, cmpQ f1 p2 = v ∧ decide (v > 0) = false ∧ decide (0 < v) = false := ⟨_, rfl, decide_eq_false (fun h => absurd ((cmpQ_gt _ _).1 h) (by grind)), decide_eq_false (fun h => absurd ((cmpQ_gt _ _).1 h) (by grind))⟩
    have Cb0 := Lib.hid hvb0; clear hvb0
    obtain ⟨va1, hva1, ra1⟩ : ∃ v, cmpQ f2 p3 = v ∧ decide (v < 0) = false := ⟨_, rfl, decide_eq_false (fun h => absurd ((cmpQ_lt _ _).1 h) (by grind))⟩
    have Ca1 := Lib.hid hva1; clear hva1
    obtain ⟨vb1, hvb1, rb1, rb1'⟩ : ∃ v, cmpQ f2 p4 = v ∧ decide (v > 0) = false ∧ decide (0 < v) = false := ⟨_, rfl, decide_eq_false (fun h => absurd ((cmpQ_gt _ _).1 h) (by grind)), decide_eq_false (fun h => absurd ((cmpQ_gt _ _).1 h) (by grind))⟩
    have Cb1 := Lib.hid hvb1; clear hvb1
    obtain ⟨va2, hva2, ra2⟩ : ∃ v, cmpQ ft p5 = v ∧ decide (v < 0) = false := ⟨_, rfl, decide_eq_false (fun h => absurd ((cmpQ_lt _ _).1 h) (by grind))⟩
    have Ca2 := Lib.hid hva2; clear hva2
    obtain ⟨vb2, hvb2, rb2, rb2'⟩ : ∃ v, cmpQ ft p6 = v ∧ decide (v > 0) = true ∧ decide (0 < v) = true := ⟨_, rfl, decide_eq_true ((cmpQ_gt _ _).2 (by grind)), decide_eq_true ((cmpQ_gt _ _).2 (by grind))⟩
    have Cb2 := Lib.hid hvb2; clear hvb2
    clear hb1 hb2 hb3
    go_enter Tryd.func16, Tryd.ntmps16
    have HS : St w [] w := St.start
    go_upto_region 0 with (fail)
    refine wp_seq_text [] (StR.no HS) ?_
    refine Seq.box rfl rfl rfl (v := .agg (PW (rt p1) (rt p2) (rt p3) (rt p4) (rt p5) (rt p6))) (cs := PW (rt p1) (rt p2) (rt p3) (rt p4) (rt p5) (rt p6)) rfl rfl ?_
    intro bk2 _ _ hbk2_r
    simp only [Act.put, nA, nB, nC]
    refine Seq.box rfl rfl rfl (v := .agg (FW f1_t f2_t false ft_t)) (cs := FW f1_t f2_t false ft_t) rfl rfl ?_
    intro bk3 _ _ hbk3_r
    obtain ⟨ne_bk3_bk2, hbk3_r⟩ := Reg.ne_of_put hbk3_r
    have ne_bk2_bk3 := Ne.symm ne_bk3_bk2
    simp only [Act.put, nA, nB, nC]
    refine Seq.pure rfl rfl (by intro w; go_simp; try rfl) ?_
    simp only [Act.put, nA, nB, nC]
    refine Seq.done fun ws1 hws => ?_
    have HS1 := hws.list2 (p := bk2) (q := bk3) (by repeat (first | exact rS | refine rN (by assumption) ?_)) (by repeat (first | exact rS | refine rN (by assumption) ?_)) (by assumption)
    clear HS hws
    go_upto_region 1 with (fail)
    refine wp_seq_text [] (StR.no HS1) ?_
    iterate 2 (refine Seq.pure rfl rfl (by intro w; go_simp; try rfl) ?_; simp only [Act.put, nA, nB, nC])
    refine Seq.loadCell rfl rfl rfl rfl (by repeat (first | exact mC | apply mT)) (v := .bool false) rfl (by kernel_rfl) rfl ?_
    simp only [Act.put, nA, nB, nC]
    refine Seq.done fun ws2 hws => ?_
    have HS2 := hws.st
    clear HS1 hws
    go_upto_region 3 with (fail)
    refine wp_seq_text [] (StR.no HS2) ?_
    refine Seq.load rfl rfl rfl rfl (by repeat (first | exact mC | apply mT)) (n := 10) rfl (by kernel_rfl) ?_
    simp only [Act.put, nA, nB, nC]
    refine Seq.call rfl rfl rfl rfl (by kernel_rfl) (frames_w (k := (1 * k + 2)) (f1_t := f1_t) (f2_t := f2_t) (ft_t := ft_t) HT.out (Z_f1.out.more (by omega)) (Z_f2.out.more (by omega)) (Z_ft.out.more (by omega))   (by omega) (by omega)) ?_
    simp only [Act.put, nA, nB, nC]
    refine Seq.pure rfl rfl (by intro w; go_simp; try rfl) ?_
    simp only [Act.put, nA, nB, nC]
    refine Seq.done fun ws3 hws => ?_
    have HS3 := hws.st
    clear HS2 hws
    go_wp2_with fail
    refine wp_loop_rounds 4 ?_
    rw [rounds_succ]
    go_upto_region 4 with (fail)
    refine wp_seq_text [] (StR.no HS3) ?_
    refine Seq.pure rfl rfl (by intro w; go_simp; try rfl) ?_
    simp only [Act.put, nA, nB, nC]
    refine Seq.done fun ws4 hws => ?_
    have HS4 := hws.st
    clear HS3 hws
    go_upto_region 5 with (fail)
    refine wp_seq_text [] (StR.no HS4) ?_
    refine Seq.pure rfl rfl (by intro w; go_simp; try rfl) ?_
    simp only [Act.put, nA, nB, nC]
    refine Seq.pure (v := .agg (RT.c f1_t)) rfl rfl (by intro w; unfold TW; go_simp; try first | with_reducible rfl | rfl) ?_
    simp only [Act.put, nA, nB, nC]
    refine Seq.alloc rfl rfl rfl (z := .agg (RT.c rz0)) (by kernel_rfl) rfl ?_
    intro bk6 _ _ hbk6_r
    simp only [Act.put, nA, nB, nC]
    refine Seq.pure rfl rfl (by intro w; go_simp; try rfl) ?_
    simp only [Act.put, nA, nB, nC]
    refine Seq.store rfl rfl rfl rfl rfl (by repeat (first | exact rS | refine rN (by assumption) ?_)) (n := 3) rfl rfl (by kernel_rfl) (RT_one _) ?_
    simp only [Act.put, nA, nB, nC]
    refine Seq.done fun ws5 hws => ?_
    have HS5 := hws.list1 (p := bk6) (by repeat (first | exact rS | refine rN (by assumption) ?_))
    clear HS4 hws
    go_upto_region 6 with (fail)
    refine wp_seq [] (by kernel_rfl) (by kernel_rfl) Reg.fin_no (StR.no HS5) ?_
    refine Seq.load rfl rfl rfl rfl (by repeat (first | exact mC | apply mT)) (n := 3) rfl (by kernel_rfl) ?_
    simp only [Act.put, nA, nB, nC]
    iterate 3 (refine Seq.pure rfl rfl (by intro w; go_simp; try rfl) ?_; simp only [Act.put, nA, nB, nC])
    refine Seq.loadAt rfl rfl rfl rfl (by repeat (first | exact mC | apply mT)) (n := 3) (cs' := RC p1) (Nat.le_of_ble_eq_true rfl) (by kernel_rfl) rfl ?_
    simp only [Act.put, nA, nB, nC]
    refine Seq.call rfl rfl rfl rfl (by kernel_rfl) (cmp_wq (k := (1 * k + 2)) HT.out (Z_f1.out.more (by omega)) (Z_p1.out.more (by omega)) Ca0.out (by omega)) ?_
    simp only [Act.put, nA, nB, nC]
    iterate 2 (refine Seq.pure rfl rfl (by intro w; go_simp; try rfl) ?_; simp only [Act.put, nA, nB, nC])
    refine Seq.load rfl rfl rfl rfl (by repeat (first | exact mC | apply mT)) (n := 3) rfl (by kernel_rfl) ?_
    simp only [Act.put, nA, nB, nC]
    iterate 3 (refine Seq.pure rfl rfl (by intro w; go_simp; try rfl) ?_; simp only [Act.put, nA, nB, nC])
    refine Seq.loadAt rfl rfl rfl rfl (by repeat (first | exact mC | apply mT)) (n := 3) (cs' := RC p2) (Nat.le_of_ble_eq_true rfl) (by kernel_rfl) rfl ?_
    simp only [Act.put, nA, nB, nC]
    refine Seq.call rfl rfl rfl rfl (by kernel_rfl) (cmp_wq (k := (1 * k + 2)) HT.out (Z_f1.out.more (by omega)) (Z_p2.out.more (by omega)) Cb0.out (by omega)) ?_
    simp only [Act.put, nA, nB, nC]
    iterate 2 (refine Seq.pure rfl rfl (by intro w; go_simp; try rfl) ?_; simp only [Act.put, nA, nB, nC])
    refine Seq.done fun ws6 hws => ?_
    have HS6 := hws.st
    clear HS5 hws
    go_upto_region 8 with (fail)
    refine wp_seq_text [] (StR.no HS6) ?_
    refine Seq.pure (v := .int .i64 1) rfl rfl (by intro w; go_simp; try rfl) ?_
    simp only [Act.put, nA, nB, nC]
    refine Seq.pure rfl rfl (by intro w; go_simp; try rfl) ?_
    simp only [Act.put, nA, nB, nC]
    refine Seq.done fun ws7 hws => ?_
    have HS7 := hws.st
    clear HS6 hws
    go_wp2_with fail
    rw [rounds_succ]
    go_upto_region 4 with (fail)
    refine wp_seq_text [] (StR.no HS7) ?_
    refine Seq.pure rfl rfl (by intro w; go_simp; try rfl) ?_
    simp only [Act.put, nA, nB, nC]
    refine Seq.done fun ws8 hws => ?_
    have HS8 := hws.st
    clear HS7 hws
    go_upto_region 5 with (fail)
    refine wp_seq_text [] (StR.no HS8) ?_
    refine Seq.pure rfl rfl (by intro w; go_simp; try rfl) ?_
    simp only [Act.put, nA, nB, nC]
    refine Seq.pure (v := .agg (RT.c f2_t)) rfl rfl (by intro w; unfold TW; go_simp; try first | with_reducible rfl | rfl) ?_
    simp only [Act.put, nA, nB, nC]
    refine Seq.alloc rfl rfl rfl (z := .agg (RT.c rz0)) (by kernel_rfl) rfl ?_
    intro bk6_1 _ _ hbk6_1_r
    simp only [Act.put, nA, nB, nC]
    refine Seq.pure rfl rfl (by intro w; go_simp; try rfl) ?_
    simp only [Act.put, nA, nB, nC]
    refine Seq.store rfl rfl rfl rfl rfl (by repeat (first | exact rS | refine rN (by assumption) ?_)) (n := 3) rfl rfl (by kernel_rfl) (RT_one _) ?_
    simp only [Act.put, nA, nB, nC]
    refine Seq.done fun ws9 hws => ?_
    have HS9 := hws.list1 (p := bk6_1) (by repeat (first | exact rS | refine rN (by assumption) ?_))
    clear HS8 hws
    go_upto_region 6 with (fail)
    refine wp_seq [] (by kernel_rfl) (by kernel_rfl) Reg.fin_no (StR.no HS9) ?_
    refine Seq.load rfl rfl rfl rfl (by repeat (first | exact mC | apply mT)) (n := 3) rfl (by kernel_rfl) ?_
    simp only [Act.put, nA, nB, nC]
    iterate 3 (refine Seq.pure rfl rfl (by intro w; go_simp; try rfl) ?_; simp only [Act.put, nA, nB, nC])
    refine Seq.loadAt rfl rfl rfl rfl (by repeat (first | exact mC | apply mT)) (n := 3) (cs' := RC p3) (Nat.le_of_ble_eq_true rfl) (by kernel_rfl) rfl ?_
    simp only [Act.put, nA, nB, nC]
    refine Seq.call rfl rfl rfl rfl (by kernel_rfl) (cmp_wq (k := (1 * k + 2)) HT.out (Z_f2.out.more (by omega)) (Z_p3.out.more (by omega)) Ca1.out (by omega)) ?_
    simp only [Act.put, nA, nB, nC]
    iterate 2 (refine Seq.pure rfl rfl (by intro w; go_simp; try rfl) ?_; simp only [Act.put, nA, nB, nC])
    refine Seq.load rfl rfl rfl rfl (by repeat (first | exact mC | apply mT)) (n := 3) rfl (by kernel_rfl) ?_
    simp only [Act.put, nA, nB, nC]
    iterate 3 (refine Seq.pure rfl rfl (by intro w; go_simp; try rfl) ?_; simp only [Act.put, nA, nB, nC])
    refine Seq.loadAt rfl rfl rfl rfl (by repeat (first | exact mC | apply mT)) (n := 3) (cs' := RC p4) (Nat.le_of_ble_eq_true rfl) (by kernel_rfl) rfl ?_
    simp only [Act.put, nA, nB, nC]
    refine Seq.call rfl rfl rfl rfl (by kernel_rfl) (cmp_wq (k := (1 * k + 2)) HT.out (Z_f2.out.more (by omega)) (Z_p4.out.more (by omega)) Cb1.out (by omega)) ?_
    simp only [Act.put, nA, nB, nC]
    iterate 2 (refine Seq.pure rfl rfl (by intro w; go_simp; try rfl) ?_; simp only [Act.put, nA, nB, nC])
    refine Seq.done fun ws10 hws => ?_
    have HS10 := hws.st
    clear HS9 hws
    go_upto_region 8 with (fail)
    refine wp_seq_text [] (StR.no HS10) ?_
    refine Seq.pure (v := .int .i64 2) rfl rfl (by intro w; go_simp; try rfl) ?_
    simp only [Act.put, nA, nB, nC]
    refine Seq.pure rfl rfl (by intro w; go_simp; try rfl) ?_
    simp only [Act.put, nA, nB, nC]
    refine Seq.done fun ws11 hws => ?_
    have HS11 := hws.st
    clear HS10 hws
    go_wp2_with fail
    rw [rounds_succ]
    go_upto_region 4 with (fail)
    refine wp_seq_text [] (StR.no HS11) ?_
    refine Seq.pure rfl rfl (by intro w; go_simp; try rfl) ?_
    simp only [Act.put, nA, nB, nC]
    refine Seq.done fun ws12 hws => ?_
    have HS12 := hws.st
    clear HS11 hws
    go_upto_region 5 with (fail)
    refine wp_seq_text [] (StR.no HS12) ?_
    refine Seq.pure rfl rfl (by intro w; go_simp; try rfl) ?_
    simp only [Act.put, nA, nB, nC]
    refine Seq.pure (v := .agg (RT.c ft_t)) rfl rfl (by intro w; unfold TW; go_simp; try first | with_reducible rfl | rfl) ?_
    simp only [Act.put, nA, nB, nC]
    refine Seq.alloc rfl rfl rfl (z := .agg (RT.c rz0)) (by kernel_rfl) rfl ?_
    intro bk6_2 _ _ hbk6_2_r
    simp only [Act.put, nA, nB, nC]
    refine Seq.pure rfl rfl (by intro w; go_simp; try rfl) ?_
    simp only [Act.put, nA, nB, nC]
    refine Seq.store rfl rfl rfl rfl rfl (by repeat (first | exact rS | refine rN (by assumption) ?_)) (n := 3) rfl rfl (by kernel_rfl) (RT_one _) ?_
    simp only [Act.put, nA, nB, nC]
    refine Seq.done fun ws13 hws => ?_
    have HS13 := hws.list1 (p := bk6_2) (by repeat (first | exact rS | refine rN (by assumption) ?_))
    clear HS12 hws
    go_upto_region 6 with (fail)
    refine wp_seq [] (by kernel_rfl) (by kernel_rfl) Reg.fin_no (StR.no HS13) ?_
    refine Seq.load rfl rfl rfl rfl (by repeat (first | exact mC | apply mT)) (n := 3) rfl (by kernel_rfl) ?_
    simp only [Act.put, nA, nB, nC]
    iterate 3 (refine Seq.pure rfl rfl (by intro w; go_simp; try rfl) ?_; simp only [Act.put, nA, nB, nC])
    refine Seq.loadAt rfl rfl rfl rfl (by repeat (first | exact mC | apply mT)) (n := 3) (cs' := RC p5) (Nat.le_of_ble_eq_true rfl) (by kernel_rfl) rfl ?_
    simp only [Act.put, nA, nB, nC]
    refine Seq.call rfl rfl rfl rfl (by kernel_rfl) (cmp_wq (k := (1 * k + 2)) HT.out (Z_ft.out.more (by omega)) (Z_p5.out.more (by omega)) Ca2.out (by omega)) ?_
    simp only [Act.put, nA, nB, nC]
    iterate 2 (refine Seq.pure rfl rfl (by intro w; go_simp; try rfl) ?_; simp only [Act.put, nA, nB, nC])
    refine Seq.load rfl rfl rfl rfl (by repeat (first | exact mC | apply mT)) (n := 3) rfl (by kernel_rfl) ?_
    simp only [Act.put, nA, nB, nC]
    iterate 3 (refine Seq.pure rfl rfl (by intro w; go_simp; try rfl) ?_; simp only [Act.put, nA, nB, nC])
    refine Seq.loadAt rfl rfl rfl rfl (by repeat (first | exact mC | apply mT)) (n := 3) (cs' := RC p6) (Nat.le_of_ble_eq_true rfl) (by kernel_rfl) rfl ?_
    simp only [Act.put, nA, nB, nC]
    refine Seq.call rfl rfl rfl rfl (by kernel_rfl) (cmp_wq (k := (1 * k + 2)) HT.out (Z_ft.out.more (by omega)) (Z_p6.out.more (by omega)) Cb2.out (by omega)) ?_
    simp only [Act.put, nA, nB, nC]
    iterate 2 (refine Seq.pure rfl rfl (by intro w; go_simp; try rfl) ?_; simp only [Act.put, nA, nB, nC])
    refine Seq.done fun ws14 hws => ?_
    have HS14 := hws.st
    clear HS13 hws
    go_upto_region 7 with (fail)
    refine wp_seq_text [] (StR.no HS14) ?_
    refine Seq.pure rfl rfl (by intro w; go_simp; try rfl) ?_
    simp only [Act.put, nA, nB, nC]
    refine Seq.done fun ws15 hws => ?_
    have HS15 := hws.st
    clear HS14 hws
    go_wp2_with fail
    go_ret
    exact ⟨congrArg (fun b => Ending.returned (.bool b)) HB.out, HS15.below⟩
  · have HB := Lib.hid (show true = inQ false p1 p2 p3 p4 p5 p6 f1 f2 ft from by unfold inQ hasQ; symm; simp; grind)
    obtain ⟨va0, hva0, ra0⟩ : ∃ v, cmpQ f1 p1 = v ∧ decide (v < 0) = false := ⟨_, rfl, decide_eq_false (fun h => absurd ((cmpQ_lt _ _).1 h) (by grind))⟩
    have Ca0 := Lib.hid hva0; clear hva0
    obtain ⟨vb0, hvb0, rb0, rb0'⟩ : ∃ v, cmpQ f1 p2 = v ∧ decide (v > 0) = false ∧ decide (0 < v) = false := ⟨_, rfl, decide_eq_false (fun h => absurd ((cmpQ_gt _ _).1 h) (by grind)), decide_eq_false (fun h => absurd ((cmpQ_gt _ _).1 h) (by grind))⟩
    have Cb0 := Lib.hid hvb0; clear hvb0
    obtain ⟨va1, hva1, ra1⟩ : ∃ v, cmpQ f2 p3 = v ∧ decide (v < 0) = false := ⟨_, rfl, decide_eq_false (fun h => absurd ((cmpQ_lt _ _).1 h) (by grind))⟩
    have Ca1 := Lib.hid hva1; clear hva1
    obtain ⟨vb1, hvb1, rb1, rb1'⟩ : ∃ v, cmpQ f2 p4 = v ∧ decide (v > 0) = false ∧ decide (0 < v) = false := ⟨_, rfl, decide_eq_false (fun h => absurd ((cmpQ_gt _ _).1 h) (by grind)), decide_eq_false (fun h => absurd ((cmpQ_gt _ _).1 h) (by grind))⟩
    have Cb1 := Lib.hid hvb1; clear hvb1
    obtain ⟨va2, hva2, ra2⟩ : ∃ v, cmpQ ft p5 = v ∧ decide (v < 0) = false := ⟨_, rfl, decide_eq_false (fun h => absurd ((cmpQ_lt _ _).1 h) (by grind))⟩
    have Ca2 := Lib.hid hva2; clear hva2
    obtain ⟨vb2, hvb2, rb2, rb2'⟩ : ∃ v, cmpQ ft p6 = v ∧ decide (v > 0) = false ∧ decide (0 < v) = false := ⟨_, rfl, decide_eq_false (fun h => absurd ((cmpQ_gt _ _).1 h) (by grind)), decide_eq_false (fun h => absurd ((cmpQ_gt _ _).1 h) (by grind))⟩
    have Cb2 := Lib.hid hvb2; clear hvb2
    clear hb1 hb2 hb3
    go_enter Tryd.func16, Tryd.ntmps16
    have HS : St w [] w := St.start
    go_upto_region 0 with (fail)
    refine wp_seq_text [] (StR.no HS) ?_
    refine Seq.box rfl rfl rfl (v := .agg (PW (rt p1) (rt p2) (rt p3) (rt p4) (rt p5) (rt p6))) (cs := PW (rt p1) (rt p2) (rt p3) (rt p4) (rt p5) (rt p6)) rfl rfl ?_
    intro bk2 _ _ hbk2_r
    simp only [Act.put, nA, nB, nC]
    refine Seq.box rfl rfl rfl (v := .agg (FW f1_t f2_t false ft_t)) (cs := FW f1_t f2_t false ft_t) rfl rfl ?_
    intro bk3 _ _ hbk3_r
    obtain ⟨ne_bk3_bk2, hbk3_r⟩ := Reg.ne_of_put hbk3_r
    have ne_bk2_bk3 := Ne.symm ne_bk3_bk2
    simp only [Act.put, nA, nB, nC]
    refine Seq.pure rfl rfl (by intro w; go_simp; try rfl) ?_
    simp only [Act.put, nA, nB, nC]
    refine Seq.done fun ws1 hws => ?_
    have HS1 := hws.list2 (p := bk2) (q := bk3) (by repeat (first | exact rS | refine rN (by assumption) ?_)) (by repeat (first | exact rS | refine rN (by assumption) ?_)) (by assumption)
    clear HS hws
    go_upto_region 1 with (fail)
    refine wp_seq_text [] (StR.no HS1) ?_
    iterate 2 (refine Seq.pure rfl rfl (by intro w; go_simp; try rfl) ?_; simp only [Act.put, nA, nB, nC])
    refine Seq.loadCell rfl rfl rfl rfl (by repeat (first | exact mC | apply mT)) (v := .bool false) rfl (by kernel_rfl) rfl ?_
    simp only [Act.put, nA, nB, nC]
    refine Seq.done fun ws2 hws => ?_
    have HS2 := hws.st
    clear HS1 hws
    go_upto_region 3 with (fail)
    refine wp_seq_text [] (StR.no HS2) ?_
    refine Seq.load rfl rfl rfl rfl (by repeat (first | exact mC | apply mT)) (n := 10) rfl (by kernel_rfl) ?_
    simp only [Act.put, nA, nB, nC]
    refine Seq.call rfl rfl rfl rfl (by kernel_rfl) (frames_w (k := (1 * k + 2)) (f1_t := f1_t) (f2_t := f2_t) (ft_t := ft_t) HT.out (Z_f1.out.more (by omega)) (Z_f2.out.more (by omega)) (Z_ft.out.more (by omega))   (by omega) (by omega)) ?_
    simp only [Act.put, nA, nB, nC]
    refine Seq.pure rfl rfl (by intro w; go_simp; try rfl) ?_
    simp only [Act.put, nA, nB, nC]
    refine Seq.done fun ws3 hws => ?_
    have HS3 := hws.st
    clear HS2 hws
    go_wp2_with fail
    refine wp_loop_rounds 4 ?_
    rw [rounds_succ]
    go_upto_region 4 with (fail)
    refine wp_seq_text [] (StR.no HS3) ?_
    refine Seq.pure rfl rfl (by intro w; go_simp; try rfl) ?_
    simp only [Act.put, nA, nB, nC]
    refine Seq.done fun ws4 hws => ?_
    have HS4 := hws.st
    clear HS3 hws
    go_upto_region 5 with (fail)
    refine wp_seq_text [] (StR.no HS4) ?_
    refine Seq.pure rfl rfl (by intro w; go_simp; try rfl) ?_
    simp only [Act.put, nA, nB, nC]
    refine Seq.pure (v := .agg (RT.c f1_t)) rfl rfl (by intro w; unfold TW; go_simp; try first | with_reducible rfl | rfl) ?_
    simp only [Act.put, nA, nB, nC]
    refine Seq.alloc rfl rfl rfl (z := .agg (RT.c rz0)) (by kernel_rfl) rfl ?_
    intro bk6 _ _ hbk6_r
    simp only [Act.put, nA, nB, nC]
    refine Seq.pure rfl rfl (by intro w; go_simp; try rfl) ?_
    simp only [Act.put, nA, nB, nC]
    refine Seq.store rfl rfl rfl rfl rfl (by repeat (first | exact rS | refine rN (by assumption) ?_)) (n := 3) rfl rfl (by kernel_rfl) (RT_one _) ?_
    simp only [Act.put, nA, nB, nC]
    refine Seq.done fun ws5 hws => ?_
    have HS5 := hws.list1 (p := bk6) (by repeat (first | exact rS | refine rN (by assumption) ?_))
    clear HS4 hws
    go_upto_region 6 with (fail)
    refine wp_seq [] (by kernel_rfl) (by kernel_rfl) Reg.fin_no (StR.no HS5) ?_
    refine Seq.load rfl rfl rfl rfl (by repeat (first | exact mC | apply mT)) (n := 3) rfl (by kernel_rfl) ?_
    simp only [Act.put, nA, nB, nC]
    iterate 3 (refine Seq.pure rfl rfl (by intro w; go_simp; try rfl) ?_; simp only [Act.put, nA, nB, nC])
    refine Seq.loadAt rfl rfl rfl rfl (by repeat (first | exact mC | apply mT)) (n := 3) (cs' := RC p1) (Nat.le_of_ble_eq_true rfl) (by kernel_rfl) rfl ?_
    simp only [Act.put, nA, nB, nC]
    refine Seq.call rfl rfl rfl rfl (by kernel_rfl) (cmp_wq (k := (1 * k + 2)) HT.out (Z_f1.out.more (by omega)) (Z_p1.out.more (by omega)) Ca0.out (by omega)) ?_
    simp only [Act.put, nA, nB, nC]
    iterate 2 (refine Seq.pure rfl rfl (by intro w; go_simp; try rfl) ?_; simp only [Act.put, nA, nB, nC])
    refine Seq.load rfl rfl rfl rfl (by repeat (first | exact mC | apply mT)) (n := 3) rfl (by kernel_rfl) ?_
    simp only [Act.put, nA, nB, nC]
    iterate 3 (refine Seq.pure rfl rfl (by intro w; go_simp; try rfl) ?_; simp only [Act.put, nA, nB, nC])
    refine Seq.loadAt rfl rfl rfl rfl (by repeat (first | exact mC | apply mT)) (n := 3) (cs' := RC p2) (Nat.le_of_ble_eq_true rfl) (by kernel_rfl) rfl ?_
    simp only [Act.put, nA, nB, nC]
    refine Seq.call rfl rfl rfl rfl (by kernel_rfl) (cmp_wq (k := (1 * k + 2)) HT.out (Z_f1.out.more (by omega)) (Z_p2.out.more (by omega)) Cb0.out (by omega)) ?_
    simp only [Act.put, nA, nB, nC]
    iterate 2 (refine Seq.pure rfl rfl (by intro w; go_simp; try rfl) ?_; simp only [Act.put, nA, nB, nC])
    refine Seq.done fun ws6 hws => ?_
    have HS6 := hws.st
    clear HS5 hws
    go_upto_region 8 with (fail)
    refine wp_seq_text [] (StR.no HS6) ?_
    refine Seq.pure (v := .int .i64 1) rfl rfl (by intro w; go_simp; try rfl) ?_
    simp only [Act.put, nA, nB, nC]
    refine Seq.pure rfl rfl (by intro w; go_simp; try rfl) ?_
    simp only [Act.put, nA, nB, nC]
    refine Seq.done fun ws7 hws => ?_
    have HS7 := hws.st
    clear HS6 hws
    go_wp2_with fail
    rw [rounds_succ]
    go_upto_region 4 with (fail)
    refine wp_seq_text [] (StR.no HS7) ?_
    refine Seq.pure rfl rfl (by intro w; go_simp; try rfl) ?_
    simp only [Act.put, nA, nB, nC]
    refine Seq.done fun ws8 hws => ?_
    have HS8 := hws.st
    clear HS7 hws
    go_upto_region 5 with (fail)
    refine wp_seq_text [] (StR.no HS8) ?_
    refine Seq.pure rfl rfl (by intro w; go_simp; try rfl) ?_
    simp only [Act.put, nA, nB, nC]
    refine Seq.pure (v := .agg (RT.c f2_t)) rfl rfl (by intro w; unfold TW; go_simp; try first | with_reducible rfl | rfl) ?_
    simp only [Act.put, nA, nB, nC]
    refine Seq.alloc rfl rfl rfl (z := .agg (RT.c rz0)) (by kernel_rfl) rfl ?_
    intro bk6_1 _ _ hbk6_1_r
    simp only [Act.put, nA, nB, nC]
    refine Seq.pure rfl rfl (by intro w; go_simp; try rfl) ?_
    simp only [Act.put, nA, nB, nC]
    refine Seq.store rfl rfl rfl rfl rfl (by repeat (first | exact rS | refine rN (by assumption) ?_)) (n := 3) rfl rfl (by kernel_rfl) (RT_one _) ?_
    simp only [Act.put, nA, nB, nC]
    refine Seq.done fun ws9 hws => ?_
    have HS9 := hws.list1 (p := bk6_1) (by repeat (first | exact rS | refine rN (by assumption) ?_))
    clear HS8 hws
    go_upto_region 6 with (fail)
    refine wp_seq [] (by kernel_rfl) (by kernel_rfl) Reg.fin_no (StR.no HS9) ?_
    refine Seq.load rfl rfl rfl rfl (by repeat (first | exact mC | apply mT)) (n := 3) rfl (by kernel_rfl) ?_
    simp only [Act.put, nA, nB, nC]
    iterate 3 (refine Seq.pure rfl rfl (by intro w; go_simp; try rfl) ?_; simp only [Act.put, nA, nB, nC])
    refine Seq.loadAt rfl rfl rfl rfl (by repeat (first | exact mC | apply mT)) (n := 3) (cs' := RC p3) (Nat.le_of_ble_eq_true rfl) (by kernel_rfl) rfl ?_
    simp only [Act.put, nA, nB, nC]
    refine Seq.call rfl rfl rfl rfl (by kernel_rfl) (cmp_wq (k := (1 * k + 2)) HT.out (Z_f2.out.more (by omega)) (Z_p3.out.more (by omega)) Ca1.out (by omega)) ?_
    simp only [Act.put, nA, nB, nC]
    iterate 2 (refine Seq.pure rfl rfl (by intro w; go_simp; try rfl) ?_; simp only [Act.put, nA, nB, nC])
    refine Seq.load rfl rfl rfl rfl (by repeat (first | exact mC | apply mT)) (n := 3) rfl (by kernel_rfl) ?_
    simp only [Act.put, nA, nB, nC]
    iterate 3 (refine Seq.pure rfl rfl (by intro w; go_simp; try rfl) ?_; simp only [Act.put, nA, nB, nC])
    refine Seq.loadAt rfl rfl rfl rfl (by repeat (first | exact mC | apply mT)) (n := 3) (cs' := RC p4) (Nat.le_of_ble_eq_true rfl) (by kernel_rfl) rfl ?_
    simp only [Act.put, nA, nB, nC]
    refine Seq.call rfl rfl rfl rfl (by kernel_rfl) (cmp_wq (k := (1 * k + 2)) HT.out (Z_f2.out.more (by omega)) (Z_p4.out.more (by omega)) Cb1.out (by omega)) ?_
    simp only [Act.put, nA, nB, nC]
    iterate 2 (refine Seq.pure rfl rfl (by intro w; go_simp; try rfl) ?_; simp only [Act.put, nA, nB, nC])
    refine Seq.done fun ws10 hws => ?_
    have HS10 := hws.st
    clear HS9 hws
    go_upto_region 8 with (fail)
    refine wp_seq_text [] (StR.no HS10) ?_
    refine Seq.pure (v := .int .i64 2) rfl rfl (by intro w; go_simp; try rfl) ?_
    simp only [Act.put, nA, nB, nC]
    refine Seq.pure rfl rfl (by intro w; go_simp; try rfl) ?_
    simp only [Act.put, nA, nB, nC]
    refine Seq.done fun ws11 hws => ?_
    have HS11 := hws.st
    clear HS10 hws
    go_wp2_with fail
    rw [rounds_succ]
    go_upto_region 4 with (fail)
    refine wp_seq_text [] (StR.no HS11) ?_
    refine Seq.pure rfl rfl (by intro w; go_simp; try rfl) ?_
    simp only [Act.put, nA, nB, nC]
    refine Seq.done fun ws12 hws => ?_
    have HS12 := hws.st
    clear HS11 hws
    go_upto_region 5 with (fail)
    refine wp_seq_text [] (StR.no HS12) ?_
    refine Seq.pure rfl rfl (by intro w; go_simp; try rfl) ?_
    simp only [Act.put, nA, nB, nC]
    refine Seq.pure (v := .agg (RT.c ft_t)) rfl rfl (by intro w; unfold TW; go_simp; try first | with_reducible rfl | rfl) ?_
    simp only [Act.put, nA, nB, nC]
    refine Seq.alloc rfl rfl rfl (z := .agg (RT.c rz0)) (by kernel_rfl) rfl ?_
    intro bk6_2 _ _ hbk6_2_r
    simp only [Act.put, nA, nB, nC]
    refine Seq.pure rfl rfl (by intro w; go_simp; try rfl) ?_
    simp only [Act.put, nA, nB, nC]
    refine Seq.store rfl rfl rfl rfl rfl (by repeat (first | exact rS | refine rN (by assumption) ?_)) (n := 3) rfl rfl (by kernel_rfl) (RT_one _) ?_
    simp only [Act.put, nA, nB, nC]
    refine Seq.done fun ws13 hws => ?_
    have HS13 := hws.list1 (p := bk6_2) (by repeat (first | exact rS | refine rN (by assumption) ?_))
    clear HS12 hws
    go_upto_region 6 with (fail)
    refine wp_seq [] (by kernel_rfl) (by kernel_rfl) Reg.fin_no (StR.no HS13) ?_
    refine Seq.load rfl rfl rfl rfl (by repeat (first | exact mC | apply mT)) (n := 3) rfl (by kernel_rfl) ?_
    simp only [Act.put, nA, nB, nC]
    iterate 3 (refine Seq.pure rfl rfl (by intro w; go_simp; try rfl) ?_; simp only [Act.put, nA, nB, nC])
    refine Seq.loadAt rfl rfl rfl rfl (by repeat (first | exact mC | apply mT)) (n := 3) (cs' := RC p5) (Nat.le_of_ble_eq_true rfl) (by kernel_rfl) rfl ?_
    simp only [Act.put, nA, nB, nC]
    refine Seq.call rfl rfl rfl rfl (by kernel_rfl) (cmp_wq (k := (1 * k + 2)) HT.out (Z_ft.out.more (by omega)) (Z_p5.out.more (by omega)) Ca2.out (by omega)) ?_
    simp only [Act.put, nA, nB, nC]
    iterate 2 (refine Seq.pure rfl rfl (by intro w; go_simp; try rfl) ?_; simp only [Act.put, nA, nB, nC])
    refine Seq.load rfl rfl rfl rfl (by repeat (first | exact mC | apply mT)) (n := 3) rfl (by kernel_rfl) ?_
    simp only [Act.put, nA, nB, nC]
    iterate 3 (refine Seq.pure rfl rfl (by intro w; go_simp; try rfl) ?_; simp only [Act.put, nA, nB, nC])
    refine Seq.loadAt rfl rfl rfl rfl (by repeat (first | exact mC | apply mT)) (n := 3) (cs' := RC p6) (Nat.le_of_ble_eq_true rfl) (by kernel_rfl) rfl ?_
    simp only [Act.put, nA, nB, nC]
    refine Seq.call rfl rfl rfl rfl (by kernel_rfl) (cmp_wq (k := (1 * k + 2)) HT.out (Z_ft.out.more (by omega)) (Z_p6.out.more (by omega)) Cb2.out (by omega)) ?_
    simp only [Act.put, nA, nB, nC]
    iterate 2 (refine Seq.pure rfl rfl (by intro w; go_simp; try rfl) ?_; simp only [Act.put, nA, nB, nC])
    refine Seq.done fun ws14 hws => ?_
    have HS14 := hws.st
    clear HS13 hws
    go_upto_region 8 with (fail)
    refine wp_seq_text [] (StR.no HS14) ?_
    refine Seq.pure (v := .int .i64 3) rfl rfl (by intro w; go_simp; try rfl) ?_
    simp only [Act.put, nA, nB, nC]
    refine Seq.pure rfl rfl (by intro w; go_simp; try rfl) ?_
    simp only [Act.put, nA, nB, nC]
    refine Seq.done fun ws15 hws => ?_
    have HS15 := hws.st
    clear HS14 hws
    go_wp2_with fail
    rw [rounds_succ]
    go_upto_region 4 with (fail)
    refine wp_seq_text [] (StR.no HS15) ?_
    refine Seq.pure rfl rfl (by intro w; go_simp; try rfl) ?_
    simp only [Act.put, nA, nB, nC]
    refine Seq.done fun ws16 hws => ?_
    have HS16 := hws.st
    clear HS15 hws
    go_upto_region 9 with (fail)
    refine wp_seq_text [] (StR.no HS16) ?_
    refine Seq.pure rfl rfl (by intro w; go_simp; try rfl) ?_
    simp only [Act.put, nA, nB, nC]
    refine Seq.done fun ws17 hws => ?_
    have HS17 := hws.st
    clear HS16 hws
    go_wp2_with fail
    go_ret
    exact ⟨congrArg (fun b => Ending.returned (.bool b)) HB.out, HS17.below⟩
end Go.Proofs.YtdhhbpnnahdofaaDoor
