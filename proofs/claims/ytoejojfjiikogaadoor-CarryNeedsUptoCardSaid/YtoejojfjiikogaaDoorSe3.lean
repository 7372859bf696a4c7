/- wide, Widen, WideOf, meet, within, Inside, Same. -/
import Derived.Test.YtoejojfjiikogaaDoorSe2
import Derived.LoopN

namespace Go.Proofs.YtoejojfjiikogaaDoor
open Go.RowKit
set_option linter.unusedVariables false
set_option linter.unusedSimpArgs false

theorem maxQ_pos {b : Rat} (h : 0 < b) : maxQ b 0 = b := by unfold maxQ cmpQ; grind
theorem maxQ_neg {b : Rat} (h : ¬ 0 < b) : maxQ b 0 = 0 := by unfold maxQ cmpQ; grind
theorem maxQ_ge (b : Rat) : 0 ≤ maxQ b 0 := by unfold maxQ cmpQ; grind
theorem wide_le {l h b : Rat} (hl : l ≤ h) : l - maxQ b 0 ≤ h + maxQ b 0 := by
  have := maxQ_ge b
  grind
theorem RawT.pos {k : Nat} {x : Rat} {g : Bool} {t : RT} (h : RawT k x g t) (h0 : 0 < x) : t = rt x := by
  cases g with
  | true => exact h.good
  | false => have := h.bad; subst this; exact absurd h0 (by grind)
theorem sgnQ_pos (x : Rat) : sgnQ x > 0 ↔ 0 < x := cmpQ_gt x 0
/-- the first span is within the second one -/
def wiQ (al ah bl bh : Rat) : Bool := decide (bl ≤ al ∧ ah ≤ bh)
def insQ (a1 a2 a3 a4 a5 a6 b1 b2 b3 b4 b5 b6 : Rat) : Bool := wiQ a1 a2 b1 b2 && wiQ a3 a4 b3 b4 && wiQ a5 a6 b5 b6
set_option maxHeartbeats 2000000 in
set_option maxRecDepth 20000 in
theorem wide_w {k : Nat} {al ah : Rat} {ag : Bool} {a1 a2 : RT} {b : Rat} {b_g : Bool} {b_t : RT} {z0 : Rat} {z1 : Rat} {W : World} {l : List Own} (hT : Tab W) (Za : RawS k al ah ag a1 a2) (Zb : RawT k b b_g b_t) (hz0 : al - (maxQ b 0) = z0) (hz1 : ah + (maxQ b 0) = z1) (hk0 : 2 ≤ k) (hk : k ≤ 999999999996) (w : World) (h : St W l w) :
    Calls Tryd.prog 80 #[.agg (SW a1 a2), .agg (RT.c b_t)] w fun e w' => e = .returned (.agg (VC z0 z1)) ∧ Below w.heap.size w w' := by
  subst hz0
  subst hz1
  have HT := Lib.hid (tabS hT h); clear hT h
  have Z_a := Lib.hid Za; clear Za
  have Z_b := Lib.hid Zb; clear Zb
  go_enter Tryd.func80, Tryd.ntmps80
  have HS : St w [] w := St.start
  go_upto_region 0 with (fail)
  refine wp_seq_text [] (StR.no HS) ?_
  refine Seq.box rfl rfl rfl (v := .agg (SW a1 a2)) (cs := SW a1 a2) rfl rfl ?_
  intro bk2 _ _ hbk2_r
  simp only [Act.put, nA, nB, nC]
  refine Seq.box rfl rfl rfl (v := .agg (RT.c b_t)) (cs := RT.c b_t) rfl rfl ?_
  intro bk3 _ _ hbk3_r
  obtain ⟨ne_bk3_bk2, hbk3_r⟩ := Reg.ne_of_put hbk3_r
  have ne_bk2_bk3 := Ne.symm ne_bk3_bk2
  simp only [Act.put, nA, nB, nC]
  refine Seq.alloc rfl rfl rfl (z := .agg (SW rz0 rz0)) (by kernel_rfl) rfl ?_
  intro bk4 _ _ hbk4_r
  obtain ⟨ne_bk4_bk3, hbk4_r⟩ := Reg.ne_of_put hbk4_r
  have ne_bk3_bk4 := Ne.symm ne_bk4_bk3
  obtain ⟨ne_bk4_bk2, hbk4_r⟩ := Reg.ne_of_put hbk4_r
  have ne_bk2_bk4 := Ne.symm ne_bk4_bk2
  simp only [Act.put, nA, nB, nC]
  refine Seq.done fun ws1 hws => ?_
  have HS1 := hws.list3 (p := bk2) (q := bk3) (r := bk4) (by repeat (first | exact rS | refine rN (by assumption) ?_)) (by repeat (first | exact rS | refine rN (by assumption) ?_)) (by repeat (first | exact rS | refine rN (by assumption) ?_)) (by assumption) (by assumption) (by assumption)
  clear HS hws
  go_upto_region 1 with (fail)
  have HPbk3 := HS1.f1
  have HPbk2 := HPbk3.f1
  refine wp_seq [0, 4] (by kernel_rfl) (by kernel_rfl) (Reg.fin.put (Reg.fin.put Reg.fin_no _ _) _ _) (StR.move (StR.move (StR.no HPbk2))) ?_
  refine Seq.get rfl rfl rfl rfl (by repeat (first | exact rS | refine rN (by assumption) ?_)) (n := 6) rfl (by kernel_rfl) ?_
  simp only [Act.put, nA, nB, nC]
  refine Seq.call rfl rfl rfl rfl (by kernel_rfl) (norm_w (k := (1 * k + 2)) (a1 := a1) (a2 := a2) HT.out (Z_a.out.more (by omega))  rfl rfl (by omega) (by omega)) ?_
  simp only [Act.put, nA, nB, nC]
  refine Seq.get rfl rfl rfl rfl (by repeat (first | exact rS | refine rN (by assumption) ?_)) (n := 3) rfl (by kernel_rfl) ?_
  simp only [Act.put, nA, nB, nC]
  refine Seq.call rfl rfl rfl rfl (by kernel_rfl) (of_q HT.out (by omega) (by omega) (show ((0 : Int) : Rat) = (0 : Rat) from rfl)) ?_
  simp only [Act.put, nA, nB, nC]
  refine Seq.call rfl rfl rfl rfl (by kernel_rfl) (max_wq (k := (1 * k + 2)) HT.out (Z_b.out.more (by omega)) ((show Rz 2 (0 : Rat) from Rz.lit (z := 0) rfl (by decide)).more (by omega)) rfl (by omega)) ?_
  simp only [Act.put, nA, nB, nC]
  refine Seq.store rfl rfl rfl rfl rfl (by repeat (first | exact rS | refine rN (by assumption) ?_)) (n := 6) rfl rfl (by kernel_rfl) (VC_one _ _) ?_
  simp only [Act.put, nA, nB, nC]
  refine Seq.store rfl rfl rfl rfl rfl (by repeat (first | exact rS | refine rN (by assumption) ?_)) (n := 3) rfl rfl (by kernel_rfl) (RC_one _) ?_
  simp only [Act.put, nA, nB, nC]
  refine Seq.done fun ws2 hws => ?_
  have HS2 := hws.list2 (p := bk2) (q := bk3) (by repeat (first | exact rS | refine rN (by assumption) ?_)) (by repeat (first | exact rS | refine rN (by assumption) ?_)) (by assumption)
  clear HS1 hws HPbk3 HPbk2
  go_upto_region 2 with (fail)
  have HPbk4 := HS2.f2
  refine wp_seq [] (by kernel_rfl) (by kernel_rfl) (Reg.fin.put Reg.fin_no _ _) (StR.move (StR.no HPbk4)) ?_
  refine Seq.pure rfl rfl (by intro w; go_simp; try rfl) ?_
  simp only [Act.put, nA, nB, nC]
  refine Seq.loadAt rfl rfl rfl rfl (by repeat (first | exact mC | apply mT)) (n := 3) (cs' := RC al) (Nat.le_of_ble_eq_true rfl) (by kernel_rfl) rfl ?_
  simp only [Act.put, nA, nB, nC]
  refine Seq.load rfl rfl rfl rfl (by repeat (first | exact mC | apply mT)) (n := 3) rfl (by kernel_rfl) ?_
  simp only [Act.put, nA, nB, nC]
  refine Seq.call rfl rfl rfl rfl (by kernel_rfl) (sub_q (k := (1 * k + 2)) HT.out ((Z_a.out.rz (by omega)).1.more (by omega)) ((Rz.max (k := (1 * k + 2)) (Rz.more Z_b.out.rz (by omega)) (Rz.more (show Rz 2 (0 : Rat) from Rz.lit (z := 0) rfl (by decide)) (by omega))).more (by omega)) rfl (by omega)) ?_
  simp only [Act.put, nA, nB, nC]
  refine Seq.pure rfl rfl (by intro w; go_simp; try rfl) ?_
  simp only [Act.put, nA, nB, nC]
  refine Seq.loadAt rfl rfl rfl rfl (by repeat (first | exact mC | apply mT)) (n := 3) (cs' := RC ah) (Nat.le_of_ble_eq_true rfl) (by kernel_rfl) rfl ?_
  simp only [Act.put, nA, nB, nC]
  refine Seq.load rfl rfl rfl rfl (by repeat (first | exact mC | apply mT)) (n := 3) rfl (by kernel_rfl) ?_
  simp only [Act.put, nA, nB, nC]
  refine Seq.call rfl rfl rfl rfl (by kernel_rfl) (add_q (k := (1 * k + 2)) HT.out ((Z_a.out.rz (by omega)).2.more (by omega)) ((Rz.max (k := (1 * k + 2)) (Rz.more Z_b.out.rz (by omega)) (Rz.more (show Rz 2 (0 : Rat) from Rz.lit (z := 0) rfl (by decide)) (by omega))).more (by omega)) rfl (by omega)) ?_
  simp only [Act.put, nA, nB, nC]
  refine Seq.pure (v := .agg (VC (al - (maxQ b (0 : Rat))) (ah + (maxQ b (0 : Rat))))) rfl rfl (fun w => bld_Span rfl rfl rfl w) ?_
  simp only [Act.put, nA, nB, nC]
  refine Seq.store rfl rfl rfl rfl rfl (by repeat (first | exact rS | refine rN (by assumption) ?_)) (n := 6) rfl rfl (by kernel_rfl) (VC_one _ _) ?_
  simp only [Act.put, nA, nB, nC]
  refine Seq.done fun ws3 hws => ?_
  have HS3 := hws.list1 (p := bk4) (by repeat (first | exact rS | refine rN (by assumption) ?_))
  clear HS2 hws HPbk4
  go_wp2_with fail
  exact ret_own rfl rfl rfl HS3 (by repeat (first | exact mC | apply mT)) (n := 6) rfl (by kernel_rfl) ⟨rfl, HS3.below⟩
set_option maxHeartbeats 2000000 in
set_option maxRecDepth 20000 in
theorem widen_w {k : Nat} {pxl pxh : Rat} {pxg : Bool} {px1 px2 : RT} {pyl pyh : Rat} {pyg : Bool} {py1 py2 : RT} {ptl pth : Rat} {ptg : Bool} {pt1 pt2 : RT} {b : Rat} {b_g : Bool} {b_t : RT} {u : Rat} {u_g : Bool} {u_t : RT} {z0 : Rat} {z1 : Rat} {z2 : Rat} {z3 : Rat} {z4 : Rat} {z5 : Rat} {W : World} {l : List Own} (hT : Tab W) (Zpx : RawS k pxl pxh pxg px1 px2) (Zpy : RawS k pyl pyh pyg py1 py2) (Zpt : RawS k ptl pth ptg pt1 pt2) (Zb : RawT k b b_g b_t) (Zu : RawT k u u_g u_t) (hz0 : pxl - (maxQ b 0) = z0) (hz1 : pxh + (maxQ b 0) = z1) (hz2 : pyl - (maxQ b 0) = z2) (hz3 : pyh + (maxQ b 0) = z3) (hz4 : ptl - (maxQ u 0) = z4) (hz5 : pth + (maxQ u 0) = z5) (hk0 : 2 ≤ k) (hk : k ≤ 999999999994) (w : World) (h : St W l w) :
    Calls Tryd.prog 39 #[.agg (PW px1 px2 py1 py2 pt1 pt2), .agg (RT.c b_t), .agg (RT.c u_t)] w fun e w' => e = .returned (.agg (PW (rt z0) (rt z1) (rt z2) (rt z3) (rt z4) (rt z5))) ∧ Below w.heap.size w w' := by
  subst hz0
  subst hz1
  subst hz2
  subst hz3
  subst hz4
  subst hz5
  have HT := Lib.hid (tabS hT h); clear hT h
  have Z_px := Lib.hid Zpx; clear Zpx
  have Z_py := Lib.hid Zpy; clear Zpy
  have Z_pt := Lib.hid Zpt; clear Zpt
  have Z_b := Lib.hid Zb; clear Zb
  have Z_u := Lib.hid Zu; clear Zu
  go_enter Tryd.func39, Tryd.ntmps39
  have HS : St w [] w := St.start
  go_upto_region 0 with (fail)
  refine wp_seq_text [] (StR.no HS) ?_
  refine Seq.box rfl rfl rfl (v := .agg (PW px1 px2 py1 py2 pt1 pt2)) (cs := PW px1 px2 py1 py2 pt1 pt2) rfl rfl ?_
  intro bk3 _ _ hbk3_r
  simp only [Act.put, nA, nB, nC]
  refine Seq.box rfl rfl rfl (v := .agg (RT.c b_t)) (cs := RT.c b_t) rfl rfl ?_
  intro bk4 _ _ hbk4_r
  obtain ⟨ne_bk4_bk3, hbk4_r⟩ := Reg.ne_of_put hbk4_r
  have ne_bk3_bk4 := Ne.symm ne_bk4_bk3
  simp only [Act.put, nA, nB, nC]
  refine Seq.box rfl rfl rfl (v := .agg (RT.c u_t)) (cs := RT.c u_t) rfl rfl ?_
  intro bk5 _ _ hbk5_r
  obtain ⟨ne_bk5_bk4, hbk5_r⟩ := Reg.ne_of_put hbk5_r
  have ne_bk4_bk5 := Ne.symm ne_bk5_bk4
  obtain ⟨ne_bk5_bk3, hbk5_r⟩ := Reg.ne_of_put hbk5_r
  have ne_bk3_bk5 := Ne.symm ne_bk5_bk3
  simp only [Act.put, nA, nB, nC]
  refine Seq.alloc rfl rfl rfl (z := .agg (PW rz0 rz0 rz0 rz0 rz0 rz0)) (by kernel_rfl) rfl ?_
  intro bk6 _ _ hbk6_r
  obtain ⟨ne_bk6_bk5, hbk6_r⟩ := Reg.ne_of_put hbk6_r
  have ne_bk5_bk6 := Ne.symm ne_bk6_bk5
  obtain ⟨ne_bk6_bk4, hbk6_r⟩ := Reg.ne_of_put hbk6_r
  have ne_bk4_bk6 := Ne.symm ne_bk6_bk4
  obtain ⟨ne_bk6_bk3, hbk6_r⟩ := Reg.ne_of_put hbk6_r
  have ne_bk3_bk6 := Ne.symm ne_bk6_bk3
  simp only [Act.put, nA, nB, nC]
  refine Seq.done fun ws1 hws => ?_
  have HS1 : St w [(bk3, 27, PW px1 px2 py1 py2 pt1 pt2), (bk4, 23, RT.c b_t), (bk5, 23, RT.c u_t), (bk6, 27, PW rz0 rz0 rz0 rz0 rz0 rz0)] ws1 := hws.listN [(bk3, 27, PW px1 px2 py1 py2 pt1 pt2), (bk4, 23, RT.c b_t), (bk5, 23, RT.c u_t), (bk6, 27, PW rz0 rz0 rz0 rz0 rz0 rz0)] (by simp [*]) (by intro e he; simp only [List.mem_cons, List.not_mem_nil, or_false] at he; rcases he with rfl | rfl | rfl | rfl <;> first | exact Reg.put_same _ _ _ | simp [Reg.put, *])
  clear HS hws
  go_upto_region 1 with (fail)
  have HPbk6 := HS1.f3
  refine wp_seq [] (by kernel_rfl) (by kernel_rfl) (Reg.fin.put Reg.fin_no _ _) (StR.move (StR.no HPbk6)) ?_
  refine Seq.pure rfl rfl (by intro w; go_simp; try rfl) ?_
  simp only [Act.put, nA, nB, nC]
  refine Seq.loadAt rfl rfl rfl rfl (by repeat (first | exact mC | apply mT)) (n := 6) (cs' := SW px1 px2) (Nat.le_of_ble_eq_true rfl) (by kernel_rfl) rfl ?_
  simp only [Act.put, nA, nB, nC]
  refine Seq.load rfl rfl rfl rfl (by repeat (first | exact mC | apply mT)) (n := 3) rfl (by kernel_rfl) ?_
  simp only [Act.put, nA, nB, nC]
  refine Seq.call rfl rfl rfl rfl (by kernel_rfl) (wide_w (k := (1 * k + 2)) (a1 := px1) (a2 := px2) (b_t := b_t) HT.out (Z_px.out.more (by omega)) (Z_b.out.more (by omega))  rfl rfl (by omega) (by omega)) ?_
  simp only [Act.put, nA, nB, nC]
  refine Seq.pure rfl rfl (by intro w; go_simp; try rfl) ?_
  simp only [Act.put, nA, nB, nC]
  refine Seq.loadAt rfl rfl rfl rfl (by repeat (first | exact mC | apply mT)) (n := 6) (cs' := SW py1 py2) (Nat.le_of_ble_eq_true rfl) (by kernel_rfl) rfl ?_
  simp only [Act.put, nA, nB, nC]
  refine Seq.load rfl rfl rfl rfl (by repeat (first | exact mC | apply mT)) (n := 3) rfl (by kernel_rfl) ?_
  simp only [Act.put, nA, nB, nC]
  refine Seq.call rfl rfl rfl rfl (by kernel_rfl) (wide_w (k := (1 * k + 2)) (a1 := py1) (a2 := py2) (b_t := b_t) HT.out (Z_py.out.more (by omega)) (Z_b.out.more (by omega))  rfl rfl (by omega) (by omega)) ?_
  simp only [Act.put, nA, nB, nC]
  refine Seq.pure rfl rfl (by intro w; go_simp; try rfl) ?_
  simp only [Act.put, nA, nB, nC]
  refine Seq.loadAt rfl rfl rfl rfl (by repeat (first | exact mC | apply mT)) (n := 6) (cs' := SW pt1 pt2) (Nat.le_of_ble_eq_true rfl) (by kernel_rfl) rfl ?_
  simp only [Act.put, nA, nB, nC]
  refine Seq.load rfl rfl rfl rfl (by repeat (first | exact mC | apply mT)) (n := 3) rfl (by kernel_rfl) ?_
  simp only [Act.put, nA, nB, nC]
  refine Seq.call rfl rfl rfl rfl (by kernel_rfl) (wide_w (k := (1 * k + 2)) (a1 := pt1) (a2 := pt2) (b_t := u_t) HT.out (Z_pt.out.more (by omega)) (Z_u.out.more (by omega))  rfl rfl (by omega) (by omega)) ?_
  simp only [Act.put, nA, nB, nC]
  refine Seq.pure (v := .agg (PW (rt (pxl - (maxQ b 0))) (rt (pxh + (maxQ b 0))) (rt (pyl - (maxQ b 0))) (rt (pyh + (maxQ b 0))) (rt (ptl - (maxQ u 0))) (rt (pth + (maxQ u 0))))) rfl rfl (fun w => bld_Pose (x := (rt (pxl - (maxQ b 0)))) (y := (rt (pxh + (maxQ b 0)))) (z := (rt (pyl - (maxQ b 0)))) (u := (rt (pyh + (maxQ b 0)))) (v := (rt (ptl - (maxQ u 0)))) (t := (rt (pth + (maxQ u 0)))) rfl rfl rfl rfl w) ?_
  simp only [Act.put, nA, nB, nC]
  refine Seq.store rfl rfl rfl rfl rfl (by repeat (first | exact rS | refine rN (by assumption) ?_)) (n := 18) rfl rfl (by kernel_rfl) (PW_one _ _ _ _ _ _) ?_
  simp only [Act.put, nA, nB, nC]
  refine Seq.done fun ws2 hws => ?_
  have HS2 := hws.list1 (p := bk6) (by repeat (first | exact rS | refine rN (by assumption) ?_))
  clear HS1 hws HPbk6
  go_wp2_with fail
  exact ret_own rfl rfl rfl HS2 (by repeat (first | exact mC | apply mT)) (n := 18) rfl (by kernel_rfl) ⟨rfl, HS2.below⟩
set_option maxHeartbeats 4000000 in
set_option maxRecDepth 20000 in
theorem wideOf_w {k : Nat} {p1 : Rat} {p2 : Rat} {p3 : Rat} {p4 : Rat} {p5 : Rat} {p6 : Rat} {b : Rat} {b_g : Bool} {b_t : RT} {u : Rat} {u_g : Bool} {u_t : RT} {z0 : Rat} {z1 : Rat} {z2 : Rat} {z3 : Rat} {z4 : Rat} {z5 : Rat} {W : World} {l : List Own} (hT : Tab W) (Zp1 : Rz k p1) (Zp2 : Rz k p2) (Zp3 : Rz k p3) (Zp4 : Rz k p4) (Zp5 : Rz k p5) (Zp6 : Rz k p6) (Zb : RawT k b b_g b_t) (Zu : RawT k u u_g u_t) (hz0 : p1 - (maxQ b 0) = z0) (hz1 : p2 + (maxQ b 0) = z1) (hz2 : p3 - (maxQ b 0) = z2) (hz3 : p4 + (maxQ b 0) = z3) (hz4 : p5 - (maxQ u 0) = z4) (hz5 : p6 + (maxQ u 0) = z5) (hk0 : 2 ≤ k) (hk : k ≤ 1000000000000) (w : World) (h : St W l w) :
    Calls Tryd.prog 15 #[.agg (PW (rt p1) (rt p2) (rt p3) (rt p4) (rt p5) (rt p6)), .agg (RT.c b_t), .agg (RT.c u_t)] w fun e w' => e = .returned (.agg (PW (rt z0) (rt z1) (rt z2) (rt z3) (rt z4) (rt z5))) ∧ Below w.heap.size w w' := by
  subst hz0
  subst hz1
  subst hz2
  subst hz3
  subst hz4
  subst hz5
  have HT := Lib.hid (tabS hT h); clear hT h
  have Z_p1 := Lib.hid Zp1; clear Zp1
  have Z_p2 := Lib.hid Zp2; clear Zp2
  have Z_p3 := Lib.hid Zp3; clear Zp3
  have Z_p4 := Lib.hid Zp4; clear Zp4
  have Z_p5 := Lib.hid Zp5; clear Zp5
  have Z_p6 := Lib.hid Zp6; clear Zp6
  have Z_b := Lib.hid Zb; clear Zb
  have Z_u := Lib.hid Zu; clear Zu
  have hsp : (0 < b ∧ 0 < u) ∨ (0 < b ∧ ¬ 0 < u) ∨ (¬ 0 < b ∧ 0 < u) ∨ (¬ 0 < b ∧ ¬ 0 < u) := by grind
  rcases hsp with ⟨hpb, hpu⟩ | ⟨hpb, hpu⟩ | ⟨hpb, hpu⟩ | ⟨hpb, hpu⟩
  · obtain ⟨vb, hvb, rb, rb'⟩ : ∃ v, sgnQ b = v ∧ decide (v > 0) = true ∧ decide (0 < v) = true := ⟨_, rfl, decide_eq_true ((sgnQ_pos _).2 hpb), decide_eq_true ((sgnQ_pos _).2 hpb)⟩
    have Cb := Lib.hid hvb; clear hvb
    obtain rfl := Z_b.out.pos hpb
    have Z_b' := Lib.hid Z_b.out.rz
    clear Z_b
    have Z_b := Z_b'
    clear Z_b'
    have hmb : maxQ b 0 = b := maxQ_pos hpb
    obtain ⟨vu, hvu, ru, ru'⟩ : ∃ v, sgnQ u = v ∧ decide (v > 0) = true ∧ decide (0 < v) = true := ⟨_, rfl, decide_eq_true ((sgnQ_pos _).2 hpu), decide_eq_true ((sgnQ_pos _).2 hpu)⟩
    have Cu := Lib.hid hvu; clear hvu
    obtain rfl := Z_u.out.pos hpu
    have Z_u' := Lib.hid Z_u.out.rz
    clear Z_u
    have Z_u := Z_u'
    clear Z_u'
    have hmu : maxQ u 0 = u := maxQ_pos hpu
    have HR := Lib.hid (show PW (rt (p1 - b)) (rt (p2 + b)) (rt (p3 - b)) (rt (p4 + b)) (rt (p5 - u)) (rt (p6 + u)) = PW (rt (p1 - maxQ b 0)) (rt (p2 + maxQ b 0)) (rt (p3 - maxQ b 0)) (rt (p4 + maxQ b 0)) (rt (p5 - maxQ u 0)) (rt (p6 + maxQ u 0)) from by rw [hmb, hmu])
    clear hmb hmu hpb hpu
    go_enter Tryd.func15, Tryd.ntmps15
    have HS : St w [] w := St.start
    go_upto_region 0 with (fail)
    refine wp_seq_text [] (StR.no HS) ?_
    refine Seq.box rfl rfl rfl (v := .agg (PW (rt p1) (rt p2) (rt p3) (rt p4) (rt p5) (rt p6))) (cs := PW (rt p1) (rt p2) (rt p3) (rt p4) (rt p5) (rt p6)) rfl rfl ?_
    intro bk3 _ _ hbk3_r
    simp only [Act.put, nA, nB, nC]
    refine Seq.box rfl rfl rfl (v := .agg (RC b)) (cs := RC b) rfl rfl ?_
    intro bk4 _ _ hbk4_r
    obtain ⟨ne_bk4_bk3, hbk4_r⟩ := Reg.ne_of_put hbk4_r
    have ne_bk3_bk4 := Ne.symm ne_bk4_bk3
    simp only [Act.put, nA, nB, nC]
    refine Seq.box rfl rfl rfl (v := .agg (RC u)) (cs := RC u) rfl rfl ?_
    intro bk5 _ _ hbk5_r
    obtain ⟨ne_bk5_bk4, hbk5_r⟩ := Reg.ne_of_put hbk5_r
    have ne_bk4_bk5 := Ne.symm ne_bk5_bk4
    obtain ⟨ne_bk5_bk3, hbk5_r⟩ := Reg.ne_of_put hbk5_r
    have ne_bk3_bk5 := Ne.symm ne_bk5_bk3
    simp only [Act.put, nA, nB, nC]
    refine Seq.alloc rfl rfl rfl (z := .agg (PW rz0 rz0 rz0 rz0 rz0 rz0)) (by kernel_rfl) rfl ?_
    intro bk6 _ _ hbk6_r
    obtain ⟨ne_bk6_bk5, hbk6_r⟩ := Reg.ne_of_put hbk6_r
    have ne_bk5_bk6 := Ne.symm ne_bk6_bk5
    obtain ⟨ne_bk6_bk4, hbk6_r⟩ := Reg.ne_of_put hbk6_r
    have ne_bk4_bk6 := Ne.symm ne_bk6_bk4
    obtain ⟨ne_bk6_bk3, hbk6_r⟩ := Reg.ne_of_put hbk6_r
    have ne_bk3_bk6 := Ne.symm ne_bk6_bk3
    simp only [Act.put, nA, nB, nC]
    refine Seq.done fun ws1 hws => ?_
    have HS1 : St w [(bk3, 39, PW (rt p1) (rt p2) (rt p3) (rt p4) (rt p5) (rt p6)), (bk4, 23, RC b), (bk5, 23, RC u), (bk6, 39, PW rz0 rz0 rz0 rz0 rz0 rz0)] ws1 := hws.listN [(bk3, 39, PW (rt p1) (rt p2) (rt p3) (rt p4) (rt p5) (rt p6)), (bk4, 23, RC b), (bk5, 23, RC u), (bk6, 39, PW rz0 rz0 rz0 rz0 rz0 rz0)] (by simp [*]) (by intro e he; simp only [List.mem_cons, List.not_mem_nil, or_false] at he; rcases he with rfl | rfl | rfl | rfl <;> first | exact Reg.put_same _ _ _ | simp [Reg.put, *])
    clear HS hws
    go_upto_region 1 with (fail)
    refine wp_seq_text [] (StR.no HS1) ?_
    refine Seq.pure rfl rfl (by intro w; go_simp; try rfl) ?_
    simp only [Act.put, nA, nB, nC]
    refine Seq.done fun ws2 hws => ?_
    have HS2 := hws.st
    clear HS1 hws
    go_wp2_with fail
    refine wp_loop_rounds 4 ?_
    rw [rounds_succ]
    go_upto_region 2 with (fail)
    refine wp_seq_text [] (StR.no HS2) ?_
    refine Seq.pure rfl rfl (by intro w; go_simp; try rfl) ?_
    simp only [Act.put, nA, nB, nC]
    refine Seq.done fun ws3 hws => ?_
    have HS3 := hws.st
    clear HS2 hws
    go_upto_region 3 with (fail)
    refine wp_seq_text [] (StR.no HS3) ?_
    iterate 2 (refine Seq.pure rfl rfl (by intro w; go_simp; try rfl) ?_; simp only [Act.put, nA, nB, nC])
    refine Seq.done fun ws4 hws => ?_
    have HS4 := hws.st
    clear HS3 hws
    go_upto_region 4 with (fail)
    refine wp_seq_text [] (StR.no HS4) ?_
    refine Seq.load rfl rfl rfl rfl (by repeat (first | exact mC | apply mT)) (n := 3) rfl (by kernel_rfl) ?_
    simp only [Act.put, nA, nB, nC]
    refine Seq.alloc rfl rfl rfl (z := .agg (RT.c rz0)) (by kernel_rfl) rfl ?_
    intro bk8 _ _ hbk8_r
    simp only [Act.put, nA, nB, nC]
    refine Seq.store rfl rfl rfl rfl rfl (by repeat (first | exact rS | refine rN (by assumption) ?_)) (n := 3) rfl rfl (by kernel_rfl) (RC_one _) ?_
    simp only [Act.put, nA, nB, nC]
    refine Seq.done fun ws5 hws => ?_
    have HS5 := hws.list1 (p := bk8) (by repeat (first | exact rS | refine rN (by assumption) ?_))
    clear HS4 hws
    go_upto_region 5 with (fail)
    refine wp_seq_text [] (StR.no HS5) ?_
    iterate 2 (refine Seq.pure rfl rfl (by intro w; go_simp; try rfl) ?_; simp only [Act.put, nA, nB, nC])
    refine Seq.done fun ws6 hws => ?_
    have HS6 := hws.st
    clear HS5 hws
    go_upto_region 7 with (fail)
    refine wp_seq_text [] (StR.no HS6) ?_
    refine Seq.load rfl rfl rfl rfl (by repeat (first | exact mC | apply mT)) (n := 3) rfl (by kernel_rfl) ?_
    simp only [Act.put, nA, nB, nC]
    refine Seq.call rfl rfl rfl rfl (by kernel_rfl) (sign_q (k := (1 * k + 0)) HT.out (Z_b.out.more (by omega)) Cb.out (by omega)) ?_
    simp only [Act.put, nA, nB, nC]
    refine Seq.pure rfl rfl (by intro w; go_simp; try rfl) ?_
    simp only [Act.put, nA, nB, nC]
    refine Seq.done fun ws7 hws => ?_
    have HS7 := hws.st
    clear HS6 hws
    go_upto_region 8 with (fail)
    have HPbk3 := HS7.f1
    refine wp_seq [8, 20] (by kernel_rfl) (by kernel_rfl) (Reg.fin.put Reg.fin_no _ _) (StR.move (StR.no HPbk3)) ?_
    iterate 4 (refine Seq.pure rfl rfl (by intro w; go_simp; try rfl) ?_; simp only [Act.put, nA, nB, nC])
    refine Seq.getAt rfl rfl rfl rfl (by repeat (first | exact rS | refine rN (by assumption) ?_)) (n := 3) (cs' := RC p1) (Nat.le_of_ble_eq_true rfl) (by kernel_rfl) rfl ?_
    simp only [Act.put, nA, nB, nC]
    refine Seq.load rfl rfl rfl rfl (by repeat (first | exact mC | apply mT)) (n := 3) rfl (by kernel_rfl) ?_
    simp only [Act.put, nA, nB, nC]
    refine Seq.call rfl rfl rfl rfl (by kernel_rfl) (sub_q (k := (1 * k + 0)) HT.out (Z_p1.out.more (by omega)) (Z_b.out.more (by omega)) rfl (by omega)) ?_
    simp only [Act.put, nA, nB, nC]
    iterate 3 (refine Seq.pure rfl rfl (by intro w; go_simp; try rfl) ?_; simp only [Act.put, nA, nB, nC])
    refine Seq.getAt rfl rfl rfl rfl (by repeat (first | exact rS | refine rN (by assumption) ?_)) (n := 3) (cs' := RC p2) (Nat.le_of_ble_eq_true rfl) (by kernel_rfl) rfl ?_
    simp only [Act.put, nA, nB, nC]
    refine Seq.load rfl rfl rfl rfl (by repeat (first | exact mC | apply mT)) (n := 3) rfl (by kernel_rfl) ?_
    simp only [Act.put, nA, nB, nC]
    refine Seq.call rfl rfl rfl rfl (by kernel_rfl) (add_q (k := (1 * k + 0)) HT.out (Z_p2.out.more (by omega)) (Z_b.out.more (by omega)) rfl (by omega)) ?_
    simp only [Act.put, nA, nB, nC]
    refine Seq.pure (v := .agg (VC (p1 - b) (p2 + b))) rfl rfl (fun w => bld_RSpan (x := (rt (p1 - b))) (y := (rt (p2 + b))) rfl rfl rfl w) ?_
    simp only [Act.put, nA, nB, nC]
    refine Seq.pure rfl rfl (by intro w; go_simp; try rfl) ?_
    simp only [Act.put, nA, nB, nC]
    refine Seq.storeAt (v := .agg (VC (p1 - b) (p2 + b))) rfl rfl rfl rfl rfl (by repeat (first | exact rS | refine rN (by assumption) ?_)) (Nat.le_of_ble_eq_true rfl) (by show _ = some 6; kernel_rfl) (VC_one _ _) (cs' := PW (rt (p1 - b)) (rt (p2 + b)) (rt p3) (rt p4) (rt p5) (rt p6)) rfl ?_
    simp only [Act.put, nA, nB, nC]
    refine Seq.done fun ws8 hws => ?_
    have HS8 := hws.list1 (p := bk3) (by repeat (first | exact rS | refine rN (by assumption) ?_))
    clear HS7 hws HPbk3
    go_upto_region 9 with (fail)
    refine wp_seq_text [] (StR.no HS8) ?_
    refine Seq.pure (v := .int .i64 1) rfl rfl (by intro w; go_simp; try rfl) ?_
    simp only [Act.put, nA, nB, nC]
    refine Seq.pure rfl rfl (by intro w; go_simp; try rfl) ?_
    simp only [Act.put, nA, nB, nC]
    refine Seq.done fun ws9 hws => ?_
    have HS9 := hws.st
    clear HS8 hws
    go_wp2_with fail
    rw [rounds_succ]
    go_upto_region 2 with (fail)
    refine wp_seq_text [] (StR.no HS9) ?_
    refine Seq.pure rfl rfl (by intro w; go_simp; try rfl) ?_
    simp only [Act.put, nA, nB, nC]
    refine Seq.done fun ws10 hws => ?_
    have HS10 := hws.st
    clear HS9 hws
    go_upto_region 3 with (fail)
    refine wp_seq_text [] (StR.no HS10) ?_
    iterate 2 (refine Seq.pure rfl rfl (by intro w; go_simp; try rfl) ?_; simp only [Act.put, nA, nB, nC])
    refine Seq.done fun ws11 hws => ?_
    have HS11 := hws.st
    clear HS10 hws
    go_upto_region 4 with (fail)
    refine wp_seq_text [] (StR.no HS11) ?_
    refine Seq.load rfl rfl rfl rfl (by repeat (first | exact mC | apply mT)) (n := 3) rfl (by kernel_rfl) ?_
    simp only [Act.put, nA, nB, nC]
    refine Seq.alloc rfl rfl rfl (z := .agg (RT.c rz0)) (by kernel_rfl) rfl ?_
    intro bk8_1 _ _ hbk8_1_r
    simp only [Act.put, nA, nB, nC]
    refine Seq.store rfl rfl rfl rfl rfl (by repeat (first | exact rS | refine rN (by assumption) ?_)) (n := 3) rfl rfl (by kernel_rfl) (RC_one _) ?_
    simp only [Act.put, nA, nB, nC]
    refine Seq.done fun ws12 hws => ?_
    have HS12 := hws.list1 (p := bk8_1) (by repeat (first | exact rS | refine rN (by assumption) ?_))
    clear HS11 hws
    go_upto_region 5 with (fail)
    refine wp_seq_text [] (StR.no HS12) ?_
    iterate 2 (refine Seq.pure rfl rfl (by intro w; go_simp; try rfl) ?_; simp only [Act.put, nA, nB, nC])
    refine Seq.done fun ws13 hws => ?_
    have HS13 := hws.st
    clear HS12 hws
    go_upto_region 7 with (fail)
    refine wp_seq_text [] (StR.no HS13) ?_
    refine Seq.load rfl rfl rfl rfl (by repeat (first | exact mC | apply mT)) (n := 3) rfl (by kernel_rfl) ?_
    simp only [Act.put, nA, nB, nC]
    refine Seq.call rfl rfl rfl rfl (by kernel_rfl) (sign_q (k := (1 * k + 0)) HT.out (Z_b.out.more (by omega)) Cb.out (by omega)) ?_
    simp only [Act.put, nA, nB, nC]
    refine Seq.pure rfl rfl (by intro w; go_simp; try rfl) ?_
    simp only [Act.put, nA, nB, nC]
    refine Seq.done fun ws14 hws => ?_
    have HS14 := hws.st
    clear HS13 hws
    go_upto_region 8 with (fail)
    have HPbk3 := HS14.f1
    refine wp_seq [8, 20] (by kernel_rfl) (by kernel_rfl) (Reg.fin.put Reg.fin_no _ _) (StR.move (StR.no HPbk3)) ?_
    iterate 4 (refine Seq.pure rfl rfl (by intro w; go_simp; try rfl) ?_; simp only [Act.put, nA, nB, nC])
    refine Seq.getAt rfl rfl rfl rfl (by repeat (first | exact rS | refine rN (by assumption) ?_)) (n := 3) (cs' := RC p3) (Nat.le_of_ble_eq_true rfl) (by kernel_rfl) rfl ?_
    simp only [Act.put, nA, nB, nC]
    refine Seq.load rfl rfl rfl rfl (by repeat (first | exact mC | apply mT)) (n := 3) rfl (by kernel_rfl) ?_
    simp only [Act.put, nA, nB, nC]
    refine Seq.call rfl rfl rfl rfl (by kernel_rfl) (sub_q (k := (1 * k + 0)) HT.out (Z_p3.out.more (by omega)) (Z_b.out.more (by omega)) rfl (by omega)) ?_
    simp only [Act.put, nA, nB, nC]
    iterate 3 (refine Seq.pure rfl rfl (by intro w; go_simp; try rfl) ?_; simp only [Act.put, nA, nB, nC])
    refine Seq.getAt rfl rfl rfl rfl (by repeat (first | exact rS | refine rN (by assumption) ?_)) (n := 3) (cs' := RC p4) (Nat.le_of_ble_eq_true rfl) (by kernel_rfl) rfl ?_
    simp only [Act.put, nA, nB, nC]
    refine Seq.load rfl rfl rfl rfl (by repeat (first | exact mC | apply mT)) (n := 3) rfl (by kernel_rfl) ?_
    simp only [Act.put, nA, nB, nC]
    refine Seq.call rfl rfl rfl rfl (by kernel_rfl) (add_q (k := (1 * k + 0)) HT.out (Z_p4.out.more (by omega)) (Z_b.out.more (by omega)) rfl (by omega)) ?_
    simp only [Act.put, nA, nB, nC]
    refine Seq.pure (v := .agg (VC (p3 - b) (p4 + b))) rfl rfl (fun w => bld_RSpan (x := (rt (p3 - b))) (y := (rt (p4 + b))) rfl rfl rfl w) ?_
    simp only [Act.put, nA, nB, nC]
    refine Seq.pure rfl rfl (by intro w; go_simp; try rfl) ?_
    simp only [Act.put, nA, nB, nC]
    refine Seq.storeAt (v := .agg (VC (p3 - b) (p4 + b))) rfl rfl rfl rfl rfl (by repeat (first | exact rS | refine rN (by assumption) ?_)) (Nat.le_of_ble_eq_true rfl) (by show _ = some 6; kernel_rfl) (VC_one _ _) (cs' := PW (rt (p1 - b)) (rt (p2 + b)) (rt (p3 - b)) (rt (p4 + b)) (rt p5) (rt p6)) rfl ?_
    simp only [Act.put, nA, nB, nC]
    refine Seq.done fun ws15 hws => ?_
    have HS15 := hws.list1 (p := bk3) (by repeat (first | exact rS | refine rN (by assumption) ?_))
    clear HS14 hws HPbk3
    go_upto_region 9 with (fail)
    refine wp_seq_text [] (StR.no HS15) ?_
    refine Seq.pure (v := .int .i64 2) rfl rfl (by intro w; go_simp; try rfl) ?_
    simp only [Act.put, nA, nB, nC]
    refine Seq.pure rfl rfl (by intro w; go_simp; try rfl) ?_
    simp only [Act.put, nA, nB, nC]
    refine Seq.done fun ws16 hws => ?_
    have HS16 := hws.st
    clear HS15 hws
    go_wp2_with fail
    rw [rounds_succ]
    go_upto_region 2 with (fail)
    refine wp_seq_text [] (StR.no HS16) ?_
    refine Seq.pure rfl rfl (by intro w; go_simp; try rfl) ?_
    simp only [Act.put, nA, nB, nC]
    refine Seq.done fun ws17 hws => ?_
    have HS17 := hws.st
    clear HS16 hws
    go_upto_region 3 with (fail)
    refine wp_seq_text [] (StR.no HS17) ?_
    iterate 2 (refine Seq.pure rfl rfl (by intro w; go_simp; try rfl) ?_; simp only [Act.put, nA, nB, nC])
    refine Seq.done fun ws18 hws => ?_
    have HS18 := hws.st
    clear HS17 hws
    go_upto_region 4 with (fail)
    refine wp_seq_text [] (StR.no HS18) ?_
    refine Seq.load rfl rfl rfl rfl (by repeat (first | exact mC | apply mT)) (n := 3) rfl (by kernel_rfl) ?_
    simp only [Act.put, nA, nB, nC]
    refine Seq.alloc rfl rfl rfl (z := .agg (RT.c rz0)) (by kernel_rfl) rfl ?_
    intro bk8_2 _ _ hbk8_2_r
    simp only [Act.put, nA, nB, nC]
    refine Seq.store rfl rfl rfl rfl rfl (by repeat (first | exact rS | refine rN (by assumption) ?_)) (n := 3) rfl rfl (by kernel_rfl) (RC_one _) ?_
    simp only [Act.put, nA, nB, nC]
    refine Seq.done fun ws19 hws => ?_
    have HS19 := hws.list1 (p := bk8_2) (by repeat (first | exact rS | refine rN (by assumption) ?_))
    clear HS18 hws
    go_upto_region 5 with (fail)
    refine wp_seq_text [] (StR.no HS19) ?_
    iterate 2 (refine Seq.pure rfl rfl (by intro w; go_simp; try rfl) ?_; simp only [Act.put, nA, nB, nC])
    refine Seq.done fun ws20 hws => ?_
    have HS20 := hws.st
    clear HS19 hws
    go_upto_region 6 with (fail)
    refine wp_seq_text [] (StR.move (StR.no HS20)) ?_
    refine Seq.load rfl rfl rfl rfl (by repeat (first | exact mC | apply mT)) (n := 3) rfl (by kernel_rfl) ?_
    simp only [Act.put, nA, nB, nC]
    refine Seq.store rfl rfl rfl rfl rfl (by repeat (first | exact rS | refine rN (by assumption) ?_)) (n := 3) rfl rfl (by kernel_rfl) (RC_one _) ?_
    simp only [Act.put, nA, nB, nC]
    refine Seq.done fun ws21 hws => ?_
    have HS21 := hws.list1 (p := bk8_2) (by repeat (first | exact rS | refine rN (by assumption) ?_))
    clear HS20 hws
    go_upto_region 7 with (fail)
    refine wp_seq_text [] (StR.no HS21) ?_
    refine Seq.load rfl rfl rfl rfl (by repeat (first | exact mC | apply mT)) (n := 3) rfl (by kernel_rfl) ?_
    simp only [Act.put, nA, nB, nC]
    refine Seq.call rfl rfl rfl rfl (by kernel_rfl) (sign_q (k := (1 * k + 0)) HT.out (Z_u.out.more (by omega)) Cu.out (by omega)) ?_
    simp only [Act.put, nA, nB, nC]
    refine Seq.pure rfl rfl (by intro w; go_simp; try rfl) ?_
    simp only [Act.put, nA, nB, nC]
    refine Seq.done fun ws22 hws => ?_
    have HS22 := hws.st
    clear HS21 hws
    go_upto_region 8 with (fail)
    have HPbk3 := HS22.f1
    refine wp_seq [8, 20] (by kernel_rfl) (by kernel_rfl) (Reg.fin.put Reg.fin_no _ _) (StR.move (StR.no HPbk3)) ?_
    iterate 4 (refine Seq.pure rfl rfl (by intro w; go_simp; try rfl) ?_; simp only [Act.put, nA, nB, nC])
    refine Seq.getAt rfl rfl rfl rfl (by repeat (first | exact rS | refine rN (by assumption) ?_)) (n := 3) (cs' := RC p5) (Nat.le_of_ble_eq_true rfl) (by kernel_rfl) rfl ?_
    simp only [Act.put, nA, nB, nC]
    refine Seq.load rfl rfl rfl rfl (by repeat (first | exact mC | apply mT)) (n := 3) rfl (by kernel_rfl) ?_
    simp only [Act.put, nA, nB, nC]
    refine Seq.call rfl rfl rfl rfl (by kernel_rfl) (sub_q (k := (1 * k + 0)) HT.out (Z_p5.out.more (by omega)) (Z_u.out.more (by omega)) rfl (by omega)) ?_
    simp only [Act.put, nA, nB, nC]
    iterate 3 (refine Seq.pure rfl rfl (by intro w; go_simp; try rfl) ?_; simp only [Act.put, nA, nB, nC])
    refine Seq.getAt rfl rfl rfl rfl (by repeat (first | exact rS | refine rN (by assumption) ?_)) (n := 3) (cs' := RC p6) (Nat.le_of_ble_eq_true rfl) (by kernel_rfl) rfl ?_
    simp only [Act.put, nA, nB, nC]
    refine Seq.load rfl rfl rfl rfl (by repeat (first | exact mC | apply mT)) (n := 3) rfl (by kernel_rfl) ?_
    simp only [Act.put, nA, nB, nC]
    refine Seq.call rfl rfl rfl rfl (by kernel_rfl) (add_q (k := (1 * k + 0)) HT.out (Z_p6.out.more (by omega)) (Z_u.out.more (by omega)) rfl (by omega)) ?_
    simp only [Act.put, nA, nB, nC]
    refine Seq.pure (v := .agg (VC (p5 - u) (p6 + u))) rfl rfl (fun w => bld_RSpan (x := (rt (p5 - u))) (y := (rt (p6 + u))) rfl rfl rfl w) ?_
    simp only [Act.put, nA, nB, nC]
    refine Seq.pure rfl rfl (by intro w; go_simp; try rfl) ?_
    simp only [Act.put, nA, nB, nC]
    refine Seq.storeAt (v := .agg (VC (p5 - u) (p6 + u))) rfl rfl rfl rfl rfl (by repeat (first | exact rS | refine rN (by assumption) ?_)) (Nat.le_of_ble_eq_true rfl) (by show _ = some 6; kernel_rfl) (VC_one _ _) (cs' := PW (rt (p1 - b)) (rt (p2 + b)) (rt (p3 - b)) (rt (p4 + b)) (rt (p5 - u)) (rt (p6 + u))) rfl ?_
    simp only [Act.put, nA, nB, nC]
    refine Seq.done fun ws23 hws => ?_
    have HS23 := hws.list1 (p := bk3) (by repeat (first | exact rS | refine rN (by assumption) ?_))
    clear HS22 hws HPbk3
    go_upto_region 9 with (fail)
    refine wp_seq_text [] (StR.no HS23) ?_
    refine Seq.pure (v := .int .i64 3) rfl rfl (by intro w; go_simp; try rfl) ?_
    simp only [Act.put, nA, nB, nC]
    refine Seq.pure rfl rfl (by intro w; go_simp; try rfl) ?_
    simp only [Act.put, nA, nB, nC]
    refine Seq.done fun ws24 hws => ?_
    have HS24 := hws.st
    clear HS23 hws
    go_wp2_with fail
    rw [rounds_succ]
    go_upto_region 2 with (fail)
    refine wp_seq_text [] (StR.no HS24) ?_
    refine Seq.pure rfl rfl (by intro w; go_simp; try rfl) ?_
    simp only [Act.put, nA, nB, nC]
    refine Seq.done fun ws25 hws => ?_
    have HS25 := hws.st
    clear HS24 hws
    go_upto_region 10 with (fail)
    have HPbk6 := HS25.f6
    refine wp_seq_text [] (StR.move (StR.no HPbk6)) ?_
    refine Seq.load rfl rfl rfl rfl (by repeat (first | exact mC | apply mT)) (n := 18) rfl (by kernel_rfl) ?_
    simp only [Act.put, nA, nB, nC]
    refine Seq.store rfl rfl rfl rfl rfl (by repeat (first | exact rS | refine rN (by assumption) ?_)) (n := 18) rfl rfl (by kernel_rfl) (PW_one _ _ _ _ _ _) ?_
    simp only [Act.put, nA, nB, nC]
    refine Seq.done fun ws26 hws => ?_
    have HS26 := hws.list1 (p := bk6) (by repeat (first | exact rS | refine rN (by assumption) ?_))
    clear HS25 hws HPbk6
    go_wp2_with fail
    exact ret_own rfl rfl rfl HS26 (by repeat (first | exact mC | apply mT)) (n := 18) rfl (by kernel_rfl) ⟨congrArg (fun c => Ending.returned (.agg c)) HR.out, HS26.below⟩
  · obtain ⟨vb, hvb, rb, rb'⟩ : ∃ v, sgnQ b = v ∧ decide (v > 0) = true ∧ decide (0 < v) = true := ⟨_, rfl, decide_eq_true ((sgnQ_pos _).2 hpb), decide_eq_true ((sgnQ_pos _).2 hpb)⟩
    have Cb := Lib.hid hvb; clear hvb
    obtain rfl := Z_b.out.pos hpb
    have Z_b' := Lib.hid Z_b.out.rz
    clear Z_b
    have Z_b := Z_b'
    clear Z_b'
    have hmb : maxQ b 0 = b := maxQ_pos hpb
    obtain ⟨vu, hvu, ru, ru'⟩ : ∃ v, sgnQ u = v ∧ decide (v > 0) = false ∧ decide (0 < v) = false := ⟨_, rfl, decide_eq_false (fun h => hpu ((sgnQ_pos _).1 h)), decide_eq_false (fun h => hpu ((sgnQ_pos _).1 h))⟩
    have Cu := Lib.hid hvu; clear hvu
    have hmu : maxQ u 0 = 0 := maxQ_neg hpu
    have HR := Lib.hid (show PW (rt (p1 - b)) (rt (p2 + b)) (rt (p3 - b)) (rt (p4 + b)) (rt p5) (rt p6) = PW (rt (p1 - maxQ b 0)) (rt (p2 + maxQ b 0)) (rt (p3 - maxQ b 0)) (rt (p4 + maxQ b 0)) (rt (p5 - maxQ u 0)) (rt (p6 + maxQ u 0)) from by rw [hmb, hmu]; rw [show p5 - 0 = p5 from by grind]; rw [show p6 + 0 = p6 from by grind])
    clear hmb hmu hpb hpu
    go_enter Tryd.func15, Tryd.ntmps15
    have HS : St w [] w := St.start
    go_upto_region 0 with (fail)
    refine wp_seq_text [] (StR.no HS) ?_
    refine Seq.box rfl rfl rfl (v := .agg (PW (rt p1) (rt p2) (rt p3) (rt p4) (rt p5) (rt p6))) (cs := PW (rt p1) (rt p2) (rt p3) (rt p4) (rt p5) (rt p6)) rfl rfl ?_
    intro bk3 _ _ hbk3_r
    simp only [Act.put, nA, nB, nC]
    refine Seq.box rfl rfl rfl (v := .agg (RC b)) (cs := RC b) rfl rfl ?_
    intro bk4 _ _ hbk4_r
    obtain ⟨ne_bk4_bk3, hbk4_r⟩ := Reg.ne_of_put hbk4_r
    have ne_bk3_bk4 := Ne.symm ne_bk4_bk3
    simp only [Act.put, nA, nB, nC]
    refine Seq.box rfl rfl rfl (v := .agg (RT.c u_t)) (cs := RT.c u_t) rfl rfl ?_
    intro bk5 _ _ hbk5_r
    obtain ⟨ne_bk5_bk4, hbk5_r⟩ := Reg.ne_of_put hbk5_r
    have ne_bk4_bk5 := Ne.symm ne_bk5_bk4
    obtain ⟨ne_bk5_bk3, hbk5_r⟩ := Reg.ne_of_put hbk5_r
    have ne_bk3_bk5 := Ne.symm ne_bk5_bk3
    simp only [Act.put, nA, nB, nC]
    refine Seq.alloc rfl rfl rfl (z := .agg (PW rz0 rz0 rz0 rz0 rz0 rz0)) (by kernel_rfl) rfl ?_
    intro bk6 _ _ hbk6_r
    obtain ⟨ne_bk6_bk5, hbk6_r⟩ := Reg.ne_of_put hbk6_r
    have ne_bk5_bk6 := Ne.symm ne_bk6_bk5
    obtain ⟨ne_bk6_bk4, hbk6_r⟩ := Reg.ne_of_put hbk6_r
    have ne_bk4_bk6 := Ne.symm ne_bk6_bk4
    obtain ⟨ne_bk6_bk3, hbk6_r⟩ := Reg.ne_of_put hbk6_r
    have ne_bk3_bk6 := Ne.symm ne_bk6_bk3
    simp only [Act.put, nA, nB, nC]
    refine Seq.done fun ws1 hws => ?_
    have HS1 : St w [(bk3, 39, PW (rt p1) (rt p2) (rt p3) (rt p4) (rt p5) (rt p6)), (bk4, 23, RC b), (bk5, 23, RT.c u_t), (bk6, 39, PW rz0 rz0 rz0 rz0 rz0 rz0)] ws1 := hws.listN [(bk3, 39, PW (rt p1) (rt p2) (rt p3) (rt p4) (rt p5) (rt p6)), (bk4, 23, RC b), (bk5, 23, RT.c u_t), (bk6, 39, PW rz0 rz0 rz0 rz0 rz0 rz0)] (by simp [*]) (by intro e he; simp only [List.mem_cons, List.not_mem_nil, or_false] at he; rcases he with rfl | rfl | rfl | rfl <;> first | exact Reg.put_same _ _ _ | simp [Reg.put, *])
    clear HS hws
    go_upto_region 1 with (fail)
    refine wp_seq_text [] (StR.no HS1) ?_
    refine Seq.pure rfl rfl (by intro w; go_simp; try rfl) ?_
    simp only [Act.put, nA, nB, nC]
    refine Seq.done fun ws2 hws => ?_
    have HS2 := hws.st
    clear HS1 hws
    go_wp2_with fail
    refine wp_loop_rounds 4 ?_
    rw [rounds_succ]
    go_upto_region 2 with (fail)
    refine wp_seq_text [] (StR.no HS2) ?_
    refine Seq.pure rfl rfl (by intro w; go_simp; try rfl) ?_
    simp only [Act.put, nA, nB, nC]
    refine Seq.done fun ws3 hws => ?_
    have HS3 := hws.st
    clear HS2 hws
    go_upto_region 3 with (fail)
    refine wp_seq_text [] (StR.no HS3) ?_
    iterate 2 (refine Seq.pure rfl rfl (by intro w; go_simp; try rfl) ?_; simp only [Act.put, nA, nB, nC])
    refine Seq.done fun ws4 hws => ?_
    have HS4 := hws.st
    clear HS3 hws
    go_upto_region 4 with (fail)
    refine wp_seq_text [] (StR.no HS4) ?_
    refine Seq.load rfl rfl rfl rfl (by repeat (first | exact mC | apply mT)) (n := 3) rfl (by kernel_rfl) ?_
    simp only [Act.put, nA, nB, nC]
    refine Seq.alloc rfl rfl rfl (z := .agg (RT.c rz0)) (by kernel_rfl) rfl ?_
    intro bk8 _ _ hbk8_r
    simp only [Act.put, nA, nB, nC]
    refine Seq.store rfl rfl rfl rfl rfl (by repeat (first | exact rS | refine rN (by assumption) ?_)) (n := 3) rfl rfl (by kernel_rfl) (RC_one _) ?_
    simp only [Act.put, nA, nB, nC]
    refine Seq.done fun ws5 hws => ?_
    have HS5 := hws.list1 (p := bk8) (by repeat (first | exact rS | refine rN (by assumption) ?_))
    clear HS4 hws
    go_upto_region 5 with (fail)
    refine wp_seq_text [] (StR.no HS5) ?_
    iterate 2 (refine Seq.pure rfl rfl (by intro w; go_simp; try rfl) ?_; simp only [Act.put, nA, nB, nC])
    refine Seq.done fun ws6 hws => ?_
    have HS6 := hws.st
    clear HS5 hws
    go_upto_region 7 with (fail)
    refine wp_seq_text [] (StR.no HS6) ?_
    refine Seq.load rfl rfl rfl rfl (by repeat (first | exact mC | apply mT)) (n := 3) rfl (by kernel_rfl) ?_
    simp only [Act.put, nA, nB, nC]
    refine Seq.call rfl rfl rfl rfl (by kernel_rfl) (sign_q (k := (1 * k + 0)) HT.out (Z_b.out.more (by omega)) Cb.out (by omega)) ?_
    simp only [Act.put, nA, nB, nC]
    refine Seq.pure rfl rfl (by intro w; go_simp; try rfl) ?_
    simp only [Act.put, nA, nB, nC]
    refine Seq.done fun ws7 hws => ?_
    have HS7 := hws.st
    clear HS6 hws
    go_upto_region 8 with (fail)
    have HPbk3 := HS7.f1
    refine wp_seq [8, 20] (by kernel_rfl) (by kernel_rfl) (Reg.fin.put Reg.fin_no _ _) (StR.move (StR.no HPbk3)) ?_
    iterate 4 (refine Seq.pure rfl rfl (by intro w; go_simp; try rfl) ?_; simp only [Act.put, nA, nB, nC])
    refine Seq.getAt rfl rfl rfl rfl (by repeat (first | exact rS | refine rN (by assumption) ?_)) (n := 3) (cs' := RC p1) (Nat.le_of_ble_eq_true rfl) (by kernel_rfl) rfl ?_
    simp only [Act.put, nA, nB, nC]
    refine Seq.load rfl rfl rfl rfl (by repeat (first | exact mC | apply mT)) (n := 3) rfl (by kernel_rfl) ?_
    simp only [Act.put, nA, nB, nC]
    refine Seq.call rfl rfl rfl rfl (by kernel_rfl) (sub_q (k := (1 * k + 0)) HT.out (Z_p1.out.more (by omega)) (Z_b.out.more (by omega)) rfl (by omega)) ?_
    simp only [Act.put, nA, nB, nC]
    iterate 3 (refine Seq.pure rfl rfl (by intro w; go_simp; try rfl) ?_; simp only [Act.put, nA, nB, nC])
    refine Seq.getAt rfl rfl rfl rfl (by repeat (first | exact rS | refine rN (by assumption) ?_)) (n := 3) (cs' := RC p2) (Nat.le_of_ble_eq_true rfl) (by kernel_rfl) rfl ?_
    simp only [Act.put, nA, nB, nC]
    refine Seq.load rfl rfl rfl rfl (by repeat (first | exact mC | apply mT)) (n := 3) rfl (by kernel_rfl) ?_
    simp only [Act.put, nA, nB, nC]
    refine Seq.call rfl rfl rfl rfl (by kernel_rfl) (add_q (k := (1 * k + 0)) HT.out (Z_p2.out.more (by omega)) (Z_b.out.more (by omega)) rfl (by omega)) ?_
    simp only [Act.put, nA, nB, nC]
    refine Seq.pure (v := .agg (VC (p1 - b) (p2 + b))) rfl rfl (fun w => bld_RSpan (x := (rt (p1 - b))) (y := (rt (p2 + b))) rfl rfl rfl w) ?_
    simp only [Act.put, nA, nB, nC]
    refine Seq.pure rfl rfl (by intro w; go_simp; try rfl) ?_
    simp only [Act.put, nA, nB, nC]
    refine Seq.storeAt (v := .agg (VC (p1 - b) (p2 + b))) rfl rfl rfl rfl rfl (by repeat (first | exact rS | refine rN (by assumption) ?_)) (Nat.le_of_ble_eq_true rfl) (by show _ = some 6; kernel_rfl) (VC_one _ _) (cs' := PW (rt (p1 - b)) (rt (p2 + b)) (rt p3) (rt p4) (rt p5) (rt p6)) rfl ?_
    simp only [Act.put, nA, nB, nC]
    refine Seq.done fun ws8 hws => ?_
    have HS8 := hws.list1 (p := bk3) (by repeat (first | exact rS | refine rN (by assumption) ?_))
    clear HS7 hws HPbk3
    go_upto_region 9 with (fail)
    refine wp_seq_text [] (StR.no HS8) ?_
    refine Seq.pure (v := .int .i64 1) rfl rfl (by intro w; go_simp; try rfl) ?_
    simp only [Act.put, nA, nB, nC]
    refine Seq.pure rfl rfl (by intro w; go_simp; try rfl) ?_
    simp only [Act.put, nA, nB, nC]
    refine Seq.done fun ws9 hws => ?_
    have HS9 := hws.st
    clear HS8 hws
    go_wp2_with fail
    rw [rounds_succ]
    go_upto_region 2 with (fail)
    refine wp_seq_text [] (StR.no HS9) ?_
    refine Seq.pure rfl rfl (by intro w; go_simp; try rfl) ?_
    simp only [Act.put, nA, nB, nC]
    refine Seq.done fun ws10 hws => ?_
    have HS10 := hws.st
    clear HS9 hws
    go_upto_region 3 with (fail)
    refine wp_seq_text [] (StR.no HS10) ?_
    iterate 2 (refine Seq.pure rfl rfl (by intro w; go_simp; try rfl) ?_; simp only [Act.put, nA, nB, nC])
    refine Seq.done fun ws11 hws => ?_
    have HS11 := hws.st
    clear HS10 hws
    go_upto_region 4 with (fail)
    refine wp_seq_text [] (StR.no HS11) ?_
    refine Seq.load rfl rfl rfl rfl (by repeat (first | exact mC | apply mT)) (n := 3) rfl (by kernel_rfl) ?_
    simp only [Act.put, nA, nB, nC]
    refine Seq.alloc rfl rfl rfl (z := .agg (RT.c rz0)) (by kernel_rfl) rfl ?_
    intro bk8_1 _ _ hbk8_1_r
    simp only [Act.put, nA, nB, nC]
    refine Seq.store rfl rfl rfl rfl rfl (by repeat (first | exact rS | refine rN (by assumption) ?_)) (n := 3) rfl rfl (by kernel_rfl) (RC_one _) ?_
    simp only [Act.put, nA, nB, nC]
    refine Seq.done fun ws12 hws => ?_
    have HS12 := hws.list1 (p := bk8_1) (by repeat (first | exact rS | refine rN (by assumption) ?_))
    clear HS11 hws
    go_upto_region 5 with (fail)
    refine wp_seq_text [] (StR.no HS12) ?_
    iterate 2 (refine Seq.pure rfl rfl (by intro w; go_simp; try rfl) ?_; simp only [Act.put, nA, nB, nC])
    refine Seq.done fun ws13 hws => ?_
    have HS13 := hws.st
    clear HS12 hws
    go_upto_region 7 with (fail)
    refine wp_seq_text [] (StR.no HS13) ?_
    refine Seq.load rfl rfl rfl rfl (by repeat (first | exact mC | apply mT)) (n := 3) rfl (by kernel_rfl) ?_
    simp only [Act.put, nA, nB, nC]
    refine Seq.call rfl rfl rfl rfl (by kernel_rfl) (sign_q (k := (1 * k + 0)) HT.out (Z_b.out.more (by omega)) Cb.out (by omega)) ?_
    simp only [Act.put, nA, nB, nC]
    refine Seq.pure rfl rfl (by intro w; go_simp; try rfl) ?_
    simp only [Act.put, nA, nB, nC]
    refine Seq.done fun ws14 hws => ?_
    have HS14 := hws.st
    clear HS13 hws
    go_upto_region 8 with (fail)
    have HPbk3 := HS14.f1
    refine wp_seq [8, 20] (by kernel_rfl) (by kernel_rfl) (Reg.fin.put Reg.fin_no _ _) (StR.move (StR.no HPbk3)) ?_
    iterate 4 (refine Seq.pure rfl rfl (by intro w; go_simp; try rfl) ?_; simp only [Act.put, nA, nB, nC])
    refine Seq.getAt rfl rfl rfl rfl (by repeat (first | exact rS | refine rN (by assumption) ?_)) (n := 3) (cs' := RC p3) (Nat.le_of_ble_eq_true rfl) (by kernel_rfl) rfl ?_
    simp only [Act.put, nA, nB, nC]
    refine Seq.load rfl rfl rfl rfl (by repeat (first | exact mC | apply mT)) (n := 3) rfl (by kernel_rfl) ?_
    simp only [Act.put, nA, nB, nC]
    refine Seq.call rfl rfl rfl rfl (by kernel_rfl) (sub_q (k := (1 * k + 0)) HT.out (Z_p3.out.more (by omega)) (Z_b.out.more (by omega)) rfl (by omega)) ?_
    simp only [Act.put, nA, nB, nC]
    iterate 3 (refine Seq.pure rfl rfl (by intro w; go_simp; try rfl) ?_; simp only [Act.put, nA, nB, nC])
    refine Seq.getAt rfl rfl rfl rfl (by repeat (first | exact rS | refine rN (by assumption) ?_)) (n := 3) (cs' := RC p4) (Nat.le_of_ble_eq_true rfl) (by kernel_rfl) rfl ?_
    simp only [Act.put, nA, nB, nC]
    refine Seq.load rfl rfl rfl rfl (by repeat (first | exact mC | apply mT)) (n := 3) rfl (by kernel_rfl) ?_
    simp only [Act.put, nA, nB, nC]
    refine Seq.call rfl rfl rfl rfl (by kernel_rfl) (add_q (k := (1 * k + 0)) HT.out (Z_p4.out.more (by omega)) (Z_b.out.more (by omega)) rfl (by omega)) ?_
    simp only [Act.put, nA, nB, nC]
    refine Seq.pure (v := .agg (VC (p3 - b) (p4 + b))) rfl rfl (fun w => bld_RSpan (x := (rt (p3 - b))) (y := (rt (p4 + b))) rfl rfl rfl w) ?_
    simp only [Act.put, nA, nB, nC]
    refine Seq.pure rfl rfl (by intro w; go_simp; try rfl) ?_
    simp only [Act.put, nA, nB, nC]
    refine Seq.storeAt (v := .agg (VC (p3 - b) (p4 + b))) rfl rfl rfl rfl rfl (by repeat (first | exact rS | refine rN (by assumption) ?_)) (Nat.le_of_ble_eq_true rfl) (by show _ = some 6; kernel_rfl) (VC_one _ _) (cs' := PW (rt (p1 - b)) (rt (p2 + b)) (rt (p3 - b)) (rt (p4 + b)) (rt p5) (rt p6)) rfl ?_
    simp only [Act.put, nA, nB, nC]
    refine Seq.done fun ws15 hws => ?_
    have HS15 := hws.list1 (p := bk3) (by repeat (first | exact rS | refine rN (by assumption) ?_))
    clear HS14 hws HPbk3
    go_upto_region 9 with (fail)
    refine wp_seq_text [] (StR.no HS15) ?_
    refine Seq.pure (v := .int .i64 2) rfl rfl (by intro w; go_simp; try rfl) ?_
    simp only [Act.put, nA, nB, nC]
    refine Seq.pure rfl rfl (by intro w; go_simp; try rfl) ?_
    simp only [Act.put, nA, nB, nC]
    refine Seq.done fun ws16 hws => ?_
    have HS16 := hws.st
    clear HS15 hws
    go_wp2_with fail
    rw [rounds_succ]
    go_upto_region 2 with (fail)
    refine wp_seq_text [] (StR.no HS16) ?_
    refine Seq.pure rfl rfl (by intro w; go_simp; try rfl) ?_
    simp only [Act.put, nA, nB, nC]
    refine Seq.done fun ws17 hws => ?_
    have HS17 := hws.st
    clear HS16 hws
    go_upto_region 3 with (fail)
    refine wp_seq_text [] (StR.no HS17) ?_
    iterate 2 (refine Seq.pure rfl rfl (by intro w; go_simp; try rfl) ?_; simp only [Act.put, nA, nB, nC])
    refine Seq.done fun ws18 hws => ?_
    have HS18 := hws.st
    clear HS17 hws
    go_upto_region 4 with (fail)
    refine wp_seq_text [] (StR.no HS18) ?_
    refine Seq.load rfl rfl rfl rfl (by repeat (first | exact mC | apply mT)) (n := 3) rfl (by kernel_rfl) ?_
    simp only [Act.put, nA, nB, nC]
    refine Seq.alloc rfl rfl rfl (z := .agg (RT.c rz0)) (by kernel_rfl) rfl ?_
    intro bk8_2 _ _ hbk8_2_r
    simp only [Act.put, nA, nB, nC]
    refine Seq.store rfl rfl rfl rfl rfl (by repeat (first | exact rS | refine rN (by assumption) ?_)) (n := 3) rfl rfl (by kernel_rfl) (RC_one _) ?_
    simp only [Act.put, nA, nB, nC]
    refine Seq.done fun ws19 hws => ?_
    have HS19 := hws.list1 (p := bk8_2) (by repeat (first | exact rS | refine rN (by assumption) ?_))
    clear HS18 hws
    go_upto_region 5 with (fail)
    refine wp_seq_text [] (StR.no HS19) ?_
    iterate 2 (refine Seq.pure rfl rfl (by intro w; go_simp; try rfl) ?_; simp only [Act.put, nA, nB, nC])
    refine Seq.done fun ws20 hws => ?_
    have HS20 := hws.st
    clear HS19 hws
    go_upto_region 6 with (fail)
    refine wp_seq_text [] (StR.move (StR.no HS20)) ?_
    refine Seq.load rfl rfl rfl rfl (by repeat (first | exact mC | apply mT)) (n := 3) rfl (by kernel_rfl) ?_
    simp only [Act.put, nA, nB, nC]
    refine Seq.store rfl rfl rfl rfl rfl (by repeat (first | exact rS | refine rN (by assumption) ?_)) (n := 3) rfl rfl (by kernel_rfl) (RT_one _) ?_
    simp only [Act.put, nA, nB, nC]
    refine Seq.done fun ws21 hws => ?_
    have HS21 := hws.list1 (p := bk8_2) (by repeat (first | exact rS | refine rN (by assumption) ?_))
    clear HS20 hws
    go_upto_region 7 with (fail)
    refine wp_seq_text [] (StR.no HS21) ?_
    refine Seq.load rfl rfl rfl rfl (by repeat (first | exact mC | apply mT)) (n := 3) rfl (by kernel_rfl) ?_
    simp only [Act.put, nA, nB, nC]
    refine Seq.call rfl rfl rfl rfl (by kernel_rfl) (sign_w (k := (1 * k + 2)) HT.out (Z_u.out.more (by omega)) Cu.out (by omega)) ?_
    simp only [Act.put, nA, nB, nC]
    refine Seq.pure rfl rfl (by intro w; go_simp; try rfl) ?_
    simp only [Act.put, nA, nB, nC]
    refine Seq.done fun ws22 hws => ?_
    have HS22 := hws.st
    clear HS21 hws
    go_upto_region 9 with (fail)
    refine wp_seq_text [] (StR.no HS22) ?_
    refine Seq.pure (v := .int .i64 3) rfl rfl (by intro w; go_simp; try rfl) ?_
    simp only [Act.put, nA, nB, nC]
    refine Seq.pure rfl rfl (by intro w; go_simp; try rfl) ?_
    simp only [Act.put, nA, nB, nC]
    refine Seq.done fun ws23 hws => ?_
    have HS23 := hws.st
    clear HS22 hws
    go_wp2_with fail
    rw [rounds_succ]
    go_upto_region 2 with (fail)
    refine wp_seq_text [] (StR.no HS23) ?_
    refine Seq.pure rfl rfl (by intro w; go_simp; try rfl) ?_
    simp only [Act.put, nA, nB, nC]
    refine Seq.done fun ws24 hws => ?_
    have HS24 := hws.st
    clear HS23 hws
    go_upto_region 10 with (fail)
    have HPbk6 := HS24.f6
    refine wp_seq_text [] (StR.move (StR.no HPbk6)) ?_
    refine Seq.load rfl rfl rfl rfl (by repeat (first | exact mC | apply mT)) (n := 18) rfl (by kernel_rfl) ?_
    simp only [Act.put, nA, nB, nC]
    refine Seq.store rfl rfl rfl rfl rfl (by repeat (first | exact rS | refine rN (by assumption) ?_)) (n := 18) rfl rfl (by kernel_rfl) (PW_one _ _ _ _ _ _) ?_
    simp only [Act.put, nA, nB, nC]
    refine Seq.done fun ws25 hws => ?_
    have HS25 := hws.list1 (p := bk6) (by repeat (first | exact rS | refine rN (by assumption) ?_))
    clear HS24 hws HPbk6
    go_wp2_with fail
    exact ret_own rfl rfl rfl HS25 (by repeat (first | exact mC | apply mT)) (n := 18) rfl (by kernel_rfl) ⟨congrArg (fun c => Ending.returned (.agg c)) HR.out, HS25.below⟩
  · obtain ⟨vb, hvb, rb, rb'⟩ : ∃ v, sgnQ b = v ∧ decide (v > 0) = false ∧ decide (0 < v) = false := ⟨_, rfl, decide_eq_false (fun h => hpb ((sgnQ_pos _).1 h)), decide_eq_false (fun h => hpb ((sgnQ_pos _).1 h))⟩
    have Cb := Lib.hid hvb; clear hvb
    have hmb : maxQ b 0 = 0 := maxQ_neg hpb
    obtain ⟨vu, hvu, ru, ru'⟩ : ∃ v, sgnQ u = v ∧ decide (v > 0) = true ∧ decide (0 < v) = true := ⟨_, rfl, decide_eq_true ((sgnQ_pos _).2 hpu), decide_eq_true ((sgnQ_pos _).2 hpu)⟩
    have Cu := Lib.hid hvu; clear hvu
    obtain rfl := Z_u.out.pos hpu
    have Z_u' := Lib.hid Z_u.out.rz
    clear Z_u
    have Z_u := Z_u'
    clear Z_u'
    have hmu : maxQ u 0 = u := maxQ_pos hpu
    have HR := Lib.hid (show PW (rt p1) (rt p2) (rt p3) (rt p4) (rt (p5 - u)) (rt (p6 + u)) = PW (rt (p1 - maxQ b 0)) (rt (p2 + maxQ b 0)) (rt (p3 - maxQ b 0)) (rt (p4 + maxQ b 0)) (rt (p5 - maxQ u 0)) (rt (p6 + maxQ u 0)) from by rw [hmb, hmu]; rw [show p1 - 0 = p1 from by grind]; rw [show p2 + 0 = p2 from by grind]; rw [show p3 - 0 = p3 from by grind]; rw [show p4 + 0 = p4 from by grind])
    clear hmb hmu hpb hpu
    go_enter Tryd.func15, Tryd.ntmps15
    have HS : St w [] w := St.start
    go_upto_region 0 with (fail)
    refine wp_seq_text [] (StR.no HS) ?_
    refine Seq.box rfl rfl rfl (v := .agg (PW (rt p1) (rt p2) (rt p3) (rt p4) (rt p5) (rt p6))) (cs := PW (rt p1) (rt p2) (rt p3) (rt p4) (rt p5) (rt p6)) rfl rfl ?_
    intro bk3 _ _ hbk3_r
    simp only [Act.put, nA, nB, nC]
    refine Seq.box rfl rfl rfl (v := .agg (RT.c b_t)) (cs := RT.c b_t) rfl rfl ?_
    intro bk4 _ _ hbk4_r
    obtain ⟨ne_bk4_bk3, hbk4_r⟩ := Reg.ne_of_put hbk4_r
    have ne_bk3_bk4 := Ne.symm ne_bk4_bk3
    simp only [Act.put, nA, nB, nC]
    refine Seq.box rfl rfl rfl (v := .agg (RC u)) (cs := RC u) rfl rfl ?_
    intro bk5 _ _ hbk5_r
    obtain ⟨ne_bk5_bk4, hbk5_r⟩ := Reg.ne_of_put hbk5_r
    have ne_bk4_bk5 := Ne.symm ne_bk5_bk4
    obtain ⟨ne_bk5_bk3, hbk5_r⟩ := Reg.ne_of_put hbk5_r
    have ne_bk3_bk5 := Ne.symm ne_bk5_bk3
    simp only [Act.put, nA, nB, nC]
    refine Seq.alloc rfl rfl rfl (z := .agg (PW rz0 rz0 rz0 rz0 rz0 rz0)) (by kernel_rfl) rfl ?_
    intro bk6 _ _ hbk6_r
    obtain ⟨ne_bk6_bk5, hbk6_r⟩ := Reg.ne_of_put hbk6_r
    have ne_bk5_bk6 := Ne.symm ne_bk6_bk5
    obtain ⟨ne_bk6_bk4, hbk6_r⟩ := Reg.ne_of_put hbk6_r
    have ne_bk4_bk6 := Ne.symm ne_bk6_bk4
    obtain ⟨ne_bk6_bk3, hbk6_r⟩ := Reg.ne_of_put hbk6_r
    have ne_bk3_bk6 := Ne.symm ne_bk6_bk3
    simp only [Act.put, nA, nB, nC]
    refine Seq.done fun ws1 hws => ?_
    have HS1 : St w [(bk3, 39, PW (rt p1) (rt p2) (rt p3) (rt p4) (rt p5) (rt p6)), (bk4, 23, RT.c b_t), (bk5, 23, RC u), (bk6, 39, PW rz0 rz0 rz0 rz0 rz0 rz0)] ws1 := hws.listN [(bk3, 39, PW (rt p1) (rt p2) (rt p3) (rt p4) (rt p5) (rt p6)), (bk4, 23, RT.c b_t), (bk5, 23, RC u), (bk6, 39, PW rz0 rz0 rz0 rz0 rz0 rz0)] (by simp [*]) (by intro e he; simp only [List.mem_cons, List.not_mem_nil, or_false] at he; rcases he with rfl | rfl | rfl | rfl <;> first | exact Reg.put_same _ _ _ | simp [Reg.put, *])
    clear HS hws
    go_upto_region 1 with (fail)
    refine wp_seq_text [] (StR.no HS1) ?_
    refine Seq.pure rfl rfl (by intro w; go_simp; try rfl) ?_
    simp only [Act.put, nA, nB, nC]
    refine Seq.done fun ws2 hws => ?_
    have HS2 := hws.st
    clear HS1 hws
    go_wp2_with fail
    refine wp_loop_rounds 4 ?_
    rw [rounds_succ]
    go_upto_region 2 with (fail)
    refine wp_seq_text [] (StR.no HS2) ?_
    refine Seq.pure rfl rfl (by intro w; go_simp; try rfl) ?_
    simp only [Act.put, nA, nB, nC]
    refine Seq.done fun ws3 hws => ?_
    have HS3 := hws.st
    clear HS2 hws
    go_upto_region 3 with (fail)
    refine wp_seq_text [] (StR.no HS3) ?_
    iterate 2 (refine Seq.pure rfl rfl (by intro w; go_simp; try rfl) ?_; simp only [Act.put, nA, nB, nC])
    refine Seq.done fun ws4 hws => ?_
    have HS4 := hws.st
    clear HS3 hws
    go_upto_region 4 with (fail)
    refine wp_seq_text [] (StR.no HS4) ?_
    refine Seq.load rfl rfl rfl rfl (by repeat (first | exact mC | apply mT)) (n := 3) rfl (by kernel_rfl) ?_
    simp only [Act.put, nA, nB, nC]
    refine Seq.alloc rfl rfl rfl (z := .agg (RT.c rz0)) (by kernel_rfl) rfl ?_
    intro bk8 _ _ hbk8_r
    simp only [Act.put, nA, nB, nC]
    refine Seq.store rfl rfl rfl rfl rfl (by repeat (first | exact rS | refine rN (by assumption) ?_)) (n := 3) rfl rfl (by kernel_rfl) (RT_one _) ?_
    simp only [Act.put, nA, nB, nC]
    refine Seq.done fun ws5 hws => ?_
    have HS5 := hws.list1 (p := bk8) (by repeat (first | exact rS | refine rN (by assumption) ?_))
    clear HS4 hws
    go_upto_region 5 with (fail)
    refine wp_seq_text [] (StR.no HS5) ?_
    iterate 2 (refine Seq.pure rfl rfl (by intro w; go_simp; try rfl) ?_; simp only [Act.put, nA, nB, nC])
    refine Seq.done fun ws6 hws => ?_
    have HS6 := hws.st
    clear HS5 hws
    go_upto_region 7 with (fail)
    refine wp_seq_text [] (StR.no HS6) ?_
    refine Seq.load rfl rfl rfl rfl (by repeat (first | exact mC | apply mT)) (n := 3) rfl (by kernel_rfl) ?_
    simp only [Act.put, nA, nB, nC]
    refine Seq.call rfl rfl rfl rfl (by kernel_rfl) (sign_w (k := (1 * k + 2)) HT.out (Z_b.out.more (by omega)) Cb.out (by omega)) ?_
    simp only [Act.put, nA, nB, nC]
    refine Seq.pure rfl rfl (by intro w; go_simp; try rfl) ?_
    simp only [Act.put, nA, nB, nC]
    refine Seq.done fun ws7 hws => ?_
    have HS7 := hws.st
    clear HS6 hws
    go_upto_region 9 with (fail)
    refine wp_seq_text [] (StR.no HS7) ?_
    refine Seq.pure (v := .int .i64 1) rfl rfl (by intro w; go_simp; try rfl) ?_
    simp only [Act.put, nA, nB, nC]
    refine Seq.pure rfl rfl (by intro w; go_simp; try rfl) ?_
    simp only [Act.put, nA, nB, nC]
    refine Seq.done fun ws8 hws => ?_
    have HS8 := hws.st
    clear HS7 hws
    go_wp2_with fail
    rw [rounds_succ]
    go_upto_region 2 with (fail)
    refine wp_seq_text [] (StR.no HS8) ?_
    refine Seq.pure rfl rfl (by intro w; go_simp; try rfl) ?_
    simp only [Act.put, nA, nB, nC]
    refine Seq.done fun ws9 hws => ?_
    have HS9 := hws.st
    clear HS8 hws
    go_upto_region 3 with (fail)
    refine wp_seq_text [] (StR.no HS9) ?_
    iterate 2 (refine Seq.pure rfl rfl (by intro w; go_simp; try rfl) ?_; simp only [Act.put, nA, nB, nC])
    refine Seq.done fun ws10 hws => ?_
    have HS10 := hws.st
    clear HS9 hws
    go_upto_region 4 with (fail)
    refine wp_seq_text [] (StR.no HS10) ?_
    refine Seq.load rfl rfl rfl rfl (by repeat (first | exact mC | apply mT)) (n := 3) rfl (by kernel_rfl) ?_
    simp only [Act.put, nA, nB, nC]
    refine Seq.alloc rfl rfl rfl (z := .agg (RT.c rz0)) (by kernel_rfl) rfl ?_
    intro bk8_1 _ _ hbk8_1_r
    simp only [Act.put, nA, nB, nC]
    refine Seq.store rfl rfl rfl rfl rfl (by repeat (first | exact rS | refine rN (by assumption) ?_)) (n := 3) rfl rfl (by kernel_rfl) (RT_one _) ?_
    simp only [Act.put, nA, nB, nC]
    refine Seq.done fun ws11 hws => ?_
    have HS11 := hws.list1 (p := bk8_1) (by repeat (first | exact rS | refine rN (by assumption) ?_))
    clear HS10 hws
    go_upto_region 5 with (fail)
    refine wp_seq_text [] (StR.no HS11) ?_
    iterate 2 (refine Seq.pure rfl rfl (by intro w; go_simp; try rfl) ?_; simp only [Act.put, nA, nB, nC])
    refine Seq.done fun ws12 hws => ?_
    have HS12 := hws.st
    clear HS11 hws
    go_upto_region 7 with (fail)
    refine wp_seq_text [] (StR.no HS12) ?_
    refine Seq.load rfl rfl rfl rfl (by repeat (first | exact mC | apply mT)) (n := 3) rfl (by kernel_rfl) ?_
    simp only [Act.put, nA, nB, nC]
    refine Seq.call rfl rfl rfl rfl (by kernel_rfl) (sign_w (k := (1 * k + 2)) HT.out (Z_b.out.more (by omega)) Cb.out (by omega)) ?_
    simp only [Act.put, nA, nB, nC]
    refine Seq.pure rfl rfl (by intro w; go_simp; try rfl) ?_
    simp only [Act.put, nA, nB, nC]
    refine Seq.done fun ws13 hws => ?_
    have HS13 := hws.st
    clear HS12 hws
    go_upto_region 9 with (fail)
    refine wp_seq_text [] (StR.no HS13) ?_
    refine Seq.pure (v := .int .i64 2) rfl rfl (by intro w; go_simp; try rfl) ?_
    simp only [Act.put, nA, nB, nC]
    refine Seq.pure rfl rfl (by intro w; go_simp; try rfl) ?_
    simp only [Act.put, nA, nB, nC]
    refine Seq.done fun ws14 hws => ?_
    have HS14 := hws.st
    clear HS13 hws
    go_wp2_with fail
    rw [rounds_succ]
    go_upto_region 2 with (fail)
    refine wp_seq_text [] (StR.no HS14) ?_
    refine Seq.pure rfl rfl (by intro w; go_simp; try rfl) ?_
    simp only [Act.put, nA, nB, nC]
    refine Seq.done fun ws15 hws => ?_
    have HS15 := hws.st
    clear HS14 hws
    go_upto_region 3 with (fail)
    refine wp_seq_text [] (StR.no HS15) ?_
    iterate 2 (refine Seq.pure rfl rfl (by intro w; go_simp; try rfl) ?_; simp only [Act.put, nA, nB, nC])
    refine Seq.done fun ws16 hws => ?_
    have HS16 := hws.st
    clear HS15 hws
    go_upto_region 4 with (fail)
    refine wp_seq_text [] (StR.no HS16) ?_
    refine Seq.load rfl rfl rfl rfl (by repeat (first | exact mC | apply mT)) (n := 3) rfl (by kernel_rfl) ?_
    simp only [Act.put, nA, nB, nC]
    refine Seq.alloc rfl rfl rfl (z := .agg (RT.c rz0)) (by kernel_rfl) rfl ?_
    intro bk8_2 _ _ hbk8_2_r
    simp only [Act.put, nA, nB, nC]
    refine Seq.store rfl rfl rfl rfl rfl (by repeat (first | exact rS | refine rN (by assumption) ?_)) (n := 3) rfl rfl (by kernel_rfl) (RT_one _) ?_
    simp only [Act.put, nA, nB, nC]
    refine Seq.done fun ws17 hws => ?_
    have HS17 := hws.list1 (p := bk8_2) (by repeat (first | exact rS | refine rN (by assumption) ?_))
    clear HS16 hws
    go_upto_region 5 with (fail)
    refine wp_seq_text [] (StR.no HS17) ?_
    iterate 2 (refine Seq.pure rfl rfl (by intro w; go_simp; try rfl) ?_; simp only [Act.put, nA, nB, nC])
    refine Seq.done fun ws18 hws => ?_
    have HS18 := hws.st
    clear HS17 hws
    go_upto_region 6 with (fail)
    refine wp_seq_text [] (StR.move (StR.no HS18)) ?_
    refine Seq.load rfl rfl rfl rfl (by repeat (first | exact mC | apply mT)) (n := 3) rfl (by kernel_rfl) ?_
    simp only [Act.put, nA, nB, nC]
    refine Seq.store rfl rfl rfl rfl rfl (by repeat (first | exact rS | refine rN (by assumption) ?_)) (n := 3) rfl rfl (by kernel_rfl) (RC_one _) ?_
    simp only [Act.put, nA, nB, nC]
    refine Seq.done fun ws19 hws => ?_
    have HS19 := hws.list1 (p := bk8_2) (by repeat (first | exact rS | refine rN (by assumption) ?_))
    clear HS18 hws
    go_upto_region 7 with (fail)
    refine wp_seq_text [] (StR.no HS19) ?_
    refine Seq.load rfl rfl rfl rfl (by repeat (first | exact mC | apply mT)) (n := 3) rfl (by kernel_rfl) ?_
    simp only [Act.put, nA, nB, nC]
    refine Seq.call rfl rfl rfl rfl (by kernel_rfl) (sign_q (k := (1 * k + 0)) HT.out (Z_u.out.more (by omega)) Cu.out (by omega)) ?_
    simp only [Act.put, nA, nB, nC]
    refine Seq.pure rfl rfl (by intro w; go_simp; try rfl) ?_
    simp only [Act.put, nA, nB, nC]
    refine Seq.done fun ws20 hws => ?_
    have HS20 := hws.st
    clear HS19 hws
    go_upto_region 8 with (fail)
    have HPbk3 := HS20.f3
    refine wp_seq [8, 20] (by kernel_rfl) (by kernel_rfl) (Reg.fin.put Reg.fin_no _ _) (StR.move (StR.no HPbk3)) ?_
    iterate 4 (refine Seq.pure rfl rfl (by intro w; go_simp; try rfl) ?_; simp only [Act.put, nA, nB, nC])
    refine Seq.getAt rfl rfl rfl rfl (by repeat (first | exact rS | refine rN (by assumption) ?_)) (n := 3) (cs' := RC p5) (Nat.le_of_ble_eq_true rfl) (by kernel_rfl) rfl ?_
    simp only [Act.put, nA, nB, nC]
    refine Seq.load rfl rfl rfl rfl (by repeat (first | exact mC | apply mT)) (n := 3) rfl (by kernel_rfl) ?_
    simp only [Act.put, nA, nB, nC]
    refine Seq.call rfl rfl rfl rfl (by kernel_rfl) (sub_q (k := (1 * k + 0)) HT.out (Z_p5.out.more (by omega)) (Z_u.out.more (by omega)) rfl (by omega)) ?_
    simp only [Act.put, nA, nB, nC]
    iterate 3 (refine Seq.pure rfl rfl (by intro w; go_simp; try rfl) ?_; simp only [Act.put, nA, nB, nC])
    refine Seq.getAt rfl rfl rfl rfl (by repeat (first | exact rS | refine rN (by assumption) ?_)) (n := 3) (cs' := RC p6) (Nat.le_of_ble_eq_true rfl) (by kernel_rfl) rfl ?_
    simp only [Act.put, nA, nB, nC]
    refine Seq.load rfl rfl rfl rfl (by repeat (first | exact mC | apply mT)) (n := 3) rfl (by kernel_rfl) ?_
    simp only [Act.put, nA, nB, nC]
    refine Seq.call rfl rfl rfl rfl (by kernel_rfl) (add_q (k := (1 * k + 0)) HT.out (Z_p6.out.more (by omega)) (Z_u.out.more (by omega)) rfl (by omega)) ?_
    simp only [Act.put, nA, nB, nC]
    refine Seq.pure (v := .agg (VC (p5 - u) (p6 + u))) rfl rfl (fun w => bld_RSpan (x := (rt (p5 - u))) (y := (rt (p6 + u))) rfl rfl rfl w) ?_
    simp only [Act.put, nA, nB, nC]
    refine Seq.pure rfl rfl (by intro w; go_simp; try rfl) ?_
    simp only [Act.put, nA, nB, nC]
    refine Seq.storeAt (v := .agg (VC (p5 - u) (p6 + u))) rfl rfl rfl rfl rfl (by repeat (first | exact rS | refine rN (by assumption) ?_)) (Nat.le_of_ble_eq_true rfl) (by show _ = some 6; kernel_rfl) (VC_one _ _) (cs' := PW (rt p1) (rt p2) (rt p3) (rt p4) (rt (p5 - u)) (rt (p6 + u))) rfl ?_
    simp only [Act.put, nA, nB, nC]
    refine Seq.done fun ws21 hws => ?_
    have HS21 := hws.list1 (p := bk3) (by repeat (first | exact rS | refine rN (by assumption) ?_))
    clear HS20 hws HPbk3
    go_upto_region 9 with (fail)
    refine wp_seq_text [] (StR.no HS21) ?_
    refine Seq.pure (v := .int .i64 3) rfl rfl (by intro w; go_simp; try rfl) ?_
    simp only [Act.put, nA, nB, nC]
    refine Seq.pure rfl rfl (by intro w; go_simp; try rfl) ?_
    simp only [Act.put, nA, nB, nC]
    refine Seq.done fun ws22 hws => ?_
    have HS22 := hws.st
    clear HS21 hws
    go_wp2_with fail
    rw [rounds_succ]
    go_upto_region 2 with (fail)
    refine wp_seq_text [] (StR.no HS22) ?_
    refine Seq.pure rfl rfl (by intro w; go_simp; try rfl) ?_
    simp only [Act.put, nA, nB, nC]
    refine Seq.done fun ws23 hws => ?_
    have HS23 := hws.st
    clear HS22 hws
    go_upto_region 10 with (fail)
    have HPbk6 := HS23.f6
    refine wp_seq_text [] (StR.move (StR.no HPbk6)) ?_
    refine Seq.load rfl rfl rfl rfl (by repeat (first | exact mC | apply mT)) (n := 18) rfl (by kernel_rfl) ?_
    simp only [Act.put, nA, nB, nC]
    refine Seq.store rfl rfl rfl rfl rfl (by repeat (first | exact rS | refine rN (by assumption) ?_)) (n := 18) rfl rfl (by kernel_rfl) (PW_one _ _ _ _ _ _) ?_
    simp only [Act.put, nA, nB, nC]
    refine Seq.done fun ws24 hws => ?_
    have HS24 := hws.list1 (p := bk6) (by repeat (first | exact rS | refine rN (by assumption) ?_))
    clear HS23 hws HPbk6
    go_wp2_with fail
    exact ret_own rfl rfl rfl HS24 (by repeat (first | exact mC | apply mT)) (n := 18) rfl (by kernel_rfl) ⟨congrArg (fun c => Ending.returned (.agg c)) HR.out, HS24.below⟩
  · obtain ⟨vb, hvb, rb, rb'⟩ : ∃ v, sgnQ b = v ∧ decide (v > 0) = false ∧ decide (0 < v) = false := ⟨_, rfl, decide_eq_false (fun h => hpb ((sgnQ_pos _).1 h)), decide_eq_false (fun h => hpb ((sgnQ_pos _).1 h))⟩
    have Cb := Lib.hid hvb; clear hvb
    have hmb : maxQ b 0 = 0 := maxQ_neg hpb
    obtain ⟨vu, hvu, ru, ru'⟩ : ∃ v, sgnQ u = v ∧ decide (v > 0) = false ∧ decide (0 < v) = false := ⟨_, rfl, decide_eq_false (fun h => hpu ((sgnQ_pos _).1 h)), decide_eq_false (fun h => hpu ((sgnQ_pos _).1 h))⟩
    have Cu := Lib.hid hvu; clear hvu
    have hmu : maxQ u 0 = 0 := maxQ_neg hpu
    have HR := Lib.hid (show PW (rt p1) (rt p2) (rt p3) (rt p4) (rt p5) (rt p6) = PW (rt (p1 - maxQ b 0)) (rt (p2 + maxQ b 0)) (rt (p3 - maxQ b 0)) (rt (p4 + maxQ b 0)) (rt (p5 - maxQ u 0)) (rt (p6 + maxQ u 0)) from by rw [hmb, hmu]; rw [show p1 - 0 = p1 from by grind]; rw [show p2 + 0 = p2 from by grind]; rw [show p3 - 0 = p3 from by grind]; rw [show p4 + 0 = p4 from by grind]; rw [show p5 - 0 = p5 from by grind]; rw [show p6 + 0 = p6 from by grind])
    clear hmb hmu hpb hpu
    go_enter Tryd.func15, Tryd.ntmps15
    have HS : St w [] w := St.start
    go_upto_region 0 with (fail)
    refine wp_seq_text [] (StR.no HS) ?_
    refine Seq.box rfl rfl rfl (v := .agg (PW (rt p1) (rt p2) (rt p3) (rt p4) (rt p5) (rt p6))) (cs := PW (rt p1) (rt p2) (rt p3) (rt p4) (rt p5) (rt p6)) rfl rfl ?_
    intro bk3 _ _ hbk3_r
    simp only [Act.put, nA, nB, nC]
    refine Seq.box rfl rfl rfl (v := .agg (RT.c b_t)) (cs := RT.c b_t) rfl rfl ?_
    intro bk4 _ _ hbk4_r
    obtain ⟨ne_bk4_bk3, hbk4_r⟩ := Reg.ne_of_put hbk4_r
    have ne_bk3_bk4 := Ne.symm ne_bk4_bk3
    simp only [Act.put, nA, nB, nC]
    refine Seq.box rfl rfl rfl (v := .agg (RT.c u_t)) (cs := RT.c u_t) rfl rfl ?_
    intro bk5 _ _ hbk5_r
    obtain ⟨ne_bk5_bk4, hbk5_r⟩ := Reg.ne_of_put hbk5_r
    have ne_bk4_bk5 := Ne.symm ne_bk5_bk4
    obtain ⟨ne_bk5_bk3, hbk5_r⟩ := Reg.ne_of_put hbk5_r
    have ne_bk3_bk5 := Ne.symm ne_bk5_bk3
    simp only [Act.put, nA, nB, nC]
    refine Seq.alloc rfl rfl rfl (z := .agg (PW rz0 rz0 rz0 rz0 rz0 rz0)) (by kernel_rfl) rfl ?_
    intro bk6 _ _ hbk6_r
    obtain ⟨ne_bk6_bk5, hbk6_r⟩ := Reg.ne_of_put hbk6_r
    have ne_bk5_bk6 := Ne.symm ne_bk6_bk5
    obtain ⟨ne_bk6_bk4, hbk6_r⟩ := Reg.ne_of_put hbk6_r
    have ne_bk4_bk6 := Ne.symm ne_bk6_bk4
    obtain ⟨ne_bk6_bk3, hbk6_r⟩ := Reg.ne_of_put hbk6_r
    have ne_bk3_bk6 := Ne.symm ne_bk6_bk3
    simp only [Act.put, nA, nB, nC]
    refine Seq.done fun ws1 hws => ?_
    have HS1 : St w [(bk3, 39, PW (rt p1) (rt p2) (rt p3) (rt p4) (rt p5) (rt p6)), (bk4, 23, RT.c b_t), (bk5, 23, RT.c u_t), (bk6, 39, PW rz0 rz0 rz0 rz0 rz0 rz0)] ws1 := hws.listN [(bk3, 39, PW (rt p1) (rt p2) (rt p3) (rt p4) (rt p5) (rt p6)), (bk4, 23, RT.c b_t), (bk5, 23, RT.c u_t), (bk6, 39, PW rz0 rz0 rz0 rz0 rz0 rz0)] (by simp [*]) (by intro e he; simp only [List.mem_cons, List.not_mem_nil, or_false] at he; rcases he with rfl | rfl | rfl | rfl <;> first | exact Reg.put_same _ _ _ | simp [Reg.put, *])
    clear HS hws
    go_upto_region 1 with (fail)
    refine wp_seq_text [] (StR.no HS1) ?_
    refine Seq.pure rfl rfl (by intro w; go_simp; try rfl) ?_
    simp only [Act.put, nA, nB, nC]
    refine Seq.done fun ws2 hws => ?_
    have HS2 := hws.st
    clear HS1 hws
    go_wp2_with fail
    refine wp_loop_rounds 4 ?_
    rw [rounds_succ]
    go_upto_region 2 with (fail)
    refine wp_seq_text [] (StR.no HS2) ?_
    refine Seq.pure rfl rfl (by intro w; go_simp; try rfl) ?_
    simp only [Act.put, nA, nB, nC]
    refine Seq.done fun ws3 hws => ?_
    have HS3 := hws.st
    clear HS2 hws
    go_upto_region 3 with (fail)
    refine wp_seq_text [] (StR.no HS3) ?_
    iterate 2 (refine Seq.pure rfl rfl (by intro w; go_simp; try rfl) ?_; simp only [Act.put, nA, nB, nC])
    refine Seq.done fun ws4 hws => ?_
    have HS4 := hws.st
    clear HS3 hws
    go_upto_region 4 with (fail)
    refine wp_seq_text [] (StR.no HS4) ?_
    refine Seq.load rfl rfl rfl rfl (by repeat (first | exact mC | apply mT)) (n := 3) rfl (by kernel_rfl) ?_
    simp only [Act.put, nA, nB, nC]
    refine Seq.alloc rfl rfl rfl (z := .agg (RT.c rz0)) (by kernel_rfl) rfl ?_
    intro bk8 _ _ hbk8_r
    simp only [Act.put, nA, nB, nC]
    refine Seq.store rfl rfl rfl rfl rfl (by repeat (first | exact rS | refine rN (by assumption) ?_)) (n := 3) rfl rfl (by kernel_rfl) (RT_one _) ?_
    simp only [Act.put, nA, nB, nC]
    refine Seq.done fun ws5 hws => ?_
    have HS5 := hws.list1 (p := bk8) (by repeat (first | exact rS | refine rN (by assumption) ?_))
    clear HS4 hws
    go_upto_region 5 with (fail)
    refine wp_seq_text [] (StR.no HS5) ?_
    iterate 2 (refine Seq.pure rfl rfl (by intro w; go_simp; try rfl) ?_; simp only [Act.put, nA, nB, nC])
    refine Seq.done fun ws6 hws => ?_
    have HS6 := hws.st
    clear HS5 hws
    go_upto_region 7 with (fail)
    refine wp_seq_text [] (StR.no HS6) ?_
    refine Seq.load rfl rfl rfl rfl (by repeat (first | exact mC | apply mT)) (n := 3) rfl (by kernel_rfl) ?_
    simp only [Act.put, nA, nB, nC]
    refine Seq.call rfl rfl rfl rfl (by kernel_rfl) (sign_w (k := (1 * k + 2)) HT.out (Z_b.out.more (by omega)) Cb.out (by omega)) ?_
    simp only [Act.put, nA, nB, nC]
    refine Seq.pure rfl rfl (by intro w; go_simp; try rfl) ?_
    simp only [Act.put, nA, nB, nC]
    refine Seq.done fun ws7 hws => ?_
    have HS7 := hws.st
    clear HS6 hws
    go_upto_region 9 with (fail)
    refine wp_seq_text [] (StR.no HS7) ?_
    refine Seq.pure (v := .int .i64 1) rfl rfl (by intro w; go_simp; try rfl) ?_
    simp only [Act.put, nA, nB, nC]
    refine Seq.pure rfl rfl (by intro w; go_simp; try rfl) ?_
    simp only [Act.put, nA, nB, nC]
    refine Seq.done fun ws8 hws => ?_
    have HS8 := hws.st
    clear HS7 hws
    go_wp2_with fail
    rw [rounds_succ]
    go_upto_region 2 with (fail)
    refine wp_seq_text [] (StR.no HS8) ?_
    refine Seq.pure rfl rfl (by intro w; go_simp; try rfl) ?_
    simp only [Act.put, nA, nB, nC]
    refine Seq.done fun ws9 hws => ?_
    have HS9 := hws.st
    clear HS8 hws
    go_upto_region 3 with (fail)
    refine wp_seq_text [] (StR.no HS9) ?_
    iterate 2 (refine Seq.pure rfl rfl (by intro w; go_simp; try rfl) ?_; simp only [Act.put, nA, nB, nC])
    refine Seq.done fun ws10 hws => ?_
    have HS10 := hws.st
    clear HS9 hws
    go_upto_region 4 with (fail)
    refine wp_seq_text [] (StR.no HS10) ?_
    refine Seq.load rfl rfl rfl rfl (by repeat (first | exact mC | apply mT)) (n := 3) rfl (by kernel_rfl) ?_
    simp only [Act.put, nA, nB, nC]
    refine Seq.alloc rfl rfl rfl (z := .agg (RT.c rz0)) (by kernel_rfl) rfl ?_
    intro bk8_1 _ _ hbk8_1_r
    simp only [Act.put, nA, nB, nC]
    refine Seq.store rfl rfl rfl rfl rfl (by repeat (first | exact rS | refine rN (by assumption) ?_)) (n := 3) rfl rfl (by kernel_rfl) (RT_one _) ?_
    simp only [Act.put, nA, nB, nC]
    refine Seq.done fun ws11 hws => ?_
    have HS11 := hws.list1 (p := bk8_1) (by repeat (first | exact rS | refine rN (by assumption) ?_))
    clear HS10 hws
    go_upto_region 5 with (fail)
    refine wp_seq_text [] (StR.no HS11) ?_
    iterate 2 (refine Seq.pure rfl rfl (by intro w; go_simp; try rfl) ?_; simp only [Act.put, nA, nB, nC])
    refine Seq.done fun ws12 hws => ?_
    have HS12 := hws.st
    clear HS11 hws
    go_upto_region 7 with (fail)
    refine wp_seq_text [] (StR.no HS12) ?_
    refine Seq.load rfl rfl rfl rfl (by repeat (first | exact mC | apply mT)) (n := 3) rfl (by kernel_rfl) ?_
    simp only [Act.put, nA, nB, nC]
    refine Seq.call rfl rfl rfl rfl (by kernel_rfl) (sign_w (k := (1 * k + 2)) HT.out (Z_b.out.more (by omega)) Cb.out (by omega)) ?_
    simp only [Act.put, nA, nB, nC]
    refine Seq.pure rfl rfl (by intro w; go_simp; try rfl) ?_
    simp only [Act.put, nA, nB, nC]
    refine Seq.done fun ws13 hws => ?_
    have HS13 := hws.st
    clear HS12 hws
    go_upto_region 9 with (fail)
    refine wp_seq_text [] (StR.no HS13) ?_
    refine Seq.pure (v := .int .i64 2) rfl rfl (by intro w; go_simp; try rfl) ?_
    simp only [Act.put, nA, nB, nC]
    refine Seq.pure rfl rfl (by intro w; go_simp; try rfl) ?_
    simp only [Act.put, nA, nB, nC]
    refine Seq.done fun ws14 hws => ?_
    have HS14 := hws.st
    clear HS13 hws
    go_wp2_with fail
    rw [rounds_succ]
    go_upto_region 2 with (fail)
    refine wp_seq_text [] (StR.no HS14) ?_
    refine Seq.pure rfl rfl (by intro w; go_simp; try rfl) ?_
    simp only [Act.put, nA, nB, nC]
    refine Seq.done fun ws15 hws => ?_
    have HS15 := hws.st
    clear HS14 hws
    go_upto_region 3 with (fail)
    refine wp_seq_text [] (StR.no HS15) ?_
    iterate 2 (refine Seq.pure rfl rfl (by intro w; go_simp; try rfl) ?_; simp only [Act.put, nA, nB, nC])
    refine Seq.done fun ws16 hws => ?_
    have HS16 := hws.st
    clear HS15 hws
    go_upto_region 4 with (fail)
    refine wp_seq_text [] (StR.no HS16) ?_
    refine Seq.load rfl rfl rfl rfl (by repeat (first | exact mC | apply mT)) (n := 3) rfl (by kernel_rfl) ?_
    simp only [Act.put, nA, nB, nC]
    refine Seq.alloc rfl rfl rfl (z := .agg (RT.c rz0)) (by kernel_rfl) rfl ?_
    intro bk8_2 _ _ hbk8_2_r
    simp only [Act.put, nA, nB, nC]
    refine Seq.store rfl rfl rfl rfl rfl (by repeat (first | exact rS | refine rN (by assumption) ?_)) (n := 3) rfl rfl (by kernel_rfl) (RT_one _) ?_
    simp only [Act.put, nA, nB, nC]
    refine Seq.done fun ws17 hws => ?_
    have HS17 := hws.list1 (p := bk8_2) (by repeat (first | exact rS | refine rN (by assumption) ?_))
    clear HS16 hws
    go_upto_region 5 with (fail)
    refine wp_seq_text [] (StR.no HS17) ?_
    iterate 2 (refine Seq.pure rfl rfl (by intro w; go_simp; try rfl) ?_; simp only [Act.put, nA, nB, nC])
    refine Seq.done fun ws18 hws => ?_
    have HS18 := hws.st
    clear HS17 hws
    go_upto_region 6 with (fail)
    refine wp_seq_text [] (StR.move (StR.no HS18)) ?_
    refine Seq.load rfl rfl rfl rfl (by repeat (first | exact mC | apply mT)) (n := 3) rfl (by kernel_rfl) ?_
    simp only [Act.put, nA, nB, nC]
    refine Seq.store rfl rfl rfl rfl rfl (by repeat (first | exact rS | refine rN (by assumption) ?_)) (n := 3) rfl rfl (by kernel_rfl) (RT_one _) ?_
    simp only [Act.put, nA, nB, nC]
    refine Seq.done fun ws19 hws => ?_
    have HS19 := hws.list1 (p := bk8_2) (by repeat (first | exact rS | refine rN (by assumption) ?_))
    clear HS18 hws
    go_upto_region 7 with (fail)
    refine wp_seq_text [] (StR.no HS19) ?_
    refine Seq.load rfl rfl rfl rfl (by repeat (first | exact mC | apply mT)) (n := 3) rfl (by kernel_rfl) ?_
    simp only [Act.put, nA, nB, nC]
    refine Seq.call rfl rfl rfl rfl (by kernel_rfl) (sign_w (k := (1 * k + 2)) HT.out (Z_u.out.more (by omega)) Cu.out (by omega)) ?_
    simp only [Act.put, nA, nB, nC]
    refine Seq.pure rfl rfl (by intro w; go_simp; try rfl) ?_
    simp only [Act.put, nA, nB, nC]
    refine Seq.done fun ws20 hws => ?_
    have HS20 := hws.st
    clear HS19 hws
    go_upto_region 9 with (fail)
    refine wp_seq_text [] (StR.no HS20) ?_
    refine Seq.pure (v := .int .i64 3) rfl rfl (by intro w; go_simp; try rfl) ?_
    simp only [Act.put, nA, nB, nC]
    refine Seq.pure rfl rfl (by intro w; go_simp; try rfl) ?_
    simp only [Act.put, nA, nB, nC]
    refine Seq.done fun ws21 hws => ?_
    have HS21 := hws.st
    clear HS20 hws
    go_wp2_with fail
    rw [rounds_succ]
    go_upto_region 2 with (fail)
    refine wp_seq_text [] (StR.no HS21) ?_
    refine Seq.pure rfl rfl (by intro w; go_simp; try rfl) ?_
    simp only [Act.put, nA, nB, nC]
    refine Seq.done fun ws22 hws => ?_
    have HS22 := hws.st
    clear HS21 hws
    go_upto_region 10 with (fail)
    have HPbk6 := HS22.f6
    refine wp_seq_text [] (StR.move (StR.no HPbk6)) ?_
    refine Seq.load rfl rfl rfl rfl (by repeat (first | exact mC | apply mT)) (n := 18) rfl (by kernel_rfl) ?_
    simp only [Act.put, nA, nB, nC]
    refine Seq.store rfl rfl rfl rfl rfl (by repeat (first | exact rS | refine rN (by assumption) ?_)) (n := 18) rfl rfl (by kernel_rfl) (PW_one _ _ _ _ _ _) ?_
    simp only [Act.put, nA, nB, nC]
    refine Seq.done fun ws23 hws => ?_
    have HS23 := hws.list1 (p := bk6) (by repeat (first | exact rS | refine rN (by assumption) ?_))
    clear HS22 hws HPbk6
    go_wp2_with fail
    exact ret_own rfl rfl rfl HS23 (by repeat (first | exact mC | apply mT)) (n := 18) rfl (by kernel_rfl) ⟨congrArg (fun c => Ending.returned (.agg c)) HR.out, HS23.below⟩
set_option maxHeartbeats 2000000 in
set_option maxRecDepth 20000 in
theorem within_w {k : Nat} {al ah : Rat} {ag : Bool} {a1 a2 : RT} {bl bh : Rat} {bg : Bool} {b1 b2 : RT} {z0 : Bool} {W : World} {l : List Own} (hT : Tab W) (Za : RawS k al ah ag a1 a2) (Zb : RawS k bl bh bg b1 b2) (hz0 : wiQ al ah bl bh = z0) (hk0 : 2 ≤ k) (hk : k ≤ 999999999996) (w : World) (h : St W l w) :
    Calls Tryd.prog 70 #[.agg (SW a1 a2), .agg (SW b1 b2)] w fun e w' => e = .returned (.bool z0) ∧ Below w.heap.size w w' := by
  subst hz0
  have HT := Lib.hid (tabS hT h); clear hT h
  have Z_a := Lib.hid Za; clear Za
  have Z_b := Lib.hid Zb; clear Zb
  have hsp : ¬ bl ≤ al ∨ (bl ≤ al ∧ ¬ ah ≤ bh) ∨ (bl ≤ al ∧ ah ≤ bh) := by grind
  rcases hsp with hc | ⟨hc, hd⟩ | ⟨hc, hd⟩
  · have HB := Lib.hid (show false = wiQ al ah bl bh from by unfold wiQ; symm; simp; grind)
    obtain ⟨v1, hv1, r1⟩ : ∃ v, cmpQ bl al = v ∧ decide (v ≤ 0) = false := ⟨_, rfl, decide_eq_false (fun h => absurd ((cmpQ_le _ _).1 h) (by grind))⟩
    have C1 := Lib.hid hv1; clear hv1
    clear hc
    go_enter Tryd.func70, Tryd.ntmps70
    have HS : St w [] w := St.start
    go_upto_region 0 with (fail)
    refine wp_seq_text [] (StR.no HS) ?_
    refine Seq.box rfl rfl rfl (v := .agg (SW a1 a2)) (cs := SW a1 a2) rfl rfl ?_
    intro bk2 _ _ hbk2_r
    simp only [Act.put, nA, nB, nC]
    refine Seq.box rfl rfl rfl (v := .agg (SW b1 b2)) (cs := SW b1 b2) rfl rfl ?_
    intro bk3 _ _ hbk3_r
    obtain ⟨ne_bk3_bk2, hbk3_r⟩ := Reg.ne_of_put hbk3_r
    have ne_bk2_bk3 := Ne.symm ne_bk3_bk2
    simp only [Act.put, nA, nB, nC]
    refine Seq.pure rfl rfl (by intro w; go_simp; try rfl) ?_
    simp only [Act.put, nA, nB, nC]
    refine Seq.done fun ws1 hws => ?_
    have HS1 := hws.list2 (p := bk2) (q := bk3) (by repeat (first | exact rS | refine rN (by assumption) ?_)) (by repeat (first | exact rS | refine rN (by assumption) ?_)) (by assumption)
    clear HS hws
    go_upto_region 1 with (fail)
    have HPbk3 := HS1.f1
    have HPbk2 := HPbk3.f1
    refine wp_seq [0, 4] (by kernel_rfl) (by kernel_rfl) (Reg.fin.put (Reg.fin.put Reg.fin_no _ _) _ _) (StR.move (StR.move (StR.no HPbk2))) ?_
    refine Seq.get rfl rfl rfl rfl (by repeat (first | exact rS | refine rN (by assumption) ?_)) (n := 6) rfl (by kernel_rfl) ?_
    simp only [Act.put, nA, nB, nC]
    refine Seq.call rfl rfl rfl rfl (by kernel_rfl) (norm_w (k := (1 * k + 2)) (a1 := a1) (a2 := a2) HT.out (Z_a.out.more (by omega))  rfl rfl (by omega) (by omega)) ?_
    simp only [Act.put, nA, nB, nC]
    refine Seq.get rfl rfl rfl rfl (by repeat (first | exact rS | refine rN (by assumption) ?_)) (n := 6) rfl (by kernel_rfl) ?_
    simp only [Act.put, nA, nB, nC]
    refine Seq.call rfl rfl rfl rfl (by kernel_rfl) (norm_w (k := (1 * k + 2)) (a1 := b1) (a2 := b2) HT.out (Z_b.out.more (by omega))  rfl rfl (by omega) (by omega)) ?_
    simp only [Act.put, nA, nB, nC]
    refine Seq.store rfl rfl rfl rfl rfl (by repeat (first | exact rS | refine rN (by assumption) ?_)) (n := 6) rfl rfl (by kernel_rfl) (VC_one _ _) ?_
    simp only [Act.put, nA, nB, nC]
    refine Seq.store rfl rfl rfl rfl rfl (by repeat (first | exact rS | refine rN (by assumption) ?_)) (n := 6) rfl rfl (by kernel_rfl) (VC_one _ _) ?_
    simp only [Act.put, nA, nB, nC]
    refine Seq.done fun ws2 hws => ?_
    have HS2 := hws.list2 (p := bk2) (q := bk3) (by repeat (first | exact rS | refine rN (by assumption) ?_)) (by repeat (first | exact rS | refine rN (by assumption) ?_)) (by assumption)
    clear HS1 hws HPbk3 HPbk2
    go_upto_region 2 with (fail)
    refine wp_seq_text [] (StR.no HS2) ?_
    refine Seq.pure rfl rfl (by intro w; go_simp; try rfl) ?_
    simp only [Act.put, nA, nB, nC]
    refine Seq.loadAt rfl rfl rfl rfl (by repeat (first | exact mC | apply mT)) (n := 3) (cs' := RC bl) (Nat.le_of_ble_eq_true rfl) (by kernel_rfl) rfl ?_
    simp only [Act.put, nA, nB, nC]
    refine Seq.pure rfl rfl (by intro w; go_simp; try rfl) ?_
    simp only [Act.put, nA, nB, nC]
    refine Seq.loadAt rfl rfl rfl rfl (by repeat (first | exact mC | apply mT)) (n := 3) (cs' := RC al) (Nat.le_of_ble_eq_true rfl) (by kernel_rfl) rfl ?_
    simp only [Act.put, nA, nB, nC]
    refine Seq.call rfl rfl rfl rfl (by kernel_rfl) (cmp_q (k := (1 * k + 0)) HT.out ((Z_b.out.rz (by omega)).1.more (by omega)) ((Z_a.out.rz (by omega)).1.more (by omega)) C1.out (by omega)) ?_
    simp only [Act.put, nA, nB, nC]
    iterate 2 (refine Seq.pure rfl rfl (by intro w; go_simp; try rfl) ?_; simp only [Act.put, nA, nB, nC])
    iterate 6 (refine Seq.nw rfl ?_; simp only [Act.put, nA, nB, nC])
    iterate 2 (refine Seq.pure rfl rfl (by intro w; go_simp; try rfl) ?_; simp only [Act.put, nA, nB, nC])
    refine Seq.done fun ws3 hws => ?_
    have HS3 := hws.st
    clear HS2 hws
    go_wp2_with fail
    go_ret
    exact ⟨congrArg (fun b => Ending.returned (.bool b)) HB.out, HS3.below⟩
  · have HB := Lib.hid (show false = wiQ al ah bl bh from by unfold wiQ; symm; simp; grind)
    obtain ⟨v1, hv1, r1⟩ : ∃ v, cmpQ bl al = v ∧ decide (v ≤ 0) = true := ⟨_, rfl, decide_eq_true ((cmpQ_le _ _).2 (by grind))⟩
    have C1 := Lib.hid hv1; clear hv1
    obtain ⟨v2, hv2, r2⟩ : ∃ v, cmpQ ah bh = v ∧ decide (v ≤ 0) = false := ⟨_, rfl, decide_eq_false (fun h => absurd ((cmpQ_le _ _).1 h) (by grind))⟩
    have C2 := Lib.hid hv2; clear hv2
    clear hc hd
    go_enter Tryd.func70, Tryd.ntmps70
    have HS : St w [] w := St.start
    go_upto_region 0 with (fail)
    refine wp_seq_text [] (StR.no HS) ?_
    refine Seq.box rfl rfl rfl (v := .agg (SW a1 a2)) (cs := SW a1 a2) rfl rfl ?_
    intro bk2 _ _ hbk2_r
    simp only [Act.put, nA, nB, nC]
    refine Seq.box rfl rfl rfl (v := .agg (SW b1 b2)) (cs := SW b1 b2) rfl rfl ?_
    intro bk3 _ _ hbk3_r
    obtain ⟨ne_bk3_bk2, hbk3_r⟩ := Reg.ne_of_put hbk3_r
    have ne_bk2_bk3 := Ne.symm ne_bk3_bk2
    simp only [Act.put, nA, nB, nC]
    refine Seq.pure rfl rfl (by intro w; go_simp; try rfl) ?_
    simp only [Act.put, nA, nB, nC]
    refine Seq.done fun ws1 hws => ?_
    have HS1 := hws.list2 (p := bk2) (q := bk3) (by repeat (first | exact rS | refine rN (by assumption) ?_)) (by repeat (first | exact rS | refine rN (by assumption) ?_)) (by assumption)
    clear HS hws
    go_upto_region 1 with (fail)
    have HPbk3 := HS1.f1
    have HPbk2 := HPbk3.f1
    refine wp_seq [0, 4] (by kernel_rfl) (by kernel_rfl) (Reg.fin.put (Reg.fin.put Reg.fin_no _ _) _ _) (StR.move (StR.move (StR.no HPbk2))) ?_
    refine Seq.get rfl rfl rfl rfl (by repeat (first | exact rS | refine rN (by assumption) ?_)) (n := 6) rfl (by kernel_rfl) ?_
    simp only [Act.put, nA, nB, nC]
    refine Seq.call rfl rfl rfl rfl (by kernel_rfl) (norm_w (k := (1 * k + 2)) (a1 := a1) (a2 := a2) HT.out (Z_a.out.more (by omega))  rfl rfl (by omega) (by omega)) ?_
    simp only [Act.put, nA, nB, nC]
    refine Seq.get rfl rfl rfl rfl (by repeat (first | exact rS | refine rN (by assumption) ?_)) (n := 6) rfl (by kernel_rfl) ?_
    simp only [Act.put, nA, nB, nC]
    refine Seq.call rfl rfl rfl rfl (by kernel_rfl) (norm_w (k := (1 * k + 2)) (a1 := b1) (a2 := b2) HT.out (Z_b.out.more (by omega))  rfl rfl (by omega) (by omega)) ?_
    simp only [Act.put, nA, nB, nC]
    refine Seq.store rfl rfl rfl rfl rfl (by repeat (first | exact rS | refine rN (by assumption) ?_)) (n := 6) rfl rfl (by kernel_rfl) (VC_one _ _) ?_
    simp only [Act.put, nA, nB, nC]
    refine Seq.store rfl rfl rfl rfl rfl (by repeat (first | exact rS | refine rN (by assumption) ?_)) (n := 6) rfl rfl (by kernel_rfl) (VC_one _ _) ?_
    simp only [Act.put, nA, nB, nC]
    refine Seq.done fun ws2 hws => ?_
    have HS2 := hws.list2 (p := bk2) (q := bk3) (by repeat (first | exact rS | refine rN (by assumption) ?_)) (by repeat (first | exact rS | refine rN (by assumption) ?_)) (by assumption)
    clear HS1 hws HPbk3 HPbk2
    go_upto_region 2 with (fail)
    refine wp_seq_text [] (StR.no HS2) ?_
    refine Seq.pure rfl rfl (by intro w; go_simp; try rfl) ?_
    simp only [Act.put, nA, nB, nC]
    refine Seq.loadAt rfl rfl rfl rfl (by repeat (first | exact mC | apply mT)) (n := 3) (cs' := RC bl) (Nat.le_of_ble_eq_true rfl) (by kernel_rfl) rfl ?_
    simp only [Act.put, nA, nB, nC]
    refine Seq.pure rfl rfl (by intro w; go_simp; try rfl) ?_
    simp only [Act.put, nA, nB, nC]
    refine Seq.loadAt rfl rfl rfl rfl (by repeat (first | exact mC | apply mT)) (n := 3) (cs' := RC al) (Nat.le_of_ble_eq_true rfl) (by kernel_rfl) rfl ?_
    simp only [Act.put, nA, nB, nC]
    refine Seq.call rfl rfl rfl rfl (by kernel_rfl) (cmp_q (k := (1 * k + 0)) HT.out ((Z_b.out.rz (by omega)).1.more (by omega)) ((Z_a.out.rz (by omega)).1.more (by omega)) C1.out (by omega)) ?_
    simp only [Act.put, nA, nB, nC]
    iterate 3 (refine Seq.pure rfl rfl (by intro w; go_simp; try rfl) ?_; simp only [Act.put, nA, nB, nC])
    refine Seq.loadAt rfl rfl rfl rfl (by repeat (first | exact mC | apply mT)) (n := 3) (cs' := RC ah) (Nat.le_of_ble_eq_true rfl) (by kernel_rfl) rfl ?_
    simp only [Act.put, nA, nB, nC]
    refine Seq.pure rfl rfl (by intro w; go_simp; try rfl) ?_
    simp only [Act.put, nA, nB, nC]
    refine Seq.loadAt rfl rfl rfl rfl (by repeat (first | exact mC | apply mT)) (n := 3) (cs' := RC bh) (Nat.le_of_ble_eq_true rfl) (by kernel_rfl) rfl ?_
    simp only [Act.put, nA, nB, nC]
    refine Seq.call rfl rfl rfl rfl (by kernel_rfl) (cmp_q (k := (1 * k + 0)) HT.out ((Z_a.out.rz (by omega)).2.more (by omega)) ((Z_b.out.rz (by omega)).2.more (by omega)) C2.out (by omega)) ?_
    simp only [Act.put, nA, nB, nC]
    iterate 3 (refine Seq.pure rfl rfl (by intro w; go_simp; try rfl) ?_; simp only [Act.put, nA, nB, nC])
    refine Seq.done fun ws3 hws => ?_
    have HS3 := hws.st
    clear HS2 hws
    go_wp2_with fail
    go_ret
    exact ⟨congrArg (fun b => Ending.returned (.bool b)) HB.out, HS3.below⟩
  · have HB := Lib.hid (show true = wiQ al ah bl bh from by unfold wiQ; symm; simp; grind)
    obtain ⟨v1, hv1, r1⟩ : ∃ v, cmpQ bl al = v ∧ decide (v ≤ 0) = true := ⟨_, rfl, decide_eq_true ((cmpQ_le _ _).2 (by grind))⟩
    have C1 := Lib.hid hv1; clear hv1
    obtain ⟨v2, hv2, r2⟩ : ∃ v, cmpQ ah bh = v ∧ decide (v ≤ 0) = true := ⟨_, rfl, decide_eq_true ((cmpQ_le _ _).2 (by grind))⟩
    have C2 := Lib.hid hv2; clear hv2
    clear hc hd
    go_enter Tryd.func70, Tryd.ntmps70
    have HS : St w [] w := St.start
    go_upto_region 0 with (fail)
    refine wp_seq_text [] (StR.no HS) ?_
    refine Seq.box rfl rfl rfl (v := .agg (SW a1 a2)) (cs := SW a1 a2) rfl rfl ?_
    intro bk2 _ _ hbk2_r
    simp only [Act.put, nA, nB, nC]
    refine Seq.box rfl rfl rfl (v := .agg (SW b1 b2)) (cs := SW b1 b2) rfl rfl ?_
    intro bk3 _ _ hbk3_r
    obtain ⟨ne_bk3_bk2, hbk3_r⟩ := Reg.ne_of_put hbk3_r
    have ne_bk2_bk3 := Ne.symm ne_bk3_bk2
    simp only [Act.put, nA, nB, nC]
    refine Seq.pure rfl rfl (by intro w; go_simp; try rfl) ?_
    simp only [Act.put, nA, nB, nC]
    refine Seq.done fun ws1 hws => ?_
    have HS1 := hws.list2 (p := bk2) (q := bk3) (by repeat (first | exact rS | refine rN (by assumption) ?_)) (by repeat (first | exact rS | refine rN (by assumption) ?_)) (by assumption)
    clear HS hws
    go_upto_region 1 with (fail)
    have HPbk3 := HS1.f1
    have HPbk2 := HPbk3.f1
    refine wp_seq [0, 4] (by kernel_rfl) (by kernel_rfl) (Reg.fin.put (Reg.fin.put Reg.fin_no _ _) _ _) (StR.move (StR.move (StR.no HPbk2))) ?_
    refine Seq.get rfl rfl rfl rfl (by repeat (first | exact rS | refine rN (by assumption) ?_)) (n := 6) rfl (by kernel_rfl) ?_
    simp only [Act.put, nA, nB, nC]
    refine Seq.call rfl rfl rfl rfl (by kernel_rfl) (norm_w (k := (1 * k + 2)) (a1 := a1) (a2 := a2) HT.out (Z_a.out.more (by omega))  rfl rfl (by omega) (by omega)) ?_
    simp only [Act.put, nA, nB, nC]
    refine Seq.get rfl rfl rfl rfl (by repeat (first | exact rS | refine rN (by assumption) ?_)) (n := 6) rfl (by kernel_rfl) ?_
    simp only [Act.put, nA, nB, nC]
    refine Seq.call rfl rfl rfl rfl (by kernel_rfl) (norm_w (k := (1 * k + 2)) (a1 := b1) (a2 := b2) HT.out (Z_b.out.more (by omega))  rfl rfl (by omega) (by omega)) ?_
    simp only [Act.put, nA, nB, nC]
    refine Seq.store rfl rfl rfl rfl rfl (by repeat (first | exact rS | refine rN (by assumption) ?_)) (n := 6) rfl rfl (by kernel_rfl) (VC_one _ _) ?_
    simp only [Act.put, nA, nB, nC]
    refine Seq.store rfl rfl rfl rfl rfl (by repeat (first | exact rS | refine rN (by assumption) ?_)) (n := 6) rfl rfl (by kernel_rfl) (VC_one _ _) ?_
    simp only [Act.put, nA, nB, nC]
    refine Seq.done fun ws2 hws => ?_
    have HS2 := hws.list2 (p := bk2) (q := bk3) (by repeat (first | exact rS | refine rN (by assumption) ?_)) (by repeat (first | exact rS | refine rN (by assumption) ?_)) (by assumption)
    clear HS1 hws HPbk3 HPbk2
    go_upto_region 2 with (fail)
    refine wp_seq_text [] (StR.no HS2) ?_
    refine Seq.pure rfl rfl (by intro w; go_simp; try rfl) ?_
    simp only [Act.put, nA, nB, nC]
    refine Seq.loadAt rfl rfl rfl rfl (by repeat (first | exact mC | apply mT)) (n := 3) (cs' := RC bl) (Nat.le_of_ble_eq_true rfl) (by kernel_rfl) rfl ?_
    simp only [Act.put, nA, nB, nC]
    refine Seq.pure rfl rfl (by intro w; go_simp; try rfl) ?_
    simp only [Act.put, nA, nB, nC]
    refine Seq.loadAt rfl rfl rfl rfl (by repeat (first | exact mC | apply mT)) (n := 3) (cs' := RC al) (Nat.le_of_ble_eq_true rfl) (by kernel_rfl) rfl ?_
    simp only [Act.put, nA, nB, nC]
    refine Seq.call rfl rfl rfl rfl (by kernel_rfl) (cmp_q (k := (1 * k + 0)) HT.out ((Z_b.out.rz (by omega)).1.more (by omega)) ((Z_a.out.rz (by omega)).1.more (by omega)) C1.out (by omega)) ?_
    simp only [Act.put, nA, nB, nC]
    iterate 3 (refine Seq.pure rfl rfl (by intro w; go_simp; try rfl) ?_; simp only [Act.put, nA, nB, nC])
    refine Seq.loadAt rfl rfl rfl rfl (by repeat (first | exact mC | apply mT)) (n := 3) (cs' := RC ah) (Nat.le_of_ble_eq_true rfl) (by kernel_rfl) rfl ?_
    simp only [Act.put, nA, nB, nC]
    refine Seq.pure rfl rfl (by intro w; go_simp; try rfl) ?_
    simp only [Act.put, nA, nB, nC]
    refine Seq.loadAt rfl rfl rfl rfl (by repeat (first | exact mC | apply mT)) (n := 3) (cs' := RC bh) (Nat.le_of_ble_eq_true rfl) (by kernel_rfl) rfl ?_
    simp only [Act.put, nA, nB, nC]
    refine Seq.call rfl rfl rfl rfl (by kernel_rfl) (cmp_q (k := (1 * k + 0)) HT.out ((Z_a.out.rz (by omega)).2.more (by omega)) ((Z_b.out.rz (by omega)).2.more (by omega)) C2.out (by omega)) ?_
    simp only [Act.put, nA, nB, nC]
    iterate 3 (refine Seq.pure rfl rfl (by intro w; go_simp; try rfl) ?_; simp only [Act.put, nA, nB, nC])
    refine Seq.done fun ws3 hws => ?_
    have HS3 := hws.st
    clear HS2 hws
    go_wp2_with fail
    go_ret
    exact ⟨congrArg (fun b => Ending.returned (.bool b)) HB.out, HS3.below⟩
set_option maxHeartbeats 2000000 in
set_option maxRecDepth 20000 in
theorem inside_w {k : Nat} {pxl pxh : Rat} {pxg : Bool} {px1 px2 : RT} {pyl pyh : Rat} {pyg : Bool} {py1 py2 : RT} {ptl pth : Rat} {ptg : Bool} {pt1 pt2 : RT} {qxl qxh : Rat} {qxg : Bool} {qx1 qx2 : RT} {qyl qyh : Rat} {qyg : Bool} {qy1 qy2 : RT} {qtl qth : Rat} {qtg : Bool} {qt1 qt2 : RT} {z0 : Bool} {W : World} {l : List Own} (hT : Tab W) (Zpx : RawS k pxl pxh pxg px1 px2) (Zpy : RawS k pyl pyh pyg py1 py2) (Zpt : RawS k ptl pth ptg pt1 pt2) (Zqx : RawS k qxl qxh qxg qx1 qx2) (Zqy : RawS k qyl qyh qyg qy1 qy2) (Zqt : RawS k qtl qth qtg qt1 qt2) (hz0 : insQ pxl pxh pyl pyh ptl pth qxl qxh qyl qyh qtl qth = z0) (hk0 : 2 ≤ k) (hk : k ≤ 999999999994) (w : World) (h : St W l w) :
    Calls Tryd.prog 32 #[.agg (PW px1 px2 py1 py2 pt1 pt2), .agg (PW qx1 qx2 qy1 qy2 qt1 qt2)] w fun e w' => e = .returned (.bool z0) ∧ Below w.heap.size w w' := by
  subst hz0
  have HT := Lib.hid (tabS hT h); clear hT h
  have Z_px := Lib.hid Zpx; clear Zpx
  have Z_py := Lib.hid Zpy; clear Zpy
  have Z_pt := Lib.hid Zpt; clear Zpt
  have Z_qx := Lib.hid Zqx; clear Zqx
  have Z_qy := Lib.hid Zqy; clear Zqy
  have Z_qt := Lib.hid Zqt; clear Zqt
  have hsp : (wiQ pxl pxh qxl qxh = false) ∨ (wiQ pxl pxh qxl qxh = true ∧ wiQ pyl pyh qyl qyh = false) ∨ (wiQ pxl pxh qxl qxh = true ∧ wiQ pyl pyh qyl qyh = true ∧ wiQ ptl pth qtl qth = false) ∨ (wiQ pxl pxh qxl qxh = true ∧ wiQ pyl pyh qyl qyh = true ∧ wiQ ptl pth qtl qth = true) := by
    cases wiQ pxl pxh qxl qxh <;> cases wiQ pyl pyh qyl qyh <;> cases wiQ ptl pth qtl qth <;> simp
  rcases hsp with hb1 | ⟨hb1, hb2⟩ | ⟨hb1, hb2, hb3⟩ | ⟨hb1, hb2, hb3⟩
  · have B1 := Lib.hid hb1
    have HB := Lib.hid (show false = insQ pxl pxh pyl pyh ptl pth qxl qxh qyl qyh qtl qth from by unfold insQ; simp [hb1])
    clear hb1
    go_enter Tryd.func32, Tryd.ntmps32
    have HS : St w [] w := St.start
    go_upto_region 0 with (fail)
    refine wp_seq_text [] (StR.no HS) ?_
    refine Seq.box rfl rfl rfl (v := .agg (PW px1 px2 py1 py2 pt1 pt2)) (cs := PW px1 px2 py1 py2 pt1 pt2) rfl rfl ?_
    intro bk2 _ _ hbk2_r
    simp only [Act.put, nA, nB, nC]
    refine Seq.box rfl rfl rfl (v := .agg (PW qx1 qx2 qy1 qy2 qt1 qt2)) (cs := PW qx1 qx2 qy1 qy2 qt1 qt2) rfl rfl ?_
    intro bk3 _ _ hbk3_r
    obtain ⟨ne_bk3_bk2, hbk3_r⟩ := Reg.ne_of_put hbk3_r
    have ne_bk2_bk3 := Ne.symm ne_bk3_bk2
    simp only [Act.put, nA, nB, nC]
    refine Seq.pure rfl rfl (by intro w; go_simp; try rfl) ?_
    simp only [Act.put, nA, nB, nC]
    refine Seq.done fun ws1 hws => ?_
    have HS1 := hws.list2 (p := bk2) (q := bk3) (by repeat (first | exact rS | refine rN (by assumption) ?_)) (by repeat (first | exact rS | refine rN (by assumption) ?_)) (by assumption)
    clear HS hws
    go_upto_region 1 with (fail)
    refine wp_seq_text [] (StR.no HS1) ?_
    refine Seq.pure rfl rfl (by intro w; go_simp; try rfl) ?_
    simp only [Act.put, nA, nB, nC]
    refine Seq.loadAt rfl rfl rfl rfl (by repeat (first | exact mC | apply mT)) (n := 6) (cs' := SW px1 px2) (Nat.le_of_ble_eq_true rfl) (by kernel_rfl) rfl ?_
    simp only [Act.put, nA, nB, nC]
    refine Seq.pure rfl rfl (by intro w; go_simp; try rfl) ?_
    simp only [Act.put, nA, nB, nC]
    refine Seq.loadAt rfl rfl rfl rfl (by repeat (first | exact mC | apply mT)) (n := 6) (cs' := SW qx1 qx2) (Nat.le_of_ble_eq_true rfl) (by kernel_rfl) rfl ?_
    simp only [Act.put, nA, nB, nC]
    refine Seq.call rfl rfl rfl rfl (by kernel_rfl) (within_w (k := (1 * k + 2)) (a1 := px1) (a2 := px2) (b1 := qx1) (b2 := qx2) HT.out (Z_px.out.more (by omega)) (Z_qx.out.more (by omega))  B1.out (by omega) (by omega)) ?_
    simp only [Act.put, nA, nB, nC]
    refine Seq.pure rfl rfl (by intro w; go_simp; try rfl) ?_
    simp only [Act.put, nA, nB, nC]
    iterate 5 (refine Seq.nw rfl ?_; simp only [Act.put, nA, nB, nC])
    iterate 2 (refine Seq.pure rfl rfl (by intro w; go_simp; try rfl) ?_; simp only [Act.put, nA, nB, nC])
    iterate 5 (refine Seq.nw rfl ?_; simp only [Act.put, nA, nB, nC])
    iterate 2 (refine Seq.pure rfl rfl (by intro w; go_simp; try rfl) ?_; simp only [Act.put, nA, nB, nC])
    refine Seq.done fun ws2 hws => ?_
    have HS2 := hws.st
    clear HS1 hws
    go_wp2_with fail
    go_ret
    exact ⟨congrArg (fun b => Ending.returned (.bool b)) HB.out, HS2.below⟩
  · have B1 := Lib.hid hb1
    have B2 := Lib.hid hb2
    have HB := Lib.hid (show false = insQ pxl pxh pyl pyh ptl pth qxl qxh qyl qyh qtl qth from by unfold insQ; simp [hb1, hb2])
    clear hb1 hb2
    go_enter Tryd.func32, Tryd.ntmps32
    have HS : St w [] w := St.start
    go_upto_region 0 with (fail)
    refine wp_seq_text [] (StR.no HS) ?_
    refine Seq.box rfl rfl rfl (v := .agg (PW px1 px2 py1 py2 pt1 pt2)) (cs := PW px1 px2 py1 py2 pt1 pt2) rfl rfl ?_
    intro bk2 _ _ hbk2_r
    simp only [Act.put, nA, nB, nC]
    refine Seq.box rfl rfl rfl (v := .agg (PW qx1 qx2 qy1 qy2 qt1 qt2)) (cs := PW qx1 qx2 qy1 qy2 qt1 qt2) rfl rfl ?_
    intro bk3 _ _ hbk3_r
    obtain ⟨ne_bk3_bk2, hbk3_r⟩ := Reg.ne_of_put hbk3_r
    have ne_bk2_bk3 := Ne.symm ne_bk3_bk2
    simp only [Act.put, nA, nB, nC]
    refine Seq.pure rfl rfl (by intro w; go_simp; try rfl) ?_
    simp only [Act.put, nA, nB, nC]
    refine Seq.done fun ws1 hws => ?_
    have HS1 := hws.list2 (p := bk2) (q := bk3) (by repeat (first | exact rS | refine rN (by assumption) ?_)) (by repeat (first | exact rS | refine rN (by assumption) ?_)) (by assumption)
    clear HS hws
    go_upto_region 1 with (fail)
    refine wp_seq_text [] (StR.no HS1) ?_
    refine Seq.pure rfl rfl (by intro w; go_simp; try rfl) ?_
    simp only [Act.put, nA, nB, nC]
    refine Seq.loadAt rfl rfl rfl rfl (by repeat (first | exact mC | apply mT)) (n := 6) (cs' := SW px1 px2) (Nat.le_of_ble_eq_true rfl) (by kernel_rfl) rfl ?_
    simp only [Act.put, nA, nB, nC]
    refine Seq.pure rfl rfl (by intro w; go_simp; try rfl) ?_
    simp only [Act.put, nA, nB, nC]
    refine Seq.loadAt rfl rfl rfl rfl (by repeat (first | exact mC | apply mT)) (n := 6) (cs' := SW qx1 qx2) (Nat.le_of_ble_eq_true rfl) (by kernel_rfl) rfl ?_
    simp only [Act.put, nA, nB, nC]
    refine Seq.call rfl rfl rfl rfl (by kernel_rfl) (within_w (k := (1 * k + 2)) (a1 := px1) (a2 := px2) (b1 := qx1) (b2 := qx2) HT.out (Z_px.out.more (by omega)) (Z_qx.out.more (by omega))  B1.out (by omega) (by omega)) ?_
    simp only [Act.put, nA, nB, nC]
    iterate 2 (refine Seq.pure rfl rfl (by intro w; go_simp; try rfl) ?_; simp only [Act.put, nA, nB, nC])
    refine Seq.loadAt rfl rfl rfl rfl (by repeat (first | exact mC | apply mT)) (n := 6) (cs' := SW py1 py2) (Nat.le_of_ble_eq_true rfl) (by kernel_rfl) rfl ?_
    simp only [Act.put, nA, nB, nC]
    refine Seq.pure rfl rfl (by intro w; go_simp; try rfl) ?_
    simp only [Act.put, nA, nB, nC]
    refine Seq.loadAt rfl rfl rfl rfl (by repeat (first | exact mC | apply mT)) (n := 6) (cs' := SW qy1 qy2) (Nat.le_of_ble_eq_true rfl) (by kernel_rfl) rfl ?_
    simp only [Act.put, nA, nB, nC]
    refine Seq.call rfl rfl rfl rfl (by kernel_rfl) (within_w (k := (1 * k + 2)) (a1 := py1) (a2 := py2) (b1 := qy1) (b2 := qy2) HT.out (Z_py.out.more (by omega)) (Z_qy.out.more (by omega))  B2.out (by omega) (by omega)) ?_
    simp only [Act.put, nA, nB, nC]
    iterate 2 (refine Seq.pure rfl rfl (by intro w; go_simp; try rfl) ?_; simp only [Act.put, nA, nB, nC])
    iterate 5 (refine Seq.nw rfl ?_; simp only [Act.put, nA, nB, nC])
    iterate 2 (refine Seq.pure rfl rfl (by intro w; go_simp; try rfl) ?_; simp only [Act.put, nA, nB, nC])
    refine Seq.done fun ws2 hws => ?_
    have HS2 := hws.st
    clear HS1 hws
    go_wp2_with fail
    go_ret
    exact ⟨congrArg (fun b => Ending.returned (.bool b)) HB.out, HS2.below⟩
  · have B1 := Lib.hid hb1
    have B2 := Lib.hid hb2
    have B3 := Lib.hid hb3
    have HB := Lib.hid (show false = insQ pxl pxh pyl pyh ptl pth qxl qxh qyl qyh qtl qth from by unfold insQ; simp [hb1, hb2, hb3])
    clear hb1 hb2 hb3
    go_enter Tryd.func32, Tryd.ntmps32
    have HS : St w [] w := St.start
    go_upto_region 0 with (fail)
    refine wp_seq_text [] (StR.no HS) ?_
    refine Seq.box rfl rfl rfl (v := .agg (PW px1 px2 py1 py2 pt1 pt2)) (cs := PW px1 px2 py1 py2 pt1 pt2) rfl rfl ?_
    intro bk2 _ _ hbk2_r
    simp only [Act.put, nA, nB, nC]
    refine Seq.box rfl rfl rfl (v := .agg (PW qx1 qx2 qy1 qy2 qt1 qt2)) (cs := PW qx1 qx2 qy1 qy2 qt1 qt2) rfl rfl ?_
    intro bk3 _ _ hbk3_r
    obtain ⟨ne_bk3_bk2, hbk3_r⟩ := Reg.ne_of_put hbk3_r
    have ne_bk2_bk3 := Ne.symm ne_bk3_bk2
    simp only [Act.put, nA, nB, nC]
    refine Seq.pure rfl rfl (by intro w; go_simp; try rfl) ?_
    simp only [Act.put, nA, nB, nC]
    refine Seq.done fun ws1 hws => ?_
    have HS1 := hws.list2 (p := bk2) (q := bk3) (by repeat (first | exact rS | refine rN (by assumption) ?_)) (by repeat (first | exact rS | refine rN (by assumption) ?_)) (by assumption)
    clear HS hws
    go_upto_region 1 with (fail)
    refine wp_seq_text [] (StR.no HS1) ?_
    refine Seq.pure rfl rfl (by intro w; go_simp; try rfl) ?_
    simp only [Act.put, nA, nB, nC]
    refine Seq.loadAt rfl rfl rfl rfl (by repeat (first | exact mC | apply mT)) (n := 6) (cs' := SW px1 px2) (Nat.le_of_ble_eq_true rfl) (by kernel_rfl) rfl ?_
    simp only [Act.put, nA, nB, nC]
    refine Seq.pure rfl rfl (by intro w; go_simp; try rfl) ?_
    simp only [Act.put, nA, nB, nC]
    refine Seq.loadAt rfl rfl rfl rfl (by repeat (first | exact mC | apply mT)) (n := 6) (cs' := SW qx1 qx2) (Nat.le_of_ble_eq_true rfl) (by kernel_rfl) rfl ?_
    simp only [Act.put, nA, nB, nC]
    refine Seq.call rfl rfl rfl rfl (by kernel_rfl) (within_w (k := (1 * k + 2)) (a1 := px1) (a2 := px2) (b1 := qx1) (b2 := qx2) HT.out (Z_px.out.more (by omega)) (Z_qx.out.more (by omega))  B1.out (by omega) (by omega)) ?_
    simp only [Act.put, nA, nB, nC]
    iterate 2 (refine Seq.pure rfl rfl (by intro w; go_simp; try rfl) ?_; simp only [Act.put, nA, nB, nC])
    refine Seq.loadAt rfl rfl rfl rfl (by repeat (first | exact mC | apply mT)) (n := 6) (cs' := SW py1 py2) (Nat.le_of_ble_eq_true rfl) (by kernel_rfl) rfl ?_
    simp only [Act.put, nA, nB, nC]
    refine Seq.pure rfl rfl (by intro w; go_simp; try rfl) ?_
    simp only [Act.put, nA, nB, nC]
    refine Seq.loadAt rfl rfl rfl rfl (by repeat (first | exact mC | apply mT)) (n := 6) (cs' := SW qy1 qy2) (Nat.le_of_ble_eq_true rfl) (by kernel_rfl) rfl ?_
    simp only [Act.put, nA, nB, nC]
    refine Seq.call rfl rfl rfl rfl (by kernel_rfl) (within_w (k := (1 * k + 2)) (a1 := py1) (a2 := py2) (b1 := qy1) (b2 := qy2) HT.out (Z_py.out.more (by omega)) (Z_qy.out.more (by omega))  B2.out (by omega) (by omega)) ?_
    simp only [Act.put, nA, nB, nC]
    iterate 3 (refine Seq.pure rfl rfl (by intro w; go_simp; try rfl) ?_; simp only [Act.put, nA, nB, nC])
    refine Seq.loadAt rfl rfl rfl rfl (by repeat (first | exact mC | apply mT)) (n := 6) (cs' := SW pt1 pt2) (Nat.le_of_ble_eq_true rfl) (by kernel_rfl) rfl ?_
    simp only [Act.put, nA, nB, nC]
    refine Seq.pure rfl rfl (by intro w; go_simp; try rfl) ?_
    simp only [Act.put, nA, nB, nC]
    refine Seq.loadAt rfl rfl rfl rfl (by repeat (first | exact mC | apply mT)) (n := 6) (cs' := SW qt1 qt2) (Nat.le_of_ble_eq_true rfl) (by kernel_rfl) rfl ?_
    simp only [Act.put, nA, nB, nC]
    refine Seq.call rfl rfl rfl rfl (by kernel_rfl) (within_w (k := (1 * k + 2)) (a1 := pt1) (a2 := pt2) (b1 := qt1) (b2 := qt2) HT.out (Z_pt.out.more (by omega)) (Z_qt.out.more (by omega))  B3.out (by omega) (by omega)) ?_
    simp only [Act.put, nA, nB, nC]
    iterate 2 (refine Seq.pure rfl rfl (by intro w; go_simp; try rfl) ?_; simp only [Act.put, nA, nB, nC])
    refine Seq.done fun ws2 hws => ?_
    have HS2 := hws.st
    clear HS1 hws
    go_wp2_with fail
    go_ret
    exact ⟨congrArg (fun b => Ending.returned (.bool b)) HB.out, HS2.below⟩
  · have B1 := Lib.hid hb1
    have B2 := Lib.hid hb2
    have B3 := Lib.hid hb3
    have HB := Lib.hid (show true = insQ pxl pxh pyl pyh ptl pth qxl qxh qyl qyh qtl qth from by unfold insQ; simp [hb1, hb2, hb3])
    clear hb1 hb2 hb3
    go_enter Tryd.func32, Tryd.ntmps32
    have HS : St w [] w := St.start
    go_upto_region 0 with (fail)
    refine wp_seq_text [] (StR.no HS) ?_
    refine Seq.box rfl rfl rfl (v := .agg (PW px1 px2 py1 py2 pt1 pt2)) (cs := PW px1 px2 py1 py2 pt1 pt2) rfl rfl ?_
    intro bk2 _ _ hbk2_r
    simp only [Act.put, nA, nB, nC]
    refine Seq.box rfl rfl rfl (v := .agg (PW qx1 qx2 qy1 qy2 qt1 qt2)) (cs := PW qx1 qx2 qy1 qy2 qt1 qt2) rfl rfl ?_
    intro bk3 _ _ hbk3_r
    obtain ⟨ne_bk3_bk2, hbk3_r⟩ := Reg.ne_of_put hbk3_r
    have ne_bk2_bk3 := Ne.symm ne_bk3_bk2
    simp only [Act.put, nA, nB, nC]
    refine Seq.pure rfl rfl (by intro w; go_simp; try rfl) ?_
    simp only [Act.put, nA, nB, nC]
    refine Seq.done fun ws1 hws => ?_
    have HS1 := hws.list2 (p := bk2) (q := bk3) (by repeat (first | exact rS | refine rN (by assumption) ?_)) (by repeat (first | exact rS | refine rN (by assumption) ?_)) (by assumption)
    clear HS hws
    go_upto_region 1 with (fail)
    refine wp_seq_text [] (StR.no HS1) ?_
    refine Seq.pure rfl rfl (by intro w; go_simp; try rfl) ?_
    simp only [Act.put, nA, nB, nC]
    refine Seq.loadAt rfl rfl rfl rfl (by repeat (first | exact mC | apply mT)) (n := 6) (cs' := SW px1 px2) (Nat.le_of_ble_eq_true rfl) (by kernel_rfl) rfl ?_
    simp only [Act.put, nA, nB, nC]
    refine Seq.pure rfl rfl (by intro w; go_simp; try rfl) ?_
    simp only [Act.put, nA, nB, nC]
    refine Seq.loadAt rfl rfl rfl rfl (by repeat (first | exact mC | apply mT)) (n := 6) (cs' := SW qx1 qx2) (Nat.le_of_ble_eq_true rfl) (by kernel_rfl) rfl ?_
    simp only [Act.put, nA, nB, nC]
    refine Seq.call rfl rfl rfl rfl (by kernel_rfl) (within_w (k := (1 * k + 2)) (a1 := px1) (a2 := px2) (b1 := qx1) (b2 := qx2) HT.out (Z_px.out.more (by omega)) (Z_qx.out.more (by omega))  B1.out (by omega) (by omega)) ?_
    simp only [Act.put, nA, nB, nC]
    iterate 2 (refine Seq.pure rfl rfl (by intro w; go_simp; try rfl) ?_; simp only [Act.put, nA, nB, nC])
    refine Seq.loadAt rfl rfl rfl rfl (by repeat (first | exact mC | apply mT)) (n := 6) (cs' := SW py1 py2) (Nat.le_of_ble_eq_true rfl) (by kernel_rfl) rfl ?_
    simp only [Act.put, nA, nB, nC]
    refine Seq.pure rfl rfl (by intro w; go_simp; try rfl) ?_
    simp only [Act.put, nA, nB, nC]
    refine Seq.loadAt rfl rfl rfl rfl (by repeat (first | exact mC | apply mT)) (n := 6) (cs' := SW qy1 qy2) (Nat.le_of_ble_eq_true rfl) (by kernel_rfl) rfl ?_
    simp only [Act.put, nA, nB, nC]
    refine Seq.call rfl rfl rfl rfl (by kernel_rfl) (within_w (k := (1 * k + 2)) (a1 := py1) (a2 := py2) (b1 := qy1) (b2 := qy2) HT.out (Z_py.out.more (by omega)) (Z_qy.out.more (by omega))  B2.out (by omega) (by omega)) ?_
    simp only [Act.put, nA, nB, nC]
    iterate 3 (refine Seq.pure rfl rfl (by intro w; go_simp; try rfl) ?_; simp only [Act.put, nA, nB, nC])
    refine Seq.loadAt rfl rfl rfl rfl (by repeat (first | exact mC | apply mT)) (n := 6) (cs' := SW pt1 pt2) (Nat.le_of_ble_eq_true rfl) (by kernel_rfl) rfl ?_
    simp only [Act.put, nA, nB, nC]
    refine Seq.pure rfl rfl (by intro w; go_simp; try rfl) ?_
    simp only [Act.put, nA, nB, nC]
    refine Seq.loadAt rfl rfl rfl rfl (by repeat (first | exact mC | apply mT)) (n := 6) (cs' := SW qt1 qt2) (Nat.le_of_ble_eq_true rfl) (by kernel_rfl) rfl ?_
    simp only [Act.put, nA, nB, nC]
    refine Seq.call rfl rfl rfl rfl (by kernel_rfl) (within_w (k := (1 * k + 2)) (a1 := pt1) (a2 := pt2) (b1 := qt1) (b2 := qt2) HT.out (Z_pt.out.more (by omega)) (Z_qt.out.more (by omega))  B3.out (by omega) (by omega)) ?_
    simp only [Act.put, nA, nB, nC]
    iterate 2 (refine Seq.pure rfl rfl (by intro w; go_simp; try rfl) ?_; simp only [Act.put, nA, nB, nC])
    refine Seq.done fun ws2 hws => ?_
    have HS2 := hws.st
    clear HS1 hws
    go_wp2_with fail
    go_ret
    exact ⟨congrArg (fun b => Ending.returned (.bool b)) HB.out, HS2.below⟩
end Go.Proofs.YtoejojfjiikogaaDoor
