/- gantref4.turnedOf, rotated. -/
import Derived.Test.YtoejojfjiikogaaDoorCaB
import Derived.LoopN

namespace Go.Proofs.YtoejojfjiikogaaDoor
open Go.RowKit
set_option linter.unusedVariables false
set_option linter.unusedSimpArgs false

theorem tuQ_comm (a t : Rat) : (a + t) / (1 - a * t) = tuQ a t := by unfold tuQ; rw [Rat.add_comm]
set_option maxHeartbeats 2000000 in
set_option maxRecDepth 20000 in
theorem turnedOf_w {k : Nat} {tl : Rat} {th : Rat} {a : Rat} {a_g : Bool} {a_t : RT} {z0 : Bool} {W : World} {l : List Own} (hT : Tab W) (Ztl : Rz k tl) (Zth : Rz k th) (Za : RawT k a a_g a_t) (hz0 : tOk a tl th = z0) (hk0 : 2 ≤ k) (hk : k ≤ 1000000000000) (w : World) (h : St W l w) :
    Calls Tryd.prog 42 #[.agg (VC tl th), .agg (RT.c a_t)] w fun e w' => e = .returned (.tuple #[.agg (SW (toR0 a tl th) (toR1 a tl th)), .bool z0]) ∧ Below w.heap.size w w' := by
  subst hz0
  have HT := Lib.hid (tabS hT h); clear hT h
  have Z_tl := Lib.hid Ztl; clear Ztl
  have Z_th := Lib.hid Zth; clear Zth
  have Z_a := Lib.hid Za; clear Za
  obtain ⟨v0, v1, v2, hv0, hv1, hw1, hw2, hw3, hw5⟩ := sgn_sum (1 - a * tl) (1 - a * th)
  have HV0 := Lib.hid hv0; clear hv0
  have HV1 := Lib.hid hv1; clear hv1
  have HW := Lib.hid (show IntKind.i64.wrap (0 + v0) = v0 ∧ IntKind.i64.wrap v0 = v0 ∧ IntKind.i64.wrap (v0 + v1) = v2 from ⟨hw1, hw2, hw3⟩)
  clear hw1 hw2 hw3
  go_enter Tryd.func42, Tryd.ntmps42
  have HS : St w [] w := St.start
  go_upto_region 0 with (fail)
  refine wp_seq_text [] (StR.no HS) ?_
  refine Seq.box rfl rfl rfl (v := .agg (VC tl th)) (cs := VC tl th) rfl rfl ?_
  intro bk2 _ _ hbk2_r
  simp only [Act.put, nA, nB, nC]
  refine Seq.box rfl rfl rfl (v := .agg (RT.c a_t)) (cs := RT.c a_t) rfl rfl ?_
  intro bk3 _ _ hbk3_r
  obtain ⟨ne_bk3_bk2, hbk3_r⟩ := Reg.ne_of_put hbk3_r
  have ne_bk2_bk3 := Ne.symm ne_bk3_bk2
  simp only [Act.put, nA, nB, nC]
  refine Seq.alloc rfl rfl rfl (z := .agg (SW rz0 rz0)) (by kernel_rfl) rfl ?_
  intro bk4 _ _ hbk4_r
  obtain ⟨ne_bk4_bk3, hbk4_r⟩ := Reg.ne_of_put hbk4_r
  have ne_bk3_bk4 := Ne.symm ne_bk4_bk3
  obtain ⟨ne_bk4_bk2, hbk4_r⟩ := Reg.ne_of_put hbk4_r
  have ne_bk2_bk4 := Ne.symm ne_bk4_bk2
  simp only [Act.put, nA, nB, nC]
  refine Seq.pure rfl rfl (by intro w; go_simp; try rfl) ?_
  simp only [Act.put, nA, nB, nC]
  refine Seq.done fun ws1 hws => ?_
  have HS1 := hws.list3 (p := bk2) (q := bk3) (r := bk4) (by repeat (first | exact rS | refine rN (by assumption) ?_)) (by repeat (first | exact rS | refine rN (by assumption) ?_)) (by repeat (first | exact rS | refine rN (by assumption) ?_)) (by assumption) (by assumption) (by assumption)
  clear HS hws
  go_upto_region 1 with (fail)
  refine wp_seq_text [] (StR.no HS1) ?_
  refine Seq.alloc rfl rfl rfl (z := .agg (SW rz0 rz0)) (by kernel_rfl) rfl ?_
  intro bk6 _ _ hbk6_r
  simp only [Act.put, nA, nB, nC]
  refine Seq.done fun ws2 hws => ?_
  have HS2 := hws.list1 (p := bk6) (by repeat (first | exact rS | refine rN (by assumption) ?_))
  clear HS1 hws
  go_upto_region 2 with (fail)
  refine wp_seq_text [] (StR.no HS2) ?_
  refine Seq.pure rfl rfl (by intro w; go_simp; try rfl) ?_
  simp only [Act.put, nA, nB, nC]
  refine Seq.done fun ws3 hws => ?_
  have HS3 := hws.st
  clear HS2 hws
  go_upto_region 3 with (fail)
  refine wp_seq_text [] (StR.no HS3) ?_
  refine Seq.pure rfl rfl (by intro w; go_simp; try rfl) ?_
  simp only [Act.put, nA, nB, nC]
  refine Seq.done fun ws4 hws => ?_
  have HS4 := hws.st
  clear HS3 hws
  go_wp2_with fail
  refine wp_loop_rounds 3 ?_
  rw [rounds_succ]
  go_upto_region 4 with (fail)
  refine wp_seq_text [] (StR.no HS4) ?_
  refine Seq.pure rfl rfl (by intro w; go_simp; try rfl) ?_
  simp only [Act.put, nA, nB, nC]
  refine Seq.done fun ws5 hws => ?_
  have HS5 := hws.st
  clear HS4 hws
  go_upto_region 5 with (fail)
  refine wp_seq_text [] (StR.no HS5) ?_
  iterate 2 (refine Seq.pure rfl rfl (by intro w; go_simp; try rfl) ?_; simp only [Act.put, nA, nB, nC])
  refine Seq.done fun ws6 hws => ?_
  have HS6 := hws.st
  clear HS5 hws
  go_upto_region 6 with (fail)
  refine wp_seq [] (by kernel_rfl) (by kernel_rfl) Reg.fin_no (StR.no HS6) ?_
  refine Seq.call rfl rfl rfl rfl (by kernel_rfl) (of_q HT.out (by omega) (by omega) (show ((1 : Int) : Rat) = (1 : Rat) from rfl)) ?_
  simp only [Act.put, nA, nB, nC]
  refine Seq.load rfl rfl rfl rfl (by repeat (first | exact mC | apply mT)) (n := 3) rfl (by kernel_rfl) ?_
  simp only [Act.put, nA, nB, nC]
  iterate 2 (refine Seq.pure rfl rfl (by intro w; go_simp; try rfl) ?_; simp only [Act.put, nA, nB, nC])
  refine Seq.loadAt rfl rfl rfl rfl (by repeat (first | exact mC | apply mT)) (n := 3) (cs' := RC tl) (Nat.le_of_ble_eq_true rfl) (by kernel_rfl) rfl ?_
  simp only [Act.put, nA, nB, nC]
  refine Seq.call rfl rfl rfl rfl (by kernel_rfl) (mul_wq (k := (1 * k + 2)) HT.out (Z_a.out.more (by omega)) (Z_tl.out.more (by omega)) rfl (by omega)) ?_
  simp only [Act.put, nA, nB, nC]
  refine Seq.call rfl rfl rfl rfl (by kernel_rfl) (sub_q (k := (2 * k + 2)) HT.out ((show Rz 2 (1 : Rat) from Rz.lit (z := 1) rfl (by decide)).more (by omega)) ((Rz.mul Z_a.out.rz Z_tl.out).more (by omega)) rfl (by omega)) ?_
  simp only [Act.put, nA, nB, nC]
  refine Seq.alloc rfl rfl rfl (z := .agg (RT.c rz0)) (by kernel_rfl) rfl ?_
  intro bk9 _ _ hbk9_r
  simp only [Act.put, nA, nB, nC]
  refine Seq.store rfl rfl rfl rfl rfl (by repeat (first | exact rS | refine rN (by assumption) ?_)) (n := 3) rfl rfl (by kernel_rfl) (RC_one _) ?_
  simp only [Act.put, nA, nB, nC]
  refine Seq.done fun ws7 hws => ?_
  have HS7 := hws.list1 (p := bk9) (by repeat (first | exact rS | refine rN (by assumption) ?_))
  clear HS6 hws
  go_upto_region 7 with (fail)
  refine wp_seq_text [] (StR.no HS7) ?_
  refine Seq.pure rfl rfl (by intro w; go_simp; try rfl) ?_
  simp only [Act.put, nA, nB, nC]
  refine Seq.load rfl rfl rfl rfl (by repeat (first | exact mC | apply mT)) (n := 3) rfl (by kernel_rfl) ?_
  simp only [Act.put, nA, nB, nC]
  refine Seq.call rfl rfl rfl rfl (by kernel_rfl) (sign_q (k := (4 * k + 5)) HT.out (((show Rz 2 (1 : Rat) from Rz.lit (z := 1) rfl (by decide)).sub (Rz.mul Z_a.out.rz Z_tl.out)).more (by omega)) HV0.out (by omega)) ?_
  simp only [Act.put, nA, nB, nC]
  refine Seq.pure (v := .int .i64 v0) rfl rfl (by intro w; go_simp <;> (first | (rw [HW.out.1]; done) | (rw [HW.out.2.1]; done) | exact HW.out.1 | exact HW.out.2.1 | (simp [HW.out.1, HW.out.2.1]; done) | (trace_state; done))) ?_
  simp only [Act.put, nA, nB, nC]
  refine Seq.pure rfl rfl (by intro w; go_simp; try rfl) ?_
  simp only [Act.put, nA, nB, nC]
  refine Seq.done fun ws8 hws => ?_
  have HS8 := hws.st
  clear HS7 hws
  by_cases z0 : 1 - a * tl = 0
  · have HZ0 := Lib.hid z0
    have HR := Lib.hid (show Value.tuple #[.agg (SW rz0 rz0), .bool false] = Value.tuple #[.agg (SW (toR0 a tl th) (toR1 a tl th)), .bool (tOk a tl th)] from by rw [show toR0 a tl th = rz0 from if_pos z0, show toR1 a tl th = rz0 from if_pos z0, show tOk a tl th = false from by unfold tOk; rw [z0, Rat.zero_mul]; rfl])
    clear hw5 z0
    go_upto_region 8 with (fail)
    refine wp_seq [] (by kernel_rfl) (by kernel_rfl) Reg.fin_no (StR.no HS8) ?_
    refine Seq.load rfl rfl rfl rfl (by repeat (first | exact mC | apply mT)) (n := 3) rfl (by kernel_rfl) ?_
    simp only [Act.put, nA, nB, nC]
    iterate 2 (refine Seq.pure rfl rfl (by intro w; go_simp; try rfl) ?_; simp only [Act.put, nA, nB, nC])
    refine Seq.loadAt rfl rfl rfl rfl (by repeat (first | exact mC | apply mT)) (n := 3) (cs' := RC tl) (Nat.le_of_ble_eq_true rfl) (by kernel_rfl) rfl ?_
    simp only [Act.put, nA, nB, nC]
    refine Seq.call rfl rfl rfl rfl (by kernel_rfl) (add_wq (k := (1 * k + 2)) HT.out (Z_a.out.more (by omega)) (Z_tl.out.more (by omega)) rfl (by omega)) ?_
    simp only [Act.put, nA, nB, nC]
    refine Seq.load rfl rfl rfl rfl (by repeat (first | exact mC | apply mT)) (n := 3) rfl (by kernel_rfl) ?_
    simp only [Act.put, nA, nB, nC]
    refine Seq.call rfl rfl rfl rfl (by kernel_rfl) (div0_q (k := (4 * k + 5)) HT.out ((Rz.add Z_a.out.rz Z_tl.out).more (by omega)) (((show Rz 2 (1 : Rat) from Rz.lit (z := 1) rfl (by decide)).sub (Rz.mul Z_a.out.rz Z_tl.out)).more (by omega)) HZ0.out (by omega)) ?_
    simp only [Act.put, nA, nB, nC]
    refine Seq.pure rfl rfl (by intro w; go_simp; try rfl) ?_
    simp only [Act.put, nA, nB, nC]
    refine Seq.pure (v := .agg (#[.bool false, .string ⟨#[]⟩, .string ⟨#[]⟩])) rfl rfl (fun w => rfl) ?_
    simp only [Act.put, nA, nB, nC]
    refine Seq.pure (v := .int .i64 12) rfl rfl (fun w => rfl) ?_
    simp only [Act.put, nA, nB, nC]
    refine Seq.alloc rfl rfl rfl (z := .agg (RT.c rz0)) (by kernel_rfl) rfl ?_
    intro bk10 _ _ hbk10_r
    simp only [Act.put, nA, nB, nC]
    refine Seq.store rfl rfl rfl rfl rfl (by repeat (first | exact rS | refine rN (by assumption) ?_)) (n := 3) rfl rfl (by kernel_rfl) (by intro u hu; simp at hu; rcases hu with rfl | rfl | rfl <;> rfl) ?_
    simp only [Act.put, nA, nB, nC]
    refine Seq.pure rfl rfl (by intro w; go_simp; try rfl) ?_
    simp only [Act.put, nA, nB, nC]
    refine Seq.done fun ws9 hws => ?_
    have HS9 := hws.list1 (p := bk10) (by repeat (first | exact rS | refine rN (by assumption) ?_))
    clear HS8 hws
    go_upto_region 9 with (fail)
    refine wp_seq_text [] (StR.no HS9) ?_
    iterate 2 (refine Seq.pure rfl rfl (by intro w; go_simp; try rfl) ?_; simp only [Act.put, nA, nB, nC])
    refine Seq.done fun ws10 hws => ?_
    have HS10 := hws.st
    clear HS9 hws
    go_upto_region 10 with (fail)
    have HPbk4 := HS10.f5
    refine wp_seq_text [] (StR.move (StR.no HPbk4)) ?_
    refine Seq.load rfl rfl rfl rfl (by repeat (first | exact mC | apply mT)) (n := 6) rfl (by kernel_rfl) ?_
    simp only [Act.put, nA, nB, nC]
    refine Seq.store rfl rfl rfl rfl rfl (by repeat (first | exact rS | refine rN (by assumption) ?_)) (n := 6) rfl rfl (by kernel_rfl) (SW_one _ _) ?_
    simp only [Act.put, nA, nB, nC]
    refine Seq.pure rfl rfl (by intro w; go_simp; try rfl) ?_
    simp only [Act.put, nA, nB, nC]
    refine Seq.done fun ws11 hws => ?_
    have HS11 := hws.list1 (p := bk4) (by repeat (first | exact rS | refine rN (by assumption) ?_))
    clear HS10 hws HPbk4
    go_wp2_with fail
    exact ret_own2 rfl rfl rfl rfl HS11 (by repeat (first | exact mC | apply mT)) (n := 6) rfl (by kernel_rfl) ⟨congrArg Ending.returned HR.out, HS11.below⟩
  · have HNE0 := Lib.hid z0
    go_upto_region 8 with (fail)
    refine wp_seq [] (by kernel_rfl) (by kernel_rfl) Reg.fin_no (StR.no HS8) ?_
    refine Seq.load rfl rfl rfl rfl (by repeat (first | exact mC | apply mT)) (n := 3) rfl (by kernel_rfl) ?_
    simp only [Act.put, nA, nB, nC]
    iterate 2 (refine Seq.pure rfl rfl (by intro w; go_simp; try rfl) ?_; simp only [Act.put, nA, nB, nC])
    refine Seq.loadAt rfl rfl rfl rfl (by repeat (first | exact mC | apply mT)) (n := 3) (cs' := RC tl) (Nat.le_of_ble_eq_true rfl) (by kernel_rfl) rfl ?_
    simp only [Act.put, nA, nB, nC]
    refine Seq.call rfl rfl rfl rfl (by kernel_rfl) (add_wq (k := (1 * k + 2)) HT.out (Z_a.out.more (by omega)) (Z_tl.out.more (by omega)) rfl (by omega)) ?_
    simp only [Act.put, nA, nB, nC]
    refine Seq.load rfl rfl rfl rfl (by repeat (first | exact mC | apply mT)) (n := 3) rfl (by kernel_rfl) ?_
    simp only [Act.put, nA, nB, nC]
    refine Seq.call rfl rfl rfl rfl (by kernel_rfl) (div_q (k := (4 * k + 5)) HT.out ((Rz.add Z_a.out.rz Z_tl.out).more (by omega)) (((show Rz 2 (1 : Rat) from Rz.lit (z := 1) rfl (by decide)).sub (Rz.mul Z_a.out.rz Z_tl.out)).more (by omega)) HNE0.out (tuQ_comm a tl) (by omega)) ?_
    simp only [Act.put, nA, nB, nC]
    refine Seq.pure rfl rfl (by intro w; go_simp; try rfl) ?_
    simp only [Act.put, nA, nB, nC]
    refine Seq.pure (v := .agg (RC (tuQ a tl))) rfl rfl (fun w => rfl) ?_
    simp only [Act.put, nA, nB, nC]
    refine Seq.pure (v := .int .i64 0) rfl rfl (fun w => rfl) ?_
    simp only [Act.put, nA, nB, nC]
    refine Seq.alloc rfl rfl rfl (z := .agg (RT.c rz0)) (by kernel_rfl) rfl ?_
    intro bk10 _ _ hbk10_r
    simp only [Act.put, nA, nB, nC]
    refine Seq.store rfl rfl rfl rfl rfl (by repeat (first | exact rS | refine rN (by assumption) ?_)) (n := 3) rfl rfl (by kernel_rfl) (RC_one _) ?_
    simp only [Act.put, nA, nB, nC]
    refine Seq.pure rfl rfl (by intro w; go_simp; try rfl) ?_
    simp only [Act.put, nA, nB, nC]
    refine Seq.done fun ws9 hws => ?_
    have HS9 := hws.list1 (p := bk10) (by repeat (first | exact rS | refine rN (by assumption) ?_))
    clear HS8 hws
    go_upto_region 9 with (fail)
    refine wp_seq_text [] (StR.no HS9) ?_
    iterate 2 (refine Seq.pure rfl rfl (by intro w; go_simp; try rfl) ?_; simp only [Act.put, nA, nB, nC])
    refine Seq.done fun ws10 hws => ?_
    have HS10 := hws.st
    clear HS9 hws
    go_upto_region 11 with (fail)
    have HPbk6 := HS10.f2
    refine wp_seq_text [] (StR.move (StR.no HPbk6)) ?_
    refine Seq.pure rfl rfl (by intro w; go_simp; try rfl) ?_
    simp only [Act.put, nA, nB, nC]
    refine Seq.load rfl rfl rfl rfl (by repeat (first | exact mC | apply mT)) (n := 3) rfl (by kernel_rfl) ?_
    simp only [Act.put, nA, nB, nC]
    refine Seq.pure rfl rfl (by intro w; go_simp; try rfl) ?_
    simp only [Act.put, nA, nB, nC]
    refine Seq.storeAt (v := .agg (RC (tuQ a tl))) rfl rfl rfl rfl rfl (by repeat (first | exact rS | refine rN (by assumption) ?_)) (Nat.le_of_ble_eq_true rfl) (by show _ = some 3; kernel_rfl) (RC_one _) (cs' := SW (rt (tuQ a tl)) rz0) rfl ?_
    simp only [Act.put, nA, nB, nC]
    refine Seq.done fun ws11 hws => ?_
    have HS11 := hws.list1 (p := bk6) (by repeat (first | exact rS | refine rN (by assumption) ?_))
    clear HS10 hws HPbk6
    go_upto_region 12 with (fail)
    refine wp_seq_text [] (StR.no HS11) ?_
    refine Seq.pure (v := .int .i64 1) rfl rfl (by intro w; go_simp; try rfl) ?_
    simp only [Act.put, nA, nB, nC]
    refine Seq.pure rfl rfl (by intro w; go_simp; try rfl) ?_
    simp only [Act.put, nA, nB, nC]
    refine Seq.done fun ws12 hws => ?_
    have HS12 := hws.st
    clear HS11 hws
    go_wp2_with fail
    rw [rounds_succ]
    go_upto_region 4 with (fail)
    refine wp_seq_text [] (StR.no HS12) ?_
    refine Seq.pure rfl rfl (by intro w; go_simp; try rfl) ?_
    simp only [Act.put, nA, nB, nC]
    refine Seq.done fun ws13 hws => ?_
    have HS13 := hws.st
    clear HS12 hws
    go_upto_region 5 with (fail)
    refine wp_seq_text [] (StR.no HS13) ?_
    iterate 2 (refine Seq.pure rfl rfl (by intro w; go_simp; try rfl) ?_; simp only [Act.put, nA, nB, nC])
    refine Seq.done fun ws14 hws => ?_
    have HS14 := hws.st
    clear HS13 hws
    go_upto_region 6 with (fail)
    refine wp_seq [] (by kernel_rfl) (by kernel_rfl) Reg.fin_no (StR.no HS14) ?_
    refine Seq.call rfl rfl rfl rfl (by kernel_rfl) (of_q HT.out (by omega) (by omega) (show ((1 : Int) : Rat) = (1 : Rat) from rfl)) ?_
    simp only [Act.put, nA, nB, nC]
    refine Seq.load rfl rfl rfl rfl (by repeat (first | exact mC | apply mT)) (n := 3) rfl (by kernel_rfl) ?_
    simp only [Act.put, nA, nB, nC]
    iterate 2 (refine Seq.pure rfl rfl (by intro w; go_simp; try rfl) ?_; simp only [Act.put, nA, nB, nC])
    refine Seq.loadAt rfl rfl rfl rfl (by repeat (first | exact mC | apply mT)) (n := 3) (cs' := RC th) (Nat.le_of_ble_eq_true rfl) (by kernel_rfl) rfl ?_
    simp only [Act.put, nA, nB, nC]
    refine Seq.call rfl rfl rfl rfl (by kernel_rfl) (mul_wq (k := (1 * k + 2)) HT.out (Z_a.out.more (by omega)) (Z_th.out.more (by omega)) rfl (by omega)) ?_
    simp only [Act.put, nA, nB, nC]
    refine Seq.call rfl rfl rfl rfl (by kernel_rfl) (sub_q (k := (2 * k + 2)) HT.out ((show Rz 2 (1 : Rat) from Rz.lit (z := 1) rfl (by decide)).more (by omega)) ((Rz.mul Z_a.out.rz Z_th.out).more (by omega)) rfl (by omega)) ?_
    simp only [Act.put, nA, nB, nC]
    refine Seq.alloc rfl rfl rfl (z := .agg (RT.c rz0)) (by kernel_rfl) rfl ?_
    intro bk9_1 _ _ hbk9_1_r
    simp only [Act.put, nA, nB, nC]
    refine Seq.store rfl rfl rfl rfl rfl (by repeat (first | exact rS | refine rN (by assumption) ?_)) (n := 3) rfl rfl (by kernel_rfl) (RC_one _) ?_
    simp only [Act.put, nA, nB, nC]
    refine Seq.done fun ws15 hws => ?_
    have HS15 := hws.list1 (p := bk9_1) (by repeat (first | exact rS | refine rN (by assumption) ?_))
    clear HS14 hws
    go_upto_region 7 with (fail)
    refine wp_seq_text [] (StR.no HS15) ?_
    refine Seq.pure rfl rfl (by intro w; go_simp; try rfl) ?_
    simp only [Act.put, nA, nB, nC]
    refine Seq.load rfl rfl rfl rfl (by repeat (first | exact mC | apply mT)) (n := 3) rfl (by kernel_rfl) ?_
    simp only [Act.put, nA, nB, nC]
    refine Seq.call rfl rfl rfl rfl (by kernel_rfl) (sign_q (k := (4 * k + 5)) HT.out (((show Rz 2 (1 : Rat) from Rz.lit (z := 1) rfl (by decide)).sub (Rz.mul Z_a.out.rz Z_th.out)).more (by omega)) HV1.out (by omega)) ?_
    simp only [Act.put, nA, nB, nC]
    refine Seq.pure (v := .int .i64 v2) rfl rfl (by intro w; go_simp <;> (first | (rw [HW.out.2.2]; done) | exact HW.out.2.2 | (simp [HW.out.2.2]; done) | (trace_state; done))) ?_
    simp only [Act.put, nA, nB, nC]
    refine Seq.pure rfl rfl (by intro w; go_simp; try rfl) ?_
    simp only [Act.put, nA, nB, nC]
    refine Seq.done fun ws16 hws => ?_
    have HS16 := hws.st
    clear HS15 hws
    by_cases z1 : 1 - a * th = 0
    · have HZ0 := Lib.hid z1
      have HR := Lib.hid (show Value.tuple #[.agg (SW (rt (tuQ a tl)) rz0), .bool false] = Value.tuple #[.agg (SW (toR0 a tl th) (toR1 a tl th)), .bool (tOk a tl th)] from by rw [show toR0 a tl th = rt (tuQ a tl) from if_neg z0, show toR1 a tl th = rz0 from by unfold toR1; rw [if_neg z0, if_pos z1], show tOk a tl th = false from by unfold tOk; rw [z1, Rat.mul_zero]; rfl])
      clear hw5 z0 z1
      go_upto_region 8 with (fail)
      refine wp_seq [] (by kernel_rfl) (by kernel_rfl) Reg.fin_no (StR.no HS16) ?_
      refine Seq.load rfl rfl rfl rfl (by repeat (first | exact mC | apply mT)) (n := 3) rfl (by kernel_rfl) ?_
      simp only [Act.put, nA, nB, nC]
      iterate 2 (refine Seq.pure rfl rfl (by intro w; go_simp; try rfl) ?_; simp only [Act.put, nA, nB, nC])
      refine Seq.loadAt rfl rfl rfl rfl (by repeat (first | exact mC | apply mT)) (n := 3) (cs' := RC th) (Nat.le_of_ble_eq_true rfl) (by kernel_rfl) rfl ?_
      simp only [Act.put, nA, nB, nC]
      refine Seq.call rfl rfl rfl rfl (by kernel_rfl) (add_wq (k := (1 * k + 2)) HT.out (Z_a.out.more (by omega)) (Z_th.out.more (by omega)) rfl (by omega)) ?_
      simp only [Act.put, nA, nB, nC]
      refine Seq.load rfl rfl rfl rfl (by repeat (first | exact mC | apply mT)) (n := 3) rfl (by kernel_rfl) ?_
      simp only [Act.put, nA, nB, nC]
      refine Seq.call rfl rfl rfl rfl (by kernel_rfl) (div0_q (k := (4 * k + 5)) HT.out ((Rz.add Z_a.out.rz Z_th.out).more (by omega)) (((show Rz 2 (1 : Rat) from Rz.lit (z := 1) rfl (by decide)).sub (Rz.mul Z_a.out.rz Z_th.out)).more (by omega)) HZ0.out (by omega)) ?_
      simp only [Act.put, nA, nB, nC]
      refine Seq.pure rfl rfl (by intro w; go_simp; try rfl) ?_
      simp only [Act.put, nA, nB, nC]
      refine Seq.pure (v := .agg (#[.bool false, .string ⟨#[]⟩, .string ⟨#[]⟩])) rfl rfl (fun w => rfl) ?_
      simp only [Act.put, nA, nB, nC]
      refine Seq.pure (v := .int .i64 12) rfl rfl (fun w => rfl) ?_
      simp only [Act.put, nA, nB, nC]
      refine Seq.alloc rfl rfl rfl (z := .agg (RT.c rz0)) (by kernel_rfl) rfl ?_
      intro bk10_1 _ _ hbk10_1_r
      simp only [Act.put, nA, nB, nC]
      refine Seq.store rfl rfl rfl rfl rfl (by repeat (first | exact rS | refine rN (by assumption) ?_)) (n := 3) rfl rfl (by kernel_rfl) (by intro u hu; simp at hu; rcases hu with rfl | rfl | rfl <;> rfl) ?_
      simp only [Act.put, nA, nB, nC]
      refine Seq.pure rfl rfl (by intro w; go_simp; try rfl) ?_
      simp only [Act.put, nA, nB, nC]
      refine Seq.done fun ws17 hws => ?_
      have HS17 := hws.list1 (p := bk10_1) (by repeat (first | exact rS | refine rN (by assumption) ?_))
      clear HS16 hws
      go_upto_region 9 with (fail)
      refine wp_seq_text [] (StR.no HS17) ?_
      iterate 2 (refine Seq.pure rfl rfl (by intro w; go_simp; try rfl) ?_; simp only [Act.put, nA, nB, nC])
      refine Seq.done fun ws18 hws => ?_
      have HS18 := hws.st
      clear HS17 hws
      go_upto_region 10 with (fail)
      have HPbk4 := HS18.f7
      refine wp_seq_text [] (StR.move (StR.no HPbk4)) ?_
      refine Seq.load rfl rfl rfl rfl (by repeat (first | exact mC | apply mT)) (n := 6) rfl (by kernel_rfl) ?_
      simp only [Act.put, nA, nB, nC]
      refine Seq.store rfl rfl rfl rfl rfl (by repeat (first | exact rS | refine rN (by assumption) ?_)) (n := 6) rfl rfl (by kernel_rfl) (SW_one _ _) ?_
      simp only [Act.put, nA, nB, nC]
      refine Seq.pure rfl rfl (by intro w; go_simp; try rfl) ?_
      simp only [Act.put, nA, nB, nC]
      refine Seq.done fun ws19 hws => ?_
      have HS19 := hws.list1 (p := bk4) (by repeat (first | exact rS | refine rN (by assumption) ?_))
      clear HS18 hws HPbk4
      go_wp2_with fail
      exact ret_own2 rfl rfl rfl rfl HS19 (by repeat (first | exact mC | apply mT)) (n := 6) rfl (by kernel_rfl) ⟨congrArg Ending.returned HR.out, HS19.below⟩
    · have HNE1 := Lib.hid z1
      go_upto_region 8 with (fail)
      refine wp_seq [] (by kernel_rfl) (by kernel_rfl) Reg.fin_no (StR.no HS16) ?_
      refine Seq.load rfl rfl rfl rfl (by repeat (first | exact mC | apply mT)) (n := 3) rfl (by kernel_rfl) ?_
      simp only [Act.put, nA, nB, nC]
      iterate 2 (refine Seq.pure rfl rfl (by intro w; go_simp; try rfl) ?_; simp only [Act.put, nA, nB, nC])
      refine Seq.loadAt rfl rfl rfl rfl (by repeat (first | exact mC | apply mT)) (n := 3) (cs' := RC th) (Nat.le_of_ble_eq_true rfl) (by kernel_rfl) rfl ?_
      simp only [Act.put, nA, nB, nC]
      refine Seq.call rfl rfl rfl rfl (by kernel_rfl) (add_wq (k := (1 * k + 2)) HT.out (Z_a.out.more (by omega)) (Z_th.out.more (by omega)) rfl (by omega)) ?_
      simp only [Act.put, nA, nB, nC]
      refine Seq.load rfl rfl rfl rfl (by repeat (first | exact mC | apply mT)) (n := 3) rfl (by kernel_rfl) ?_
      simp only [Act.put, nA, nB, nC]
      refine Seq.call rfl rfl rfl rfl (by kernel_rfl) (div_q (k := (4 * k + 5)) HT.out ((Rz.add Z_a.out.rz Z_th.out).more (by omega)) (((show Rz 2 (1 : Rat) from Rz.lit (z := 1) rfl (by decide)).sub (Rz.mul Z_a.out.rz Z_th.out)).more (by omega)) HNE1.out (tuQ_comm a th) (by omega)) ?_
      simp only [Act.put, nA, nB, nC]
      refine Seq.pure rfl rfl (by intro w; go_simp; try rfl) ?_
      simp only [Act.put, nA, nB, nC]
      refine Seq.pure (v := .agg (RC (tuQ a th))) rfl rfl (fun w => rfl) ?_
      simp only [Act.put, nA, nB, nC]
      refine Seq.pure (v := .int .i64 0) rfl rfl (fun w => rfl) ?_
      simp only [Act.put, nA, nB, nC]
      refine Seq.alloc rfl rfl rfl (z := .agg (RT.c rz0)) (by kernel_rfl) rfl ?_
      intro bk10_1 _ _ hbk10_1_r
      simp only [Act.put, nA, nB, nC]
      refine Seq.store rfl rfl rfl rfl rfl (by repeat (first | exact rS | refine rN (by assumption) ?_)) (n := 3) rfl rfl (by kernel_rfl) (RC_one _) ?_
      simp only [Act.put, nA, nB, nC]
      refine Seq.pure rfl rfl (by intro w; go_simp; try rfl) ?_
      simp only [Act.put, nA, nB, nC]
      refine Seq.done fun ws17 hws => ?_
      have HS17 := hws.list1 (p := bk10_1) (by repeat (first | exact rS | refine rN (by assumption) ?_))
      clear HS16 hws
      go_upto_region 9 with (fail)
      refine wp_seq_text [] (StR.no HS17) ?_
      iterate 2 (refine Seq.pure rfl rfl (by intro w; go_simp; try rfl) ?_; simp only [Act.put, nA, nB, nC])
      refine Seq.done fun ws18 hws => ?_
      have HS18 := hws.st
      clear HS17 hws
      go_upto_region 11 with (fail)
      have HPbk6 := HS18.f2
      refine wp_seq_text [] (StR.move (StR.no HPbk6)) ?_
      refine Seq.pure rfl rfl (by intro w; go_simp; try rfl) ?_
      simp only [Act.put, nA, nB, nC]
      refine Seq.load rfl rfl rfl rfl (by repeat (first | exact mC | apply mT)) (n := 3) rfl (by kernel_rfl) ?_
      simp only [Act.put, nA, nB, nC]
      refine Seq.pure rfl rfl (by intro w; go_simp; try rfl) ?_
      simp only [Act.put, nA, nB, nC]
      refine Seq.storeAt (v := .agg (RC (tuQ a th))) rfl rfl rfl rfl rfl (by repeat (first | exact rS | refine rN (by assumption) ?_)) (Nat.le_of_ble_eq_true rfl) (by show _ = some 3; kernel_rfl) (RC_one _) (cs' := VC (tuQ a tl) (tuQ a th)) rfl ?_
      simp only [Act.put, nA, nB, nC]
      refine Seq.done fun ws19 hws => ?_
      have HS19 := hws.list1 (p := bk6) (by repeat (first | exact rS | refine rN (by assumption) ?_))
      clear HS18 hws HPbk6
      go_upto_region 12 with (fail)
      refine wp_seq_text [] (StR.no HS19) ?_
      refine Seq.pure (v := .int .i64 2) rfl rfl (by intro w; go_simp; try rfl) ?_
      simp only [Act.put, nA, nB, nC]
      refine Seq.pure rfl rfl (by intro w; go_simp; try rfl) ?_
      simp only [Act.put, nA, nB, nC]
      refine Seq.done fun ws20 hws => ?_
      have HS20 := hws.st
      clear HS19 hws
      go_wp2_with fail
      rw [rounds_succ]
      go_upto_region 4 with (fail)
      refine wp_seq_text [] (StR.no HS20) ?_
      refine Seq.pure rfl rfl (by intro w; go_simp; try rfl) ?_
      simp only [Act.put, nA, nB, nC]
      refine Seq.done fun ws21 hws => ?_
      have HS21 := hws.st
      clear HS20 hws
      have hw6 := (hw5 z0 z1).symm
      clear hw5
      have hsp : (v2 == 2) = true ∨ ((v2 == 2) = false ∧ (v2 == -2) = true) ∨ ((v2 == 2) = false ∧ (v2 == -2) = false) := by cases (v2 == 2) <;> cases (v2 == -2) <;> simp
      rcases hsp with e1 | ⟨e1, e2⟩ | ⟨e1, e2⟩
      · rw [e1] at hw6
        replace hw6 : tOk a tl th = true := hw6
        have HR := Lib.hid (show Value.tuple #[.agg (VC (tuQ a tl) (tuQ a th)), .bool true] = Value.tuple #[.agg (SW (toR0 a tl th) (toR1 a tl th)), .bool (tOk a tl th)] from by rw [show toR0 a tl th = rt (tuQ a tl) from if_neg z0, show toR1 a tl th = rt (tuQ a th) from by unfold toR1; rw [if_neg z0, if_neg z1], hw6]; rfl)
        clear hw6 z0 z1
        go_upto_region 13 with (fail)
        have HPbk4 := HS21.f7
        refine wp_seq_text [] (StR.move (StR.no HPbk4)) ?_
        refine Seq.load rfl rfl rfl rfl (by repeat (first | exact mC | apply mT)) (n := 6) rfl (by kernel_rfl) ?_
        simp only [Act.put, nA, nB, nC]
        iterate 3 (refine Seq.pure rfl rfl (by intro w; go_simp; try rfl) ?_; simp only [Act.put, nA, nB, nC])
        iterate 2 (refine Seq.nw rfl ?_; simp only [Act.put, nA, nB, nC])
        refine Seq.pure rfl rfl (by intro w; go_simp; try rfl) ?_
        simp only [Act.put, nA, nB, nC]
        refine Seq.store rfl rfl rfl rfl rfl (by repeat (first | exact rS | refine rN (by assumption) ?_)) (n := 6) rfl rfl (by kernel_rfl) (VC_one _ _) ?_
        simp only [Act.put, nA, nB, nC]
        refine Seq.pure rfl rfl (by intro w; go_simp; try rfl) ?_
        simp only [Act.put, nA, nB, nC]
        refine Seq.done fun ws22 hws => ?_
        have HS22 := hws.list1 (p := bk4) (by repeat (first | exact rS | refine rN (by assumption) ?_))
        clear HS21 hws HPbk4
        go_wp2_with fail
        exact ret_own2 rfl rfl rfl rfl HS22 (by repeat (first | exact mC | apply mT)) (n := 6) rfl (by kernel_rfl) ⟨congrArg Ending.returned HR.out, HS22.below⟩
      · rw [e1, e2] at hw6
        replace hw6 : tOk a tl th = true := hw6
        have HR := Lib.hid (show Value.tuple #[.agg (VC (tuQ a tl) (tuQ a th)), .bool true] = Value.tuple #[.agg (SW (toR0 a tl th) (toR1 a tl th)), .bool (tOk a tl th)] from by rw [show toR0 a tl th = rt (tuQ a tl) from if_neg z0, show toR1 a tl th = rt (tuQ a th) from by unfold toR1; rw [if_neg z0, if_neg z1], hw6]; rfl)
        clear hw6 z0 z1
        go_upto_region 13 with (fail)
        have HPbk4 := HS21.f7
        refine wp_seq_text [] (StR.move (StR.no HPbk4)) ?_
        refine Seq.load rfl rfl rfl rfl (by repeat (first | exact mC | apply mT)) (n := 6) rfl (by kernel_rfl) ?_
        simp only [Act.put, nA, nB, nC]
        iterate 6 (refine Seq.pure rfl rfl (by intro w; go_simp; try rfl) ?_; simp only [Act.put, nA, nB, nC])
        refine Seq.store rfl rfl rfl rfl rfl (by repeat (first | exact rS | refine rN (by assumption) ?_)) (n := 6) rfl rfl (by kernel_rfl) (VC_one _ _) ?_
        simp only [Act.put, nA, nB, nC]
        refine Seq.pure rfl rfl (by intro w; go_simp; try rfl) ?_
        simp only [Act.put, nA, nB, nC]
        refine Seq.done fun ws22 hws => ?_
        have HS22 := hws.list1 (p := bk4) (by repeat (first | exact rS | refine rN (by assumption) ?_))
        clear HS21 hws HPbk4
        go_wp2_with fail
        exact ret_own2 rfl rfl rfl rfl HS22 (by repeat (first | exact mC | apply mT)) (n := 6) rfl (by kernel_rfl) ⟨congrArg Ending.returned HR.out, HS22.below⟩
      · rw [e1, e2] at hw6
        replace hw6 : tOk a tl th = false := hw6
        have HR := Lib.hid (show Value.tuple #[.agg (VC (tuQ a tl) (tuQ a th)), .bool false] = Value.tuple #[.agg (SW (toR0 a tl th) (toR1 a tl th)), .bool (tOk a tl th)] from by rw [show toR0 a tl th = rt (tuQ a tl) from if_neg z0, show toR1 a tl th = rt (tuQ a th) from by unfold toR1; rw [if_neg z0, if_neg z1], hw6]; rfl)
        clear hw6 z0 z1
        go_upto_region 13 with (fail)
        have HPbk4 := HS21.f7
        refine wp_seq_text [] (StR.move (StR.no HPbk4)) ?_
        refine Seq.load rfl rfl rfl rfl (by repeat (first | exact mC | apply mT)) (n := 6) rfl (by kernel_rfl) ?_
        simp only [Act.put, nA, nB, nC]
        iterate 6 (refine Seq.pure rfl rfl (by intro w; go_simp; try rfl) ?_; simp only [Act.put, nA, nB, nC])
        refine Seq.store rfl rfl rfl rfl rfl (by repeat (first | exact rS | refine rN (by assumption) ?_)) (n := 6) rfl rfl (by kernel_rfl) (VC_one _ _) ?_
        simp only [Act.put, nA, nB, nC]
        refine Seq.pure rfl rfl (by intro w; go_simp; try rfl) ?_
        simp only [Act.put, nA, nB, nC]
        refine Seq.done fun ws22 hws => ?_
        have HS22 := hws.list1 (p := bk4) (by repeat (first | exact rS | refine rN (by assumption) ?_))
        clear HS21 hws HPbk4
        go_wp2_with fail
        exact ret_own2 rfl rfl rfl rfl HS22 (by repeat (first | exact mC | apply mT)) (n := 6) rfl (by kernel_rfl) ⟨congrArg Ending.returned HR.out, HS22.below⟩
set_option maxHeartbeats 2000000 in
set_option maxRecDepth 20000 in
theorem plus_w {k : Nat} {al : Rat} {ah : Rat} {b1 : Rat} {b1_g : Bool} {b1_t : RT} {b2 : Rat} {b2_g : Bool} {b2_t : RT} {z0 : Rat} {z1 : Rat} {W : World} {l : List Own} (hT : Tab W) (Zal : Rz k al) (Zah : Rz k ah) (Zb1 : RawT k b1 b1_g b1_t) (Zb2 : RawT k b2 b2_g b2_t) (hz0 : al + b1 = z0) (hz1 : ah + b2 = z1) (hk0 : 2 ≤ k) (hk : k ≤ 1000000000000) (w : World) (h : St W l w) :
    Calls Tryd.prog 45 #[.agg (VC al ah), .agg (SW b1_t b2_t)] w fun e w' => e = .returned (.agg (VC z0 z1)) ∧ Below w.heap.size w w' := by
  subst hz0
  subst hz1
  have HT := Lib.hid (tabS hT h); clear hT h
  have Z_al := Lib.hid Zal; clear Zal
  have Z_ah := Lib.hid Zah; clear Zah
  have Z_b1 := Lib.hid Zb1; clear Zb1
  have Z_b2 := Lib.hid Zb2; clear Zb2
  go_enter Tryd.func45, Tryd.ntmps45
  have HS : St w [] w := St.start
  go_upto_region 0 with (fail)
  refine wp_seq_text [] (StR.no HS) ?_
  refine Seq.box rfl rfl rfl (v := .agg (VC al ah)) (cs := VC al ah) rfl rfl ?_
  intro bk2 _ _ hbk2_r
  simp only [Act.put, nA, nB, nC]
  refine Seq.box rfl rfl rfl (v := .agg (SW b1_t b2_t)) (cs := SW b1_t b2_t) rfl rfl ?_
  intro bk3 _ _ hbk3_r
  obtain ⟨ne_bk3_bk2, hbk3_r⟩ := Reg.ne_of_put hbk3_r
  have ne_bk2_bk3 := Ne.symm ne_bk3_bk2
  simp only [Act.put, nA, nB, nC]
  refine Seq.alloc rfl rfl rfl (z := .agg (SW rz0 rz0)) (by kernel_rfl) rfl ?_
  intro bk4 _ _ hbk4_r
  obtain ⟨ne_bk4_bk3, hbk4_r⟩ := Reg.ne_of_put hbk4_r
  have ne_bk3_bk4 := Ne.symm ne_bk4_bk3
  obtain ⟨ne_bk4_bk2, hbk4_r⟩ := Reg.ne_of_put hbk4_r
  have ne_bk2_bk4 := Ne.symm ne_bk4_bk2
  simp only [Act.put, nA, nB, nC]
  refine Seq.done fun ws1 hws => ?_
  have HS1 := hws.list3 (p := bk2) (q := bk3) (r := bk4) (by repeat (first | exact rS | refine rN (by assumption) ?_)) (by repeat (first | exact rS | refine rN (by assumption) ?_)) (by repeat (first | exact rS | refine rN (by assumption) ?_)) (by assumption) (by assumption) (by assumption)
  clear HS hws
  go_upto_region 1 with (fail)
  have HPbk4 := HS1.f2
  refine wp_seq [] (by kernel_rfl) (by kernel_rfl) (Reg.fin.put Reg.fin_no _ _) (StR.move (StR.no HPbk4)) ?_
  refine Seq.pure rfl rfl (by intro w; go_simp; try rfl) ?_
  simp only [Act.put, nA, nB, nC]
  refine Seq.loadAt rfl rfl rfl rfl (by repeat (first | exact mC | apply mT)) (n := 3) (cs' := RC al) (Nat.le_of_ble_eq_true rfl) (by kernel_rfl) rfl ?_
  simp only [Act.put, nA, nB, nC]
  refine Seq.pure rfl rfl (by intro w; go_simp; try rfl) ?_
  simp only [Act.put, nA, nB, nC]
  refine Seq.loadAt rfl rfl rfl rfl (by repeat (first | exact mC | apply mT)) (n := 3) (cs' := RT.c b1_t) (Nat.le_of_ble_eq_true rfl) (by kernel_rfl) rfl ?_
  simp only [Act.put, nA, nB, nC]
  refine Seq.call rfl rfl rfl rfl (by kernel_rfl) (add_qw (k := (1 * k + 2)) HT.out (Z_al.out.more (by omega)) (Z_b1.out.more (by omega)) rfl (by omega)) ?_
  simp only [Act.put, nA, nB, nC]
  refine Seq.pure rfl rfl (by intro w; go_simp; try rfl) ?_
  simp only [Act.put, nA, nB, nC]
  refine Seq.loadAt rfl rfl rfl rfl (by repeat (first | exact mC | apply mT)) (n := 3) (cs' := RC ah) (Nat.le_of_ble_eq_true rfl) (by kernel_rfl) rfl ?_
  simp only [Act.put, nA, nB, nC]
  refine Seq.pure rfl rfl (by intro w; go_simp; try rfl) ?_
  simp only [Act.put, nA, nB, nC]
  refine Seq.loadAt rfl rfl rfl rfl (by repeat (first | exact mC | apply mT)) (n := 3) (cs' := RT.c b2_t) (Nat.le_of_ble_eq_true rfl) (by kernel_rfl) rfl ?_
  simp only [Act.put, nA, nB, nC]
  refine Seq.call rfl rfl rfl rfl (by kernel_rfl) (add_qw (k := (1 * k + 2)) HT.out (Z_ah.out.more (by omega)) (Z_b2.out.more (by omega)) rfl (by omega)) ?_
  simp only [Act.put, nA, nB, nC]
  refine Seq.pure (v := .agg (VC (al + b1) (ah + b2))) rfl rfl (fun w => bld_RSpan (x := (rt (al + b1))) (y := (rt (ah + b2))) rfl rfl rfl w) ?_
  simp only [Act.put, nA, nB, nC]
  refine Seq.store rfl rfl rfl rfl rfl (by repeat (first | exact rS | refine rN (by assumption) ?_)) (n := 6) rfl rfl (by kernel_rfl) (VC_one _ _) ?_
  simp only [Act.put, nA, nB, nC]
  refine Seq.done fun ws2 hws => ?_
  have HS2 := hws.list1 (p := bk4) (by repeat (first | exact rS | refine rN (by assumption) ?_))
  clear HS1 hws HPbk4
  go_wp2_with fail
  exact ret_own rfl rfl rfl HS2 (by repeat (first | exact mC | apply mT)) (n := 6) rfl (by kernel_rfl) ⟨rfl, HS2.below⟩
set_option maxHeartbeats 2000000 in
set_option maxRecDepth 20000 in
theorem rotated_q {k : Nat} {xl : Rat} {xh : Rat} {yl : Rat} {yh : Rat} {c : Rat} {s : Rat} {z0 : Rat} {z1 : Rat} {z2 : Rat} {z3 : Rat} {W : World} {l : List Own} (hT : Tab W) (Zxl : Rz k xl) (Zxh : Rz k xh) (Zyl : Rz k yl) (Zyh : Rz k yh) (Zc : Rz k c) (Zs : Rz k s) (hz0 : rX0 c s xl xh yl yh = z0) (hz1 : rX1 c s xl xh yl yh = z1) (hz2 : rY0 c s xl xh yl yh = z2) (hz3 : rY1 c s xl xh yl yh = z3) (hk0 : 2 ≤ k) (hk : k ≤ 499999999999) (w : World) (h : St W l w) :
    Calls Tryd.prog 46 #[.agg (VC xl xh), .agg (VC yl yh), .agg (RC c), .agg (RC s)] w fun e w' => e = .returned (.tuple #[.agg (VC z0 z1), .agg (VC z2 z3)]) ∧ Below w.heap.size w w' := by
  subst hz0
  subst hz1
  subst hz2
  subst hz3
  have HT := Lib.hid (tabS hT h); clear hT h
  have Z_xl := Lib.hid Zxl; clear Zxl
  have Z_xh := Lib.hid Zxh; clear Zxh
  have Z_yl := Lib.hid Zyl; clear Zyl
  have Z_yh := Lib.hid Zyh; clear Zyh
  have Z_c := Lib.hid Zc; clear Zc
  have Z_s := Lib.hid Zs; clear Zs
  have HR := Lib.hid (show Ending.returned (.tuple #[.agg (VC ((minQ (xl * c) (xh * c)) + (minQ (yl * (-s)) (yh * (-s)))) ((maxQ (xl * c) (xh * c)) + (maxQ (yl * (-s)) (yh * (-s))))), .agg (VC ((minQ (xl * s) (xh * s)) + (minQ (yl * c) (yh * c))) ((maxQ (xl * s) (xh * s)) + (maxQ (yl * c) (yh * c))))]) = .returned (.tuple #[.agg (VC (rX0 c s xl xh yl yh) (rX1 c s xl xh yl yh)), .agg (VC (rY0 c s xl xh yl yh) (rY1 c s xl xh yl yh))]) from by
    unfold rX0 rX1 rY0 rY1
    rw [mul_neg_min, mul_neg_max, ← Rat.sub_eq_add_neg, ← Rat.sub_eq_add_neg, Rat.mul_comm xl c, Rat.mul_comm xh c, Rat.mul_comm yl s, Rat.mul_comm yh s, Rat.mul_comm xl s, Rat.mul_comm xh s, Rat.mul_comm yl c, Rat.mul_comm yh c])
  go_enter Tryd.func46, Tryd.ntmps46
  have HS : St w [] w := St.start
  go_upto_region 0 with (fail)
  refine wp_seq_text [] (StR.no HS) ?_
  refine Seq.box rfl rfl rfl (v := .agg (VC xl xh)) (cs := VC xl xh) rfl rfl ?_
  intro bk4 _ _ hbk4_r
  simp only [Act.put, nA, nB, nC]
  refine Seq.box rfl rfl rfl (v := .agg (VC yl yh)) (cs := VC yl yh) rfl rfl ?_
  intro bk5 _ _ hbk5_r
  obtain ⟨ne_bk5_bk4, hbk5_r⟩ := Reg.ne_of_put hbk5_r
  have ne_bk4_bk5 := Ne.symm ne_bk5_bk4
  simp only [Act.put, nA, nB, nC]
  refine Seq.box rfl rfl rfl (v := .agg (RC c)) (cs := RC c) rfl rfl ?_
  intro bk6 _ _ hbk6_r
  obtain ⟨ne_bk6_bk5, hbk6_r⟩ := Reg.ne_of_put hbk6_r
  have ne_bk5_bk6 := Ne.symm ne_bk6_bk5
  obtain ⟨ne_bk6_bk4, hbk6_r⟩ := Reg.ne_of_put hbk6_r
  have ne_bk4_bk6 := Ne.symm ne_bk6_bk4
  simp only [Act.put, nA, nB, nC]
  refine Seq.box rfl rfl rfl (v := .agg (RC s)) (cs := RC s) rfl rfl ?_
  intro bk7 _ _ hbk7_r
  obtain ⟨ne_bk7_bk6, hbk7_r⟩ := Reg.ne_of_put hbk7_r
  have ne_bk6_bk7 := Ne.symm ne_bk7_bk6
  obtain ⟨ne_bk7_bk5, hbk7_r⟩ := Reg.ne_of_put hbk7_r
  have ne_bk5_bk7 := Ne.symm ne_bk7_bk5
  obtain ⟨ne_bk7_bk4, hbk7_r⟩ := Reg.ne_of_put hbk7_r
  have ne_bk4_bk7 := Ne.symm ne_bk7_bk4
  simp only [Act.put, nA, nB, nC]
  refine Seq.alloc rfl rfl rfl (z := .agg (SW rz0 rz0)) (by kernel_rfl) rfl ?_
  intro bk8 _ _ hbk8_r
  obtain ⟨ne_bk8_bk7, hbk8_r⟩ := Reg.ne_of_put hbk8_r
  have ne_bk7_bk8 := Ne.symm ne_bk8_bk7
  obtain ⟨ne_bk8_bk6, hbk8_r⟩ := Reg.ne_of_put hbk8_r
  have ne_bk6_bk8 := Ne.symm ne_bk8_bk6
  obtain ⟨ne_bk8_bk5, hbk8_r⟩ := Reg.ne_of_put hbk8_r
  have ne_bk5_bk8 := Ne.symm ne_bk8_bk5
  obtain ⟨ne_bk8_bk4, hbk8_r⟩ := Reg.ne_of_put hbk8_r
  have ne_bk4_bk8 := Ne.symm ne_bk8_bk4
  simp only [Act.put, nA, nB, nC]
  refine Seq.alloc rfl rfl rfl (z := .agg (SW rz0 rz0)) (by kernel_rfl) rfl ?_
  intro bk9 _ _ hbk9_r
  obtain ⟨ne_bk9_bk8, hbk9_r⟩ := Reg.ne_of_put hbk9_r
  have ne_bk8_bk9 := Ne.symm ne_bk9_bk8
  obtain ⟨ne_bk9_bk7, hbk9_r⟩ := Reg.ne_of_put hbk9_r
  have ne_bk7_bk9 := Ne.symm ne_bk9_bk7
  obtain ⟨ne_bk9_bk6, hbk9_r⟩ := Reg.ne_of_put hbk9_r
  have ne_bk6_bk9 := Ne.symm ne_bk9_bk6
  obtain ⟨ne_bk9_bk5, hbk9_r⟩ := Reg.ne_of_put hbk9_r
  have ne_bk5_bk9 := Ne.symm ne_bk9_bk5
  obtain ⟨ne_bk9_bk4, hbk9_r⟩ := Reg.ne_of_put hbk9_r
  have ne_bk4_bk9 := Ne.symm ne_bk9_bk4
  simp only [Act.put, nA, nB, nC]
  refine Seq.done fun ws1 hws => ?_
  have HS1 : St w [(bk4, 37, VC xl xh), (bk5, 37, VC yl yh), (bk6, 23, RC c), (bk7, 23, RC s), (bk8, 37, SW rz0 rz0), (bk9, 37, SW rz0 rz0)] ws1 := hws.listN [(bk4, 37, VC xl xh), (bk5, 37, VC yl yh), (bk6, 23, RC c), (bk7, 23, RC s), (bk8, 37, SW rz0 rz0), (bk9, 37, SW rz0 rz0)] (by simp [*]) (by intro e he; simp only [List.mem_cons, List.not_mem_nil, or_false] at he; rcases he with rfl | rfl | rfl | rfl | rfl | rfl <;> first | exact Reg.put_same _ _ _ | (simp [Reg.put, *]; done) | (simp [Reg.put, *]; rfl))
  clear HS hws
  go_upto_region 1 with (fail)
  have HPbk9 := HS1.f5
  have HPbk8 := HPbk9.f5
  refine wp_seq [] (by kernel_rfl) (by kernel_rfl) (Reg.fin.put (Reg.fin.put Reg.fin_no _ _) _ _) (StR.move (StR.move (StR.no HPbk8))) ?_
  refine Seq.load rfl rfl rfl rfl (by repeat (first | exact mC | apply mT)) (n := 6) rfl (by kernel_rfl) ?_
  simp only [Act.put, nA, nB, nC]
  refine Seq.load rfl rfl rfl rfl (by repeat (first | exact mC | apply mT)) (n := 3) rfl (by kernel_rfl) ?_
  simp only [Act.put, nA, nB, nC]
  refine Seq.call rfl rfl rfl rfl (by kernel_rfl) (product_w (k := (1 * k + 2)) (t_t := (rt c)) HT.out (Z_xl.out.more (by omega)) (Z_xh.out.more (by omega)) (RawT.rc (Z_c.out.more (by omega)))  rfl rfl (by omega) (by omega)) ?_
  simp only [Act.put, nA, nB, nC]
  refine Seq.load rfl rfl rfl rfl (by repeat (first | exact mC | apply mT)) (n := 6) rfl (by kernel_rfl) ?_
  simp only [Act.put, nA, nB, nC]
  refine Seq.load rfl rfl rfl rfl (by repeat (first | exact mC | apply mT)) (n := 3) rfl (by kernel_rfl) ?_
  simp only [Act.put, nA, nB, nC]
  refine Seq.call rfl rfl rfl rfl (by kernel_rfl) (neg_q (k := (1 * k + 0)) HT.out (Z_s.out.more (by omega)) rfl (by omega)) ?_
  simp only [Act.put, nA, nB, nC]
  refine Seq.call rfl rfl rfl rfl (by kernel_rfl) (product_w (k := (1 * k + 2)) (t_t := (rt (-s))) HT.out (Z_yl.out.more (by omega)) (Z_yh.out.more (by omega)) (RawT.rc (Z_s.out.neg.more (by omega)))  rfl rfl (by omega) (by omega)) ?_
  simp only [Act.put, nA, nB, nC]
  refine Seq.call rfl rfl rfl rfl (by kernel_rfl) (plus_q (k := (2 * k + 2)) HT.out ((Rz.min (k := (2 * k + 0)) ((Z_xl.out.mul Z_c.out).more (by omega)) ((Z_xh.out.mul Z_c.out).more (by omega))).more (by omega)) ((Rz.max (k := (2 * k + 0)) ((Z_xl.out.mul Z_c.out).more (by omega)) ((Z_xh.out.mul Z_c.out).more (by omega))).more (by omega)) ((Rz.min (k := (2 * k + 0)) ((Z_yl.out.mul Z_s.out.neg).more (by omega)) ((Z_yh.out.mul Z_s.out.neg).more (by omega))).more (by omega)) ((Rz.max (k := (2 * k + 0)) ((Z_yl.out.mul Z_s.out.neg).more (by omega)) ((Z_yh.out.mul Z_s.out.neg).more (by omega))).more (by omega))  rfl rfl (by omega) (by omega)) ?_
  simp only [Act.put, nA, nB, nC]
  refine Seq.load rfl rfl rfl rfl (by repeat (first | exact mC | apply mT)) (n := 6) rfl (by kernel_rfl) ?_
  simp only [Act.put, nA, nB, nC]
  refine Seq.load rfl rfl rfl rfl (by repeat (first | exact mC | apply mT)) (n := 3) rfl (by kernel_rfl) ?_
  simp only [Act.put, nA, nB, nC]
  refine Seq.call rfl rfl rfl rfl (by kernel_rfl) (product_w (k := (1 * k + 2)) (t_t := (rt s)) HT.out (Z_xl.out.more (by omega)) (Z_xh.out.more (by omega)) (RawT.rc (Z_s.out.more (by omega)))  rfl rfl (by omega) (by omega)) ?_
  simp only [Act.put, nA, nB, nC]
  refine Seq.load rfl rfl rfl rfl (by repeat (first | exact mC | apply mT)) (n := 6) rfl (by kernel_rfl) ?_
  simp only [Act.put, nA, nB, nC]
  refine Seq.load rfl rfl rfl rfl (by repeat (first | exact mC | apply mT)) (n := 3) rfl (by kernel_rfl) ?_
  simp only [Act.put, nA, nB, nC]
  refine Seq.call rfl rfl rfl rfl (by kernel_rfl) (product_w (k := (1 * k + 2)) (t_t := (rt c)) HT.out (Z_yl.out.more (by omega)) (Z_yh.out.more (by omega)) (RawT.rc (Z_c.out.more (by omega)))  rfl rfl (by omega) (by omega)) ?_
  simp only [Act.put, nA, nB, nC]
  refine Seq.call rfl rfl rfl rfl (by kernel_rfl) (plus_q (k := (2 * k + 2)) HT.out ((Rz.min (k := (2 * k + 0)) ((Z_xl.out.mul Z_s.out).more (by omega)) ((Z_xh.out.mul Z_s.out).more (by omega))).more (by omega)) ((Rz.max (k := (2 * k + 0)) ((Z_xl.out.mul Z_s.out).more (by omega)) ((Z_xh.out.mul Z_s.out).more (by omega))).more (by omega)) ((Rz.min (k := (2 * k + 0)) ((Z_yl.out.mul Z_c.out).more (by omega)) ((Z_yh.out.mul Z_c.out).more (by omega))).more (by omega)) ((Rz.max (k := (2 * k + 0)) ((Z_yl.out.mul Z_c.out).more (by omega)) ((Z_yh.out.mul Z_c.out).more (by omega))).more (by omega))  rfl rfl (by omega) (by omega)) ?_
  simp only [Act.put, nA, nB, nC]
  refine Seq.store rfl rfl rfl rfl rfl (by repeat (first | exact rS | refine rN (by assumption) ?_)) (n := 6) rfl rfl (by kernel_rfl) (VC_one _ _) ?_
  simp only [Act.put, nA, nB, nC]
  refine Seq.store rfl rfl rfl rfl rfl (by repeat (first | exact rS | refine rN (by assumption) ?_)) (n := 6) rfl rfl (by kernel_rfl) (VC_one _ _) ?_
  simp only [Act.put, nA, nB, nC]
  refine Seq.done fun ws2 hws => ?_
  have HS2 := hws.list2 (p := bk8) (q := bk9) (by repeat (first | exact rS | refine rN (by assumption) ?_)) (by repeat (first | exact rS | refine rN (by assumption) ?_)) (by assumption)
  clear HS1 hws HPbk9 HPbk8
  go_wp2_with fail
  exact ret_cells rfl rfl rfl rfl HS2 (by repeat (first | exact mC | apply mT)) (by repeat (first | exact mC | apply mT)) (n := 6) (n2 := 6) rfl rfl (by kernel_rfl) (by kernel_rfl) ⟨HR.out, HS2.below⟩
end Go.Proofs.YtoejojfjiikogaaDoor
