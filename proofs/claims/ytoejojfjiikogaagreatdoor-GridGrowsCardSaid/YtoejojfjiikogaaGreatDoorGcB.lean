/- sweep.Grown, sweep.Both; grid.Of of too many cells; boxes of polygons (gride.py). -/
import Derived.Test.YtoejojfjiikogaaGreatDoorGcA
import Derived.Test.YtoejojfjiikogaaGreatDoorPo6
import Derived.Test.YtoejojfjiikogaaGreatDoorGrF

namespace Go.Proofs.YtoejojfjiikogaaGreatDoor
open Go.RowKit
set_option linter.unusedVariables false
set_option linter.unusedSimpArgs false

theorem mn_all {f : Nat → Rat} {a : Rat} : ∀ i, (∀ j, j ≤ i → a ≤ f j) → a ≤ mnF f i
  | 0, h => h 0 (Nat.le_refl _)
  | i + 1, h => le_min (mn_all i (fun j hj => h j (by omega))) (h (i + 1) (Nat.le_refl _))
theorem mx_all {f : Nat → Rat} {a : Rat} : ∀ i, (∀ j, j ≤ i → f j ≤ a) → mxF f i ≤ a
  | 0, h => h 0 (Nat.le_refl _)
  | i + 1, h => max_le (mx_all i (fun j hj => h j (by omega))) (h (i + 1) (Nat.le_refl _))
def shapesIn : Bool := (List.range 6).all fun w => (List.range 6).all fun h => (List.range (2 * (1 + w) + 1)).all fun x => (List.range 4).all fun c => (shape (1 + w) (1 + h) c x).all fun p => decide (((-2 : Int) : Rat) ≤ p.1 ∧ p.1 ≤ ((2 : Int) : Rat) ∧ ((-2 : Int) : Rat) ≤ p.2 ∧ p.2 ≤ ((2 : Int) : Rat))
set_option maxRecDepth 100000 in
theorem shapes_in : shapesIn = true := by decide +kernel
theorem polyQ_in (xs : List Int) : ∀ p ∈ polyQ xs, ((-2 : Int) : Rat) ≤ p.1 ∧ p.1 ≤ ((2 : Int) : Rat) ∧ ((-2 : Int) : Rat) ≤ p.2 ∧ p.2 ≤ ((2 : Int) : Rat) := by
  intro p hp
  unfold polyQ at hp
  have h1 := nxV_lt xs (m := 6) (by omega)
  have h2 := nxV_lt xs.tail (m := 6) (by omega)
  have h3 := nxV_lt xs.tail.tail (m := 4) (by omega)
  have h4 := nxV_lt xs.tail.tail.tail (m := 2 * (1 + nxV xs 6) + 1) (by omega)
  generalize nxV xs 6 = a at *
  generalize nxV xs.tail 6 = b at *
  generalize nxV xs.tail.tail 4 = c at *
  generalize nxV xs.tail.tail.tail (2 * (1 + a) + 1) = x at *
  have h := shapes_in
  unfold shapesIn at h
  simp only [List.all_eq_true, List.mem_range, decide_eq_true_eq] at h
  exact h a h1 b h2 x (by omega) c h3 p hp
set_option maxHeartbeats 2000000 in
set_option maxRecDepth 20000 in
theorem grown_q {k : Nat} {a0 a1 a2 a3 d z0 z1 z2 z3 : Rat} {W : World} {l : List Own} (hT : Tab W) (Za0 : Rz k a0) (Za1 : Rz k a1) (Za2 : Rz k a2) (Za3 : Rz k a3) (Zd : Rz k d) (hz0 : a0 - d = z0) (hz1 : a1 - d = z1) (hz2 : a2 + d = z2) (hz3 : a3 + d = z3) (hk : k ≤ 1000000) (w : World) (h : St W l w) :
    Calls Tryz.prog 24 #[.agg (BC a0 a1 a2 a3), .agg (RC d)] w fun e w' => e = .returned (.agg (BC z0 z1 z2 z3)) ∧ Below w.heap.size w w' := by
  subst hz0 hz1 hz2 hz3
  have HT := Lib.hid (tabS hT h); clear hT h
  have Z_a0 := Lib.hid Za0; clear Za0
  have Z_a1 := Lib.hid Za1; clear Za1
  have Z_a2 := Lib.hid Za2; clear Za2
  have Z_a3 := Lib.hid Za3; clear Za3
  have Z_d := Lib.hid Zd; clear Zd
  go_enter Tryz.func24, Tryz.ntmps24
  have HS : St w [] w := St.start
  go_upto_region 0 with (fail)
  refine wp_seq_text [] (StR.no HS) ?_
  refine Seq.box rfl rfl rfl (v := .agg (BC a0 a1 a2 a3)) (cs := BC a0 a1 a2 a3) rfl rfl ?_
  intro bk2 _ _ hbk2_r
  simp only [Act.put, nA, nB, nC]
  refine Seq.box rfl rfl rfl (v := .agg (RC d)) (cs := RC d) rfl rfl ?_
  intro bk3 _ _ hbk3_r
  obtain ⟨ne_bk3_bk2, hbk3_r⟩ := Reg.ne_of_put hbk3_r
  have ne_bk2_bk3 := Ne.symm ne_bk3_bk2
  simp only [Act.put, nA, nB, nC]
  refine Seq.alloc rfl rfl rfl (z := .agg (#[.bool false, .string ⟨#[]⟩, .string ⟨#[]⟩, .bool false, .string ⟨#[]⟩, .string ⟨#[]⟩, .bool false, .string ⟨#[]⟩, .string ⟨#[]⟩, .bool false, .string ⟨#[]⟩, .string ⟨#[]⟩])) (by kernel_rfl) rfl ?_
  intro bk4 _ _ hbk4_r
  obtain ⟨ne_bk4_bk3, hbk4_r⟩ := Reg.ne_of_put hbk4_r
  have ne_bk3_bk4 := Ne.symm ne_bk4_bk3
  obtain ⟨ne_bk4_bk2, hbk4_r⟩ := Reg.ne_of_put hbk4_r
  have ne_bk2_bk4 := Ne.symm ne_bk4_bk2
  simp only [Act.put, nA, nB, nC]
  refine Seq.done fun ws1 hws => ?_
  have HS1 := hws.list3 (p := bk2) (q := bk3) (r := bk4) (by repeat (first | exact rS | refine rN (by assumption) ?_)) (by repeat (first | exact rS | refine rN (by assumption) ?_)) (by repeat (first | exact rS | refine rN (by assumption) ?_)) (by assumption) (by assumption) (by assumption)
  clear HS hws
  go_upto_region 1 with (fail)
  refine wp_seq_text [] (StR.no HS1) ?_
  refine Seq.load rfl rfl rfl rfl (by repeat (first | exact mC | apply mT)) (n := 3) rfl (by kernel_rfl) ?_
  simp only [Act.put, nA, nB, nC]
  refine Seq.load rfl rfl rfl rfl (by repeat (first | exact mC | apply mT)) (n := 3) rfl (by kernel_rfl) ?_
  simp only [Act.put, nA, nB, nC]
  refine Seq.pure (v := .agg (VC d d)) rfl rfl (fun w => bld_Vec rfl rfl rfl w) ?_
  simp only [Act.put, nA, nB, nC]
  refine Seq.alloc rfl rfl rfl (z := .agg (SW rz0 rz0)) (by kernel_rfl) rfl ?_
  intro bk5 _ _ hbk5_r
  simp only [Act.put, nA, nB, nC]
  refine Seq.store rfl rfl rfl rfl rfl (by repeat (first | exact rS | refine rN (by assumption) ?_)) (n := 6) rfl rfl (by kernel_rfl) (VC_one _ _) ?_
  simp only [Act.put, nA, nB, nC]
  refine Seq.done fun ws2 hws => ?_
  have HS2 := hws.list1 (p := bk5) (by repeat (first | exact rS | refine rN (by assumption) ?_))
  clear HS1 hws
  go_upto_region 2 with (fail)
  have HPbk4 := HS2.f3
  refine wp_seq [] (by kernel_rfl) (by kernel_rfl) (Reg.fin.put Reg.fin_no _ _) (StR.move (StR.no HPbk4)) ?_
  refine Seq.pure rfl rfl (by intro w; go_simp; try rfl) ?_
  simp only [Act.put, nA, nB, nC]
  refine Seq.loadAt rfl rfl rfl rfl (by repeat (first | exact mC | apply mT)) (n := 6) (cs' := VC a0 a1) (Nat.le_of_ble_eq_true rfl) (by kernel_rfl) rfl ?_
  simp only [Act.put, nA, nB, nC]
  refine Seq.load rfl rfl rfl rfl (by repeat (first | exact mC | apply mT)) (n := 6) rfl (by kernel_rfl) ?_
  simp only [Act.put, nA, nB, nC]
  refine Seq.call rfl rfl rfl rfl (by kernel_rfl) (vsub_q (k := (1 * k + 0)) HT.out (Z_a0.out.more (by omega)) (Z_a1.out.more (by omega)) (Z_d.out.more (by omega)) (Z_d.out.more (by omega))  rfl rfl (by omega)) ?_
  simp only [Act.put, nA, nB, nC]
  refine Seq.pure rfl rfl (by intro w; go_simp; try rfl) ?_
  simp only [Act.put, nA, nB, nC]
  refine Seq.loadAt rfl rfl rfl rfl (by repeat (first | exact mC | apply mT)) (n := 6) (cs' := VC a2 a3) (Nat.le_of_ble_eq_true rfl) (by kernel_rfl) rfl ?_
  simp only [Act.put, nA, nB, nC]
  refine Seq.load rfl rfl rfl rfl (by repeat (first | exact mC | apply mT)) (n := 6) rfl (by kernel_rfl) ?_
  simp only [Act.put, nA, nB, nC]
  refine Seq.call rfl rfl rfl rfl (by kernel_rfl) (vadd_q (k := (1 * k + 0)) HT.out (Z_a2.out.more (by omega)) (Z_a3.out.more (by omega)) (Z_d.out.more (by omega)) (Z_d.out.more (by omega))  rfl rfl (by omega)) ?_
  simp only [Act.put, nA, nB, nC]
  refine Seq.pure (v := .agg (BC (a0 - d) (a1 - d) (a2 + d) (a3 + d))) rfl rfl (fun w => bld_Box rfl rfl rfl w) ?_
  simp only [Act.put, nA, nB, nC]
  refine Seq.store rfl rfl rfl rfl rfl (by repeat (first | exact rS | refine rN (by assumption) ?_)) (n := 12) rfl rfl (by kernel_rfl) (BC_one _ _ _ _) ?_
  simp only [Act.put, nA, nB, nC]
  refine Seq.done fun ws3 hws => ?_
  have HS3 := hws.list1 (p := bk4) (by repeat (first | exact rS | refine rN (by assumption) ?_))
  clear HS2 hws HPbk4
  go_wp2_with fail
  exact ret_own rfl rfl rfl HS3 (by repeat (first | exact mC | apply mT)) (n := 12) rfl (by kernel_rfl) ⟨rfl, HS3.below⟩
set_option maxHeartbeats 2000000 in
set_option maxRecDepth 20000 in
theorem both_g {k : Nat} {a0 a1 a2 a3 b0 b1 b2 b3 z0 z1 z2 z3 : Rat} {W : World} {l : List Own} (hT : Tab W) (Za0 : Rz k a0) (Za1 : Rz k a1) (Za2 : Rz k a2) (Za3 : Rz k a3) (Zb0 : Rz k b0) (Zb1 : Rz k b1) (Zb2 : Rz k b2) (Zb3 : Rz k b3) (hz0 : minQ a0 b0 = z0) (hz1 : minQ a1 b1 = z1) (hz2 : maxQ a2 b2 = z2) (hz3 : maxQ a3 b3 = z3) (hk : k ≤ 1000000) (w : World) (h : St W l w) :
    Calls Tryz.prog 28 #[.agg (BC a0 a1 a2 a3), .agg (BC b0 b1 b2 b3)] w fun e w' => e = .returned (.agg (BC z0 z1 z2 z3)) ∧ Below w.heap.size w w' := by
  subst hz0 hz1 hz2 hz3
  have HT := Lib.hid (tabS hT h); clear hT h
  have Z_a0 := Lib.hid Za0; clear Za0
  have Z_a1 := Lib.hid Za1; clear Za1
  have Z_a2 := Lib.hid Za2; clear Za2
  have Z_a3 := Lib.hid Za3; clear Za3
  have Z_b0 := Lib.hid Zb0; clear Zb0
  have Z_b1 := Lib.hid Zb1; clear Zb1
  have Z_b2 := Lib.hid Zb2; clear Zb2
  have Z_b3 := Lib.hid Zb3; clear Zb3
  go_enter Tryz.func28, Tryz.ntmps28
  have HS : St w [] w := St.start
  go_upto_region 0 with (fail)
  refine wp_seq_text [] (StR.no HS) ?_
  refine Seq.box rfl rfl rfl (v := .agg (BC a0 a1 a2 a3)) (cs := BC a0 a1 a2 a3) rfl rfl ?_
  intro bk2 _ _ hbk2_r
  simp only [Act.put, nA, nB, nC]
  refine Seq.box rfl rfl rfl (v := .agg (BC b0 b1 b2 b3)) (cs := BC b0 b1 b2 b3) rfl rfl ?_
  intro bk3 _ _ hbk3_r
  obtain ⟨ne_bk3_bk2, hbk3_r⟩ := Reg.ne_of_put hbk3_r
  have ne_bk2_bk3 := Ne.symm ne_bk3_bk2
  simp only [Act.put, nA, nB, nC]
  refine Seq.alloc rfl rfl rfl (z := .agg (#[.bool false, .string ⟨#[]⟩, .string ⟨#[]⟩, .bool false, .string ⟨#[]⟩, .string ⟨#[]⟩, .bool false, .string ⟨#[]⟩, .string ⟨#[]⟩, .bool false, .string ⟨#[]⟩, .string ⟨#[]⟩])) (by kernel_rfl) rfl ?_
  intro bk4 _ _ hbk4_r
  obtain ⟨ne_bk4_bk3, hbk4_r⟩ := Reg.ne_of_put hbk4_r
  have ne_bk3_bk4 := Ne.symm ne_bk4_bk3
  obtain ⟨ne_bk4_bk2, hbk4_r⟩ := Reg.ne_of_put hbk4_r
  have ne_bk2_bk4 := Ne.symm ne_bk4_bk2
  simp only [Act.put, nA, nB, nC]
  refine Seq.done fun ws1 hws => ?_
  have HS1 := hws.list3 (p := bk2) (q := bk3) (r := bk4) (by repeat (first | exact rS | refine rN (by assumption) ?_)) (by repeat (first | exact rS | refine rN (by assumption) ?_)) (by repeat (first | exact rS | refine rN (by assumption) ?_)) (by assumption) (by assumption) (by assumption)
  clear HS hws
  go_upto_region 1 with (fail)
  have HPbk4 := HS1.f2
  refine wp_seq [] (by kernel_rfl) (by kernel_rfl) (Reg.fin.put Reg.fin_no _ _) (StR.move (StR.no HPbk4)) ?_
  iterate 2 (refine Seq.pure rfl rfl (by intro w; go_simp; try rfl) ?_; simp only [Act.put, nA, nB, nC])
  refine Seq.loadAt rfl rfl rfl rfl (by repeat (first | exact mC | apply mT)) (n := 3) (cs' := RC a0) (Nat.le_of_ble_eq_true rfl) (by kernel_rfl) rfl ?_
  simp only [Act.put, nA, nB, nC]
  iterate 2 (refine Seq.pure rfl rfl (by intro w; go_simp; try rfl) ?_; simp only [Act.put, nA, nB, nC])
  refine Seq.loadAt rfl rfl rfl rfl (by repeat (first | exact mC | apply mT)) (n := 3) (cs' := RC b0) (Nat.le_of_ble_eq_true rfl) (by kernel_rfl) rfl ?_
  simp only [Act.put, nA, nB, nC]
  refine Seq.call rfl rfl rfl rfl (by kernel_rfl) (min_q (k := (1 * k + 0)) HT.out (Z_a0.out.more (by omega)) (Z_b0.out.more (by omega)) rfl (by omega)) ?_
  simp only [Act.put, nA, nB, nC]
  iterate 2 (refine Seq.pure rfl rfl (by intro w; go_simp; try rfl) ?_; simp only [Act.put, nA, nB, nC])
  refine Seq.loadAt rfl rfl rfl rfl (by repeat (first | exact mC | apply mT)) (n := 3) (cs' := RC a1) (Nat.le_of_ble_eq_true rfl) (by kernel_rfl) rfl ?_
  simp only [Act.put, nA, nB, nC]
  iterate 2 (refine Seq.pure rfl rfl (by intro w; go_simp; try rfl) ?_; simp only [Act.put, nA, nB, nC])
  refine Seq.loadAt rfl rfl rfl rfl (by repeat (first | exact mC | apply mT)) (n := 3) (cs' := RC b1) (Nat.le_of_ble_eq_true rfl) (by kernel_rfl) rfl ?_
  simp only [Act.put, nA, nB, nC]
  refine Seq.call rfl rfl rfl rfl (by kernel_rfl) (min_q (k := (1 * k + 0)) HT.out (Z_a1.out.more (by omega)) (Z_b1.out.more (by omega)) rfl (by omega)) ?_
  simp only [Act.put, nA, nB, nC]
  refine Seq.pure (v := .agg (VC (minQ a0 b0) (minQ a1 b1))) rfl rfl (fun w => bld_Vec rfl rfl rfl w) ?_
  simp only [Act.put, nA, nB, nC]
  iterate 2 (refine Seq.pure rfl rfl (by intro w; go_simp; try rfl) ?_; simp only [Act.put, nA, nB, nC])
  refine Seq.loadAt rfl rfl rfl rfl (by repeat (first | exact mC | apply mT)) (n := 3) (cs' := RC a2) (Nat.le_of_ble_eq_true rfl) (by kernel_rfl) rfl ?_
  simp only [Act.put, nA, nB, nC]
  iterate 2 (refine Seq.pure rfl rfl (by intro w; go_simp; try rfl) ?_; simp only [Act.put, nA, nB, nC])
  refine Seq.loadAt rfl rfl rfl rfl (by repeat (first | exact mC | apply mT)) (n := 3) (cs' := RC b2) (Nat.le_of_ble_eq_true rfl) (by kernel_rfl) rfl ?_
  simp only [Act.put, nA, nB, nC]
  refine Seq.call rfl rfl rfl rfl (by kernel_rfl) (max_q (k := (1 * k + 0)) HT.out (Z_a2.out.more (by omega)) (Z_b2.out.more (by omega)) rfl (by omega)) ?_
  simp only [Act.put, nA, nB, nC]
  iterate 2 (refine Seq.pure rfl rfl (by intro w; go_simp; try rfl) ?_; simp only [Act.put, nA, nB, nC])
  refine Seq.loadAt rfl rfl rfl rfl (by repeat (first | exact mC | apply mT)) (n := 3) (cs' := RC a3) (Nat.le_of_ble_eq_true rfl) (by kernel_rfl) rfl ?_
  simp only [Act.put, nA, nB, nC]
  iterate 2 (refine Seq.pure rfl rfl (by intro w; go_simp; try rfl) ?_; simp only [Act.put, nA, nB, nC])
  refine Seq.loadAt rfl rfl rfl rfl (by repeat (first | exact mC | apply mT)) (n := 3) (cs' := RC b3) (Nat.le_of_ble_eq_true rfl) (by kernel_rfl) rfl ?_
  simp only [Act.put, nA, nB, nC]
  refine Seq.call rfl rfl rfl rfl (by kernel_rfl) (max_q (k := (1 * k + 0)) HT.out (Z_a3.out.more (by omega)) (Z_b3.out.more (by omega)) rfl (by omega)) ?_
  simp only [Act.put, nA, nB, nC]
  refine Seq.pure (v := .agg (VC (maxQ a2 b2) (maxQ a3 b3))) rfl rfl (fun w => bld_Vec rfl rfl rfl w) ?_
  simp only [Act.put, nA, nB, nC]
  refine Seq.pure (v := .agg (BC (minQ a0 b0) (minQ a1 b1) (maxQ a2 b2) (maxQ a3 b3))) rfl rfl (fun w => bld_Box rfl rfl rfl w) ?_
  simp only [Act.put, nA, nB, nC]
  refine Seq.store rfl rfl rfl rfl rfl (by repeat (first | exact rS | refine rN (by assumption) ?_)) (n := 12) rfl rfl (by kernel_rfl) (BC_one _ _ _ _) ?_
  simp only [Act.put, nA, nB, nC]
  refine Seq.done fun ws2 hws => ?_
  have HS2 := hws.list1 (p := bk4) (by repeat (first | exact rS | refine rN (by assumption) ?_))
  clear HS1 hws HPbk4
  go_wp2_with fail
  exact ret_own rfl rfl rfl HS2 (by repeat (first | exact mC | apply mT)) (n := 12) rfl (by kernel_rfl) ⟨rfl, HS2.below⟩
set_option maxHeartbeats 4000000 in
set_option maxRecDepth 20000 in
/-- a box of too many cells -/
theorem of_l {k : Nat} {x y z u : Rat} {x_g y_g z_g u_g : Bool} {x_t y_t z_t u_t : RT} {n0 n1 x0 x1 y0 y1 : Int} {nX nY : Nat} (w : World) (hT : Tab w) (Zx : RawT k x x_g x_t) (Zy : RawT k y y_g y_t) (Zz : RawT k z z_g z_t) (Zu : RawT k u u_g u_t) (hxz : x ≤ z) (hyu : y ≤ u)
    (hn0 : flQ (-x) = n0) (hl0 : flQ z = x1) (he0 : x0 = -n0 - 1) (h01 : -64 ≤ x0) (h02 : x0 < 64) (h03 : -64 ≤ x1) (h04 : x1 < 64) (hn1 : flQ (-y) = n1) (hl1 : flQ u = y1) (he1 : y0 = -n1 - 1) (h11 : -64 ≤ y0) (h12 : y0 < 64) (h13 : -64 ≤ y1) (h14 : y1 < 64)
    (hX : (nX : Int) = x1 - x0 + 1) (hY : (nY : Int) = y1 - y0 + 1) (hm : 400 < nX * nY) (hX0 : nX ≤ 200) (hY0 : nY ≤ 200) (hk0 : 2 ≤ k) (hk : k ≤ 1099511627776) :
    Calls Tryz.prog 9 #[.agg (QW x_t y_t z_t u_t)] w fun e w' => e = .returned (.tuple #[.slice none 0 0, .int .i64 2]) ∧ Below w.heap.size w w' := by
  have HT := Lib.hid hT; clear hT
  have Z_x := Lib.hid Zx; clear Zx
  have Z_y := Lib.hid Zy; clear Zy
  have Z_z := Lib.hid Zz; clear Zz
  have Z_u := Lib.hid Zu; clear Zu
  replace hn0 := Lib.hid hn0
  replace hn1 := Lib.hid hn1
  replace hl0 := Lib.hid hl0
  replace hl1 := Lib.hid hl1
  replace he0 := Lib.hid he0
  replace he1 := Lib.hid he1
  have hw1 : Hid (IntKind.i64.wrap (x1 - x0) = x1 - x0) := Lib.hid (IntWalk.i64_in _ (by omega))
  have hw2 : Hid (IntKind.i64.wrap (x1 - x0 + 1) = (nX : Int)) := Lib.hid (by rw [hX]; exact IntWalk.i64_in _ (by omega))
  have hw3 : Hid (IntKind.i64.wrap (y1 - y0) = y1 - y0) := Lib.hid (IntWalk.i64_in _ (by omega))
  have hw4 : Hid (IntKind.i64.wrap (y1 - y0 + 1) = (nY : Int)) := Lib.hid (by rw [hY]; exact IntWalk.i64_in _ (by omega))
  have hm' : 400 < (nX : Int) * (nY : Int) := by exact_mod_cast hm
  have hm8 : nX * nY ≤ 40000 := Nat.mul_le_mul hX0 hY0
  have hm7 : ((nX * nY : Nat) : Int) ≤ 40000 := by omega
  rw [Int.natCast_mul] at hm7
  have hm9 : (nX : Int) * (nY : Int) ≤ 40000 := hm7
  have hm0 : (0 : Int) ≤ (nX : Int) * (nY : Int) := by exact_mod_cast Nat.zero_le _
  have hw5 : Hid (IntKind.i64.wrap ((nX : Int) * (nY : Int)) = (nX : Int) * (nY : Int)) := Lib.hid (IntWalk.i64_in _ (by omega))
  have hw6 : Hid (400 < (nX : Int) * (nY : Int)) := Lib.hid hm'
  have hM := Lib.hid hm
  have hXX := Lib.hid hX
  have hYY := Lib.hid hY
  have hb1 : nX ≤ 200 := by omega
  have hb2 : nY ≤ 200 := by omega
  clear hX hY hm hm' hm0 hm9 hm8 hm7
  go_enter Tryz.func9, Tryz.ntmps9
  have HS : St w [] w := St.start
  go_upto_region 0 with (fail)
  refine wp_seq_text [] (StR.no HS) ?_
  refine Seq.box rfl rfl rfl (v := .agg (QW x_t y_t z_t u_t)) (cs := QW x_t y_t z_t u_t) rfl rfl ?_
  intro bk1 _ _ hbk1_r
  simp only [Act.put, nA, nB, nC]
  iterate 2 (refine Seq.pure rfl rfl (by intro w; go_simp; try rfl) ?_; simp only [Act.put, nA, nB, nC])
  refine Seq.done fun ws1 hws => ?_
  have HS1 := hws.list1 (p := bk1) (by repeat (first | exact rS | refine rN (by assumption) ?_))
  clear HS hws
  obtain ⟨v1, hv1, r1, r1'⟩ : ∃ v, cmpQ x z = v ∧ decide (v > 0) = false ∧ decide (0 < v) = false := ⟨_, rfl, decide_eq_false (fun h => absurd ((cmpQ_gt _ _).1 h) (by grind)), decide_eq_false (fun h => absurd ((cmpQ_gt _ _).1 h) (by grind))⟩
  have C1 := Lib.hid hv1; clear hv1
  obtain ⟨v2, hv2, r2, r2'⟩ : ∃ v, cmpQ y u = v ∧ decide (v > 0) = false ∧ decide (0 < v) = false := ⟨_, rfl, decide_eq_false (fun h => absurd ((cmpQ_gt _ _).1 h) (by grind)), decide_eq_false (fun h => absurd ((cmpQ_gt _ _).1 h) (by grind))⟩
  have C2 := Lib.hid hv2; clear hv2
  clear hxz hyu
  go_upto_region 1 with (fail)
  refine wp_seq_text [] (StR.no HS1) ?_
  iterate 2 (refine Seq.pure rfl rfl (by intro w; go_simp; try rfl) ?_; simp only [Act.put, nA, nB, nC])
  refine Seq.loadAt rfl rfl rfl rfl (by repeat (first | exact mC | apply mT)) (n := 3) (cs' := RT.c x_t) (Nat.le_of_ble_eq_true rfl) (by kernel_rfl) rfl ?_
  simp only [Act.put, nA, nB, nC]
  iterate 2 (refine Seq.pure rfl rfl (by intro w; go_simp; try rfl) ?_; simp only [Act.put, nA, nB, nC])
  refine Seq.loadAt rfl rfl rfl rfl (by repeat (first | exact mC | apply mT)) (n := 3) (cs' := RT.c z_t) (Nat.le_of_ble_eq_true rfl) (by kernel_rfl) rfl ?_
  simp only [Act.put, nA, nB, nC]
  refine Seq.call rfl rfl rfl rfl (by kernel_rfl) (cmp_w (k := (1 * k + 2)) HT.out (Z_x.out.more (by omega)) (Z_z.out.more (by omega)) C1.out (by omega)) ?_
  simp only [Act.put, nA, nB, nC]
  iterate 4 (refine Seq.pure rfl rfl (by intro w; go_simp; try rfl) ?_; simp only [Act.put, nA, nB, nC])
  refine Seq.loadAt rfl rfl rfl rfl (by repeat (first | exact mC | apply mT)) (n := 3) (cs' := RT.c y_t) (Nat.le_of_ble_eq_true rfl) (by kernel_rfl) rfl ?_
  simp only [Act.put, nA, nB, nC]
  iterate 2 (refine Seq.pure rfl rfl (by intro w; go_simp; try rfl) ?_; simp only [Act.put, nA, nB, nC])
  refine Seq.loadAt rfl rfl rfl rfl (by repeat (first | exact mC | apply mT)) (n := 3) (cs' := RT.c u_t) (Nat.le_of_ble_eq_true rfl) (by kernel_rfl) rfl ?_
  simp only [Act.put, nA, nB, nC]
  refine Seq.call rfl rfl rfl rfl (by kernel_rfl) (cmp_w (k := (1 * k + 2)) HT.out (Z_y.out.more (by omega)) (Z_u.out.more (by omega)) C2.out (by omega)) ?_
  simp only [Act.put, nA, nB, nC]
  iterate 2 (refine Seq.pure rfl rfl (by intro w; go_simp; try rfl) ?_; simp only [Act.put, nA, nB, nC])
  refine Seq.done fun ws2 hws => ?_
  have HS2 := hws.st
  clear HS1 hws
  go_upto_region 3 with (fail)
  refine wp_seq_text [] (StR.no HS2) ?_
  iterate 2 (refine Seq.pure rfl rfl (by intro w; go_simp; try rfl) ?_; simp only [Act.put, nA, nB, nC])
  refine Seq.loadAt rfl rfl rfl rfl (by repeat (first | exact mC | apply mT)) (n := 3) (cs' := RT.c x_t) (Nat.le_of_ble_eq_true rfl) (by kernel_rfl) rfl ?_
  simp only [Act.put, nA, nB, nC]
  iterate 2 (refine Seq.pure rfl rfl (by intro w; go_simp; try rfl) ?_; simp only [Act.put, nA, nB, nC])
  refine Seq.loadAt rfl rfl rfl rfl (by repeat (first | exact mC | apply mT)) (n := 3) (cs' := RT.c z_t) (Nat.le_of_ble_eq_true rfl) (by kernel_rfl) rfl ?_
  simp only [Act.put, nA, nB, nC]
  refine Seq.call rfl rfl rfl rfl (by kernel_rfl) (sides_w (k := k) HT.out Z_x.out Z_z.out hn0.out hl0.out he0.out h01 h02 h03 h04 (by omega) (by omega)) ?_
  simp only [Act.put, nA, nB, nC]
  refine Seq.pure rfl rfl (by intro w; go_simp; try rfl) ?_
  simp only [Act.put, nA, nB, nC]
  refine Seq.pure (v := .int .i64 x0) rfl rfl (fun w => rfl) ?_
  simp only [Act.put, nA, nB, nC]
  refine Seq.pure (v := .int .i64 x1) rfl rfl (fun w => rfl) ?_
  simp only [Act.put, nA, nB, nC]
  refine Seq.pure (v := .bool true) rfl rfl (fun w => rfl) ?_
  simp only [Act.put, nA, nB, nC]
  iterate 3 (refine Seq.pure rfl rfl (by intro w; go_simp; try rfl) ?_; simp only [Act.put, nA, nB, nC])
  refine Seq.done fun ws3 hws => ?_
  have HS3 := hws.st
  clear HS2 hws
  go_upto_region 4 with (fail)
  refine wp_seq_text [] (StR.no HS3) ?_
  iterate 2 (refine Seq.pure rfl rfl (by intro w; go_simp; try rfl) ?_; simp only [Act.put, nA, nB, nC])
  refine Seq.loadAt rfl rfl rfl rfl (by repeat (first | exact mC | apply mT)) (n := 3) (cs' := RT.c y_t) (Nat.le_of_ble_eq_true rfl) (by kernel_rfl) rfl ?_
  simp only [Act.put, nA, nB, nC]
  iterate 2 (refine Seq.pure rfl rfl (by intro w; go_simp; try rfl) ?_; simp only [Act.put, nA, nB, nC])
  refine Seq.loadAt rfl rfl rfl rfl (by repeat (first | exact mC | apply mT)) (n := 3) (cs' := RT.c u_t) (Nat.le_of_ble_eq_true rfl) (by kernel_rfl) rfl ?_
  simp only [Act.put, nA, nB, nC]
  refine Seq.call rfl rfl rfl rfl (by kernel_rfl) (sides_w (k := k) HT.out Z_y.out Z_u.out hn1.out hl1.out he1.out h11 h12 h13 h14 (by omega) (by omega)) ?_
  simp only [Act.put, nA, nB, nC]
  refine Seq.pure rfl rfl (by intro w; go_simp; try rfl) ?_
  simp only [Act.put, nA, nB, nC]
  refine Seq.pure (v := .int .i64 y0) rfl rfl (fun w => rfl) ?_
  simp only [Act.put, nA, nB, nC]
  refine Seq.pure (v := .int .i64 y1) rfl rfl (fun w => rfl) ?_
  simp only [Act.put, nA, nB, nC]
  refine Seq.pure (v := .bool true) rfl rfl (fun w => rfl) ?_
  simp only [Act.put, nA, nB, nC]
  iterate 3 (refine Seq.pure rfl rfl (by intro w; go_simp; try rfl) ?_; simp only [Act.put, nA, nB, nC])
  refine Seq.done fun ws4 hws => ?_
  have HS4 := hws.st
  clear HS3 hws
  go_upto_region 5 with (fail)
  refine wp_seq_text [] (StR.no HS4) ?_
  iterate 6 (refine Seq.pure rfl rfl (by intro w; go_simp; try rfl) ?_; simp only [Act.put, nA, nB, nC])
  refine Seq.done fun ws5 hws => ?_
  have HS5 := hws.st
  clear HS4 hws
  go_upto_region 7 with (fail)
  refine wp_seq_text [] (StR.no HS5) ?_
  iterate 2 (refine Seq.pure rfl rfl (by intro w; go_simp; try rfl) ?_; simp only [Act.put, nA, nB, nC])
  refine Seq.pure (v := .int .i64 (x1 - x0)) rfl rfl (by intro w; go_simp <;> (first | (rw [hw1.out]; done) | exact hw1.out | (simp [hw1.out]; done) | (trace_state; done))) ?_
  simp only [Act.put, nA, nB, nC]
  refine Seq.pure (v := .int .i64 (nX : Int)) rfl rfl (by intro w; go_simp <;> (first | (rw [hw2.out]; done) | exact hw2.out | (simp [hw2.out]; done) | (trace_state; done))) ?_
  simp only [Act.put, nA, nB, nC]
  iterate 2 (refine Seq.pure rfl rfl (by intro w; go_simp; try rfl) ?_; simp only [Act.put, nA, nB, nC])
  refine Seq.pure (v := .int .i64 (y1 - y0)) rfl rfl (by intro w; go_simp <;> (first | (rw [hw3.out]; done) | exact hw3.out | (simp [hw3.out]; done) | (trace_state; done))) ?_
  simp only [Act.put, nA, nB, nC]
  refine Seq.pure (v := .int .i64 (nY : Int)) rfl rfl (by intro w; go_simp <;> (first | (rw [hw4.out]; done) | exact hw4.out | (simp [hw4.out]; done) | (trace_state; done))) ?_
  simp only [Act.put, nA, nB, nC]
  refine Seq.pure (v := .int .i64 ((nX : Int) * (nY : Int))) rfl rfl (by intro w; go_simp <;> (first | (rw [hw5.out]; done) | exact hw5.out | (simp [hw5.out]; done) | (trace_state; done))) ?_
  simp only [Act.put, nA, nB, nC]
  refine Seq.pure (v := .bool true) rfl rfl (by intro w; go_simp <;> (first | (rw [hw6.out]; done) | exact hw6.out | (simp [hw6.out]; done) | (trace_state; done))) ?_
  simp only [Act.put, nA, nB, nC]
  refine Seq.done fun ws6 hws => ?_
  have HS6 := hws.st
  clear HS5 hws
  have HB := Lib.hid HS6.below
  clear HS6
  go_wp2_with fail
  go_ret2
  exact ⟨rfl, HB.out⟩
end Go.Proofs.YtoejojfjiikogaaGreatDoor
