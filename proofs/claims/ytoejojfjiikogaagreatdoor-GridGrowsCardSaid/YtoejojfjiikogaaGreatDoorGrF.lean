/- Cells: rat.Floor at three cells; grid.on, sides, Of over numbers that came in (printed by gridf.py). -/
import Derived.Test.YtoejojfjiikogaaGreatDoorRwA
import Derived.Test.YtoejojfjiikogaaGreatDoorRatR
import Derived.Test.YtoejojfjiikogaaGreatDoorGrC

namespace Go.Proofs.YtoejojfjiikogaaGreatDoor
open Go.RowKit
set_option linter.unusedVariables false
set_option linter.unusedSimpArgs false

/-- four numbers that came in -/
def QW (x y z u : RT) : Array Value := #[.bool x.s, .string x.a, .string x.d, .bool y.s, .string y.a, .string y.d, .bool z.s, .string z.a, .string z.d, .bool u.s, .string u.a, .string u.d]
theorem BC_QW (x y z u : Rat) : BC x y z u = QW (rt x) (rt y) (rt z) (rt u) := rfl
set_option maxRecDepth 20000 in
theorem floorw_pos {k : Nat} {x : Rat} {g1 : Bool} {t1 : RT} (w : World) (hT : Tab w) (hr : RawT k x g1 t1) (hs : 0 ≤ flQ x) (hb : (flQ x).natAbs ≤ 9223372036854775807) (hk : k ≤ 4398046511104) :
    Calls Tryz.prog 14 #[.agg t1.c] w fun e w' => e = .returned (.tuple #[.int .i64 (flQ x), .int .i64 0]) ∧ Below w.heap.size w w' := by
  have HX := Lib.hid (And.intro hr.rz (And.intro hb hT)); have HR := Lib.hid hr; clear hr hb hT
  have hd : decide (Rat.num ((flQ x : Int) : Rat) < 0) = false := decide_eq_false (show ¬ flQ x < 0 by omega)
  have HS0 := Lib.hid hs; clear hs
  have HN := Lib.hid (show (Rat.num ((flQ x : Int) : Rat)).natAbs ≤ 9223372036854775807 from HX.out.2.1)
  have hv : ((flQ x).natAbs : Int) = flQ x := by have := HS0.out; show ((flQ x).natAbs : Int) = _; omega
  go_enter Tryz.func14, Tryz.ntmps14
  have HS : St w [] w := St.start
  go_upto_region 0 with (fail)
  refine wp_seq_text [] (StR.no HS) ?_
  refine Seq.box rfl rfl rfl (v := .agg t1.c) (cs := t1.c) rfl rfl ?_
  intro b1 _ _ hb1_r
  simp only [Act.put, nA, nB, nC]
  refine Seq.pure rfl rfl (by intro w; go_simp; try with_reducible rfl) ?_
  simp only [Act.put, nA, nB, nC]
  refine Seq.pure rfl rfl (by intro w; go_simp; try with_reducible rfl) ?_
  simp only [Act.put, nA, nB, nC]
  refine Seq.done fun ws1 hws => ?_
  have HS1 : St w [(b1, 24, t1.c)] ws1 := hws.list1 (by first | exact Reg.put_same _ _ _ | exact (Reg.put_ne _ _ (by assumption)).trans (Reg.put_same _ _ _) | exact (Reg.put_ne _ _ (by assumption)).trans ((Reg.put_ne _ _ (by assumption)).trans (Reg.put_same _ _ _)) | exact (Reg.put_ne _ _ (by assumption)).trans ((Reg.put_ne _ _ (by assumption)).trans ((Reg.put_ne _ _ (by assumption)).trans (Reg.put_same _ _ _))))
  clear HS hws
  go_upto_region 1 with (fail)
  have HP1 : St w [(b1, 24, t1.c)] _ := St.perm HS1 (by first | exact List.Perm.refl _ | exact List.Perm.swap _ _ _ | (simp [List.perm_cons, List.Perm.swap, List.perm_middle]))
  refine wp_seq_text [0] (StR.move (StR.no HP1)) ?_
  refine Seq.get rfl rfl rfl rfl (by first | exact Reg.put_same _ _ _ | exact (Reg.put_ne _ _ (by assumption)).trans (Reg.put_same _ _ _) | exact (Reg.put_ne _ _ (by assumption)).trans ((Reg.put_ne _ _ (by assumption)).trans (Reg.put_same _ _ _)) | exact (Reg.put_ne _ _ (by assumption)).trans ((Reg.put_ne _ _ (by assumption)).trans ((Reg.put_ne _ _ (by assumption)).trans (Reg.put_same _ _ _)))) (n := 3) rfl (by kernel_rfl) ?_
  simp only [Act.put, nA, nB, nC]
  refine Seq.call rfl rfl rfl rfl (by kernel_rfl) (fit_w (k := k) HX.out.2.2 HR.out (by omega)) ?_
  simp only [Act.put, nA, nB, nC]
  refine Seq.call rfl rfl rfl rfl (by kernel_rfl) (whole_q (k := k) HX.out.2.2 HX.out.1 rfl (by omega)) ?_
  simp only [Act.put, nA, nB, nC]
  refine Seq.store rfl rfl rfl rfl rfl (by first | exact Reg.put_same _ _ _ | exact (Reg.put_ne _ _ (by assumption)).trans (Reg.put_same _ _ _) | exact (Reg.put_ne _ _ (by assumption)).trans ((Reg.put_ne _ _ (by assumption)).trans (Reg.put_same _ _ _)) | exact (Reg.put_ne _ _ (by assumption)).trans ((Reg.put_ne _ _ (by assumption)).trans ((Reg.put_ne _ _ (by assumption)).trans (Reg.put_same _ _ _)))) (n := 3) rfl rfl (by kernel_rfl) (RC_one _) ?_
  simp only [Act.put, nA, nB, nC]
  refine Seq.done fun ws2 hws => ?_
  have HS2 : St w [(b1, 24, RC ((flQ x : Int) : Rat))] ws2 := hws.list1 (by first | exact Reg.put_same _ _ _ | exact (Reg.put_ne _ _ (by assumption)).trans (Reg.put_same _ _ _) | exact (Reg.put_ne _ _ (by assumption)).trans ((Reg.put_ne _ _ (by assumption)).trans (Reg.put_same _ _ _)) | exact (Reg.put_ne _ _ (by assumption)).trans ((Reg.put_ne _ _ (by assumption)).trans ((Reg.put_ne _ _ (by assumption)).trans (Reg.put_same _ _ _))))
  clear HS1 hws HP1
  go_upto_region 2 with (fail)
  refine wp_seq_text [] (StR.no HS2) ?_
  refine Seq.pure rfl rfl (by intro w; go_simp; try with_reducible rfl) ?_
  simp only [Act.put, nA, nB, nC]
  refine Seq.loadCell rfl rfl rfl rfl (by repeat (first | exact List.mem_cons_self | apply List.mem_cons_of_mem)) (v := .string (S (Rat.num ((flQ x : Int) : Rat)).natAbs)) rfl (by kernel_rfl) rfl ?_
  simp only [Act.put, nA, nB, nC]
  refine Seq.call rfl rfl rfl rfl (by kernel_rfl) (int_s _ HN.out) ?_
  simp only [Act.put, nA, nB, nC]
  refine Seq.pure rfl rfl (by intro w; go_simp; try with_reducible rfl) ?_
  simp only [Act.put, nA, nB, nC]
  refine Seq.pure rfl rfl (by intro w; go_simp; try with_reducible rfl) ?_
  simp only [Act.put, nA, nB, nC]
  refine Seq.pure rfl rfl (by intro w; go_simp; try with_reducible rfl) ?_
  simp only [Act.put, nA, nB, nC]
  refine Seq.pure rfl rfl (by intro w; go_simp; try with_reducible rfl) ?_
  simp only [Act.put, nA, nB, nC]
  refine Seq.pure rfl rfl (by intro w; go_simp; try with_reducible rfl) ?_
  simp only [Act.put, nA, nB, nC]
  refine Seq.done fun ws3 hws => ?_
  have HS3 := hws.st
  clear HS2 hws
  go_upto_region 3 with (fail)
  refine wp_seq_text [] (StR.no HS3) ?_
  refine Seq.pure rfl rfl (by intro w; go_simp; try with_reducible rfl) ?_
  simp only [Act.put, nA, nB, nC]
  refine Seq.loadCell rfl rfl rfl rfl (by repeat (first | exact List.mem_cons_self | apply List.mem_cons_of_mem)) (v := .bool false) (by rw [← hd]; rfl) (by kernel_rfl) rfl ?_
  simp only [Act.put, nA, nB, nC]
  refine Seq.done fun ws4 hws => ?_
  have HS4 := hws.st
  clear HS3 hws
  go_upto_region 5 with (fail)
  refine wp_seq_text [] (StR.no HS4) ?_
  refine Seq.pure rfl rfl (by intro w; go_simp; try with_reducible rfl) ?_
  simp only [Act.put, nA, nB, nC]
  refine Seq.pure rfl rfl (by intro w; go_simp; try with_reducible rfl) ?_
  simp only [Act.put, nA, nB, nC]
  refine Seq.pure rfl rfl (by intro w; go_simp; try with_reducible rfl) ?_
  simp only [Act.put, nA, nB, nC]
  refine Seq.pure rfl rfl (by intro w; go_simp; try with_reducible rfl) ?_
  simp only [Act.put, nA, nB, nC]
  refine Seq.done fun ws5 hws => ?_
  have HS5 := hws.st
  clear HS4 hws
  go_wp2_with fail
  go_ret2
  exact ⟨by first | rfl | rw [hv], HS5.below⟩
set_option maxRecDepth 20000 in
theorem floorw_neg {k : Nat} {x : Rat} {g1 : Bool} {t1 : RT} (w : World) (hT : Tab w) (hr : RawT k x g1 t1) (hs : flQ x < 0) (hb : (flQ x).natAbs ≤ 9223372036854775807) (hk : k ≤ 4398046511104) :
    Calls Tryz.prog 14 #[.agg t1.c] w fun e w' => e = .returned (.tuple #[.int .i64 (flQ x), .int .i64 0]) ∧ Below w.heap.size w w' := by
  have HX := Lib.hid (And.intro hr.rz (And.intro hb hT)); have HR := Lib.hid hr; clear hr hb hT
  have hd : decide (Rat.num ((flQ x : Int) : Rat) < 0) = true := decide_eq_true (show flQ x < 0 from hs)
  have HS0 := Lib.hid hs; clear hs
  have HN := Lib.hid (show (Rat.num ((flQ x : Int) : Rat)).natAbs ≤ 9223372036854775807 from HX.out.2.1)
  have hv : IntKind.i64.wrap (-((flQ x).natAbs : Int)) = flQ x := by have := HS0.out; show IntKind.i64.wrap (-((flQ x).natAbs : Int)) = _; rw [IntWalk.i64_in _ (by have := HX.out.2.1; omega)]; omega
  go_enter Tryz.func14, Tryz.ntmps14
  have HS : St w [] w := St.start
  go_upto_region 0 with (fail)
  refine wp_seq_text [] (StR.no HS) ?_
  refine Seq.box rfl rfl rfl (v := .agg t1.c) (cs := t1.c) rfl rfl ?_
  intro b1 _ _ hb1_r
  simp only [Act.put, nA, nB, nC]
  refine Seq.pure rfl rfl (by intro w; go_simp; try with_reducible rfl) ?_
  simp only [Act.put, nA, nB, nC]
  refine Seq.pure rfl rfl (by intro w; go_simp; try with_reducible rfl) ?_
  simp only [Act.put, nA, nB, nC]
  refine Seq.done fun ws1 hws => ?_
  have HS1 : St w [(b1, 24, t1.c)] ws1 := hws.list1 (by first | exact Reg.put_same _ _ _ | exact (Reg.put_ne _ _ (by assumption)).trans (Reg.put_same _ _ _) | exact (Reg.put_ne _ _ (by assumption)).trans ((Reg.put_ne _ _ (by assumption)).trans (Reg.put_same _ _ _)) | exact (Reg.put_ne _ _ (by assumption)).trans ((Reg.put_ne _ _ (by assumption)).trans ((Reg.put_ne _ _ (by assumption)).trans (Reg.put_same _ _ _))))
  clear HS hws
  go_upto_region 1 with (fail)
  have HP1 : St w [(b1, 24, t1.c)] _ := St.perm HS1 (by first | exact List.Perm.refl _ | exact List.Perm.swap _ _ _ | (simp [List.perm_cons, List.Perm.swap, List.perm_middle]))
  refine wp_seq_text [0] (StR.move (StR.no HP1)) ?_
  refine Seq.get rfl rfl rfl rfl (by first | exact Reg.put_same _ _ _ | exact (Reg.put_ne _ _ (by assumption)).trans (Reg.put_same _ _ _) | exact (Reg.put_ne _ _ (by assumption)).trans ((Reg.put_ne _ _ (by assumption)).trans (Reg.put_same _ _ _)) | exact (Reg.put_ne _ _ (by assumption)).trans ((Reg.put_ne _ _ (by assumption)).trans ((Reg.put_ne _ _ (by assumption)).trans (Reg.put_same _ _ _)))) (n := 3) rfl (by kernel_rfl) ?_
  simp only [Act.put, nA, nB, nC]
  refine Seq.call rfl rfl rfl rfl (by kernel_rfl) (fit_w (k := k) HX.out.2.2 HR.out (by omega)) ?_
  simp only [Act.put, nA, nB, nC]
  refine Seq.call rfl rfl rfl rfl (by kernel_rfl) (whole_q (k := k) HX.out.2.2 HX.out.1 rfl (by omega)) ?_
  simp only [Act.put, nA, nB, nC]
  refine Seq.store rfl rfl rfl rfl rfl (by first | exact Reg.put_same _ _ _ | exact (Reg.put_ne _ _ (by assumption)).trans (Reg.put_same _ _ _) | exact (Reg.put_ne _ _ (by assumption)).trans ((Reg.put_ne _ _ (by assumption)).trans (Reg.put_same _ _ _)) | exact (Reg.put_ne _ _ (by assumption)).trans ((Reg.put_ne _ _ (by assumption)).trans ((Reg.put_ne _ _ (by assumption)).trans (Reg.put_same _ _ _)))) (n := 3) rfl rfl (by kernel_rfl) (RC_one _) ?_
  simp only [Act.put, nA, nB, nC]
  refine Seq.done fun ws2 hws => ?_
  have HS2 : St w [(b1, 24, RC ((flQ x : Int) : Rat))] ws2 := hws.list1 (by first | exact Reg.put_same _ _ _ | exact (Reg.put_ne _ _ (by assumption)).trans (Reg.put_same _ _ _) | exact (Reg.put_ne _ _ (by assumption)).trans ((Reg.put_ne _ _ (by assumption)).trans (Reg.put_same _ _ _)) | exact (Reg.put_ne _ _ (by assumption)).trans ((Reg.put_ne _ _ (by assumption)).trans ((Reg.put_ne _ _ (by assumption)).trans (Reg.put_same _ _ _))))
  clear HS1 hws HP1
  go_upto_region 2 with (fail)
  refine wp_seq_text [] (StR.no HS2) ?_
  refine Seq.pure rfl rfl (by intro w; go_simp; try with_reducible rfl) ?_
  simp only [Act.put, nA, nB, nC]
  refine Seq.loadCell rfl rfl rfl rfl (by repeat (first | exact List.mem_cons_self | apply List.mem_cons_of_mem)) (v := .string (S (Rat.num ((flQ x : Int) : Rat)).natAbs)) rfl (by kernel_rfl) rfl ?_
  simp only [Act.put, nA, nB, nC]
  refine Seq.call rfl rfl rfl rfl (by kernel_rfl) (int_s _ HN.out) ?_
  simp only [Act.put, nA, nB, nC]
  refine Seq.pure rfl rfl (by intro w; go_simp; try with_reducible rfl) ?_
  simp only [Act.put, nA, nB, nC]
  refine Seq.pure rfl rfl (by intro w; go_simp; try with_reducible rfl) ?_
  simp only [Act.put, nA, nB, nC]
  refine Seq.pure rfl rfl (by intro w; go_simp; try with_reducible rfl) ?_
  simp only [Act.put, nA, nB, nC]
  refine Seq.pure rfl rfl (by intro w; go_simp; try with_reducible rfl) ?_
  simp only [Act.put, nA, nB, nC]
  refine Seq.pure rfl rfl (by intro w; go_simp; try with_reducible rfl) ?_
  simp only [Act.put, nA, nB, nC]
  refine Seq.done fun ws3 hws => ?_
  have HS3 := hws.st
  clear HS2 hws
  go_upto_region 3 with (fail)
  refine wp_seq_text [] (StR.no HS3) ?_
  refine Seq.pure rfl rfl (by intro w; go_simp; try with_reducible rfl) ?_
  simp only [Act.put, nA, nB, nC]
  refine Seq.loadCell rfl rfl rfl rfl (by repeat (first | exact List.mem_cons_self | apply List.mem_cons_of_mem)) (v := .bool true) (by rw [← hd]; rfl) (by kernel_rfl) rfl ?_
  simp only [Act.put, nA, nB, nC]
  refine Seq.done fun ws4 hws => ?_
  have HS4 := hws.st
  clear HS3 hws
  go_upto_region 4 with (fail)
  refine wp_seq_text [] (StR.no HS4) ?_
  refine Seq.pure rfl rfl (by intro w; go_simp; try with_reducible rfl) ?_
  simp only [Act.put, nA, nB, nC]
  refine Seq.pure rfl rfl (by intro w; go_simp; try with_reducible rfl) ?_
  simp only [Act.put, nA, nB, nC]
  refine Seq.pure rfl rfl (by intro w; go_simp; try with_reducible rfl) ?_
  simp only [Act.put, nA, nB, nC]
  refine Seq.done fun ws5 hws => ?_
  have HS5 := hws.st
  clear HS4 hws
  go_upto_region 5 with (fail)
  refine wp_seq_text [] (StR.no HS5) ?_
  refine Seq.pure rfl rfl (by intro w; go_simp; try with_reducible rfl) ?_
  simp only [Act.put, nA, nB, nC]
  refine Seq.pure rfl rfl (by intro w; go_simp; try with_reducible rfl) ?_
  simp only [Act.put, nA, nB, nC]
  refine Seq.pure rfl rfl (by intro w; go_simp; try with_reducible rfl) ?_
  simp only [Act.put, nA, nB, nC]
  refine Seq.pure rfl rfl (by intro w; go_simp; try with_reducible rfl) ?_
  simp only [Act.put, nA, nB, nC]
  refine Seq.done fun ws6 hws => ?_
  have HS6 := hws.st
  clear HS5 hws
  go_wp2_with fail
  go_ret2
  exact ⟨by first | rfl | rw [hv], HS6.below⟩

theorem floor_w {k : Nat} {x : Rat} {g1 : Bool} {t1 : RT} {z : Int} {W : World} {l : List Own} (hT : Tab W) (hr : RawT k x g1 t1) (hz : flQ x = z) (hb : z.natAbs ≤ 9223372036854775807) (hk : k ≤ 4398046511104) (w : World) (h : St W l w) :
    Calls Tryz.prog 14 #[.agg t1.c] w fun e w' => e = .returned (.tuple #[.int .i64 z, .int .i64 0]) ∧ Below w.heap.size w w' := by
  subst hz
  by_cases h0 : flQ x < 0
  · exact floorw_neg w (tabS hT h) hr h0 hb hk
  · exact floorw_pos w (tabS hT h) hr (by omega) hb hk
set_option maxHeartbeats 1000000 in
theorem on_q {W : World} {l : List Own} {x : Int} (h1 : -64 ≤ x) (h2 : x < 64) (w : World) (h : St W l w) : Calls Tryz.prog 38 #[.int .i64 x] w fun e w' => e = .returned (.bool true) ∧ Below w.heap.size w w' := by
  refine (on_yes x w h1 h2).mono ?_
  rintro e w' ⟨rfl, rfl⟩
  exact ⟨rfl, Below.refl _ _⟩
theorem neg_w1 {n : Int} (h : -64 ≤ -n - 1) (h2 : -n - 1 < 64) : IntKind.i64.wrap (-n) = -n := IntWalk.i64_in _ (by omega)
theorem neg_w2 {n f : Int} (h : -64 ≤ f) (h2 : f < 64) (e : f = -n - 1) : IntKind.i64.wrap (-n - 1) = f := by rw [← e]; exact IntWalk.i64_in _ (by omega)
set_option maxHeartbeats 2000000 in
set_option maxRecDepth 20000 in
theorem sides_w {k : Nat} {x : Rat} {x_g : Bool} {x_t : RT} {y : Rat} {y_g : Bool} {y_t : RT} {n0 f0 l0 : Int} {W : World} {l : List Own} (hT : Tab W) (Zx : RawT k x x_g x_t) (Zy : RawT k y y_g y_t) (hn : flQ (-x) = n0) (hl : flQ y = l0) (hf : f0 = -n0 - 1) (hf1 : -64 ≤ f0) (hf2 : f0 < 64) (hg1 : -64 ≤ l0) (hg2 : l0 < 64) (hk0 : 2 ≤ k) (hk : k ≤ 1099511627776) (w : World) (h : St W l w) :
    Calls Tryz.prog 37 #[.agg x_t.c, .agg y_t.c] w fun e w' => e = .returned (.tuple #[.int .i64 f0, .int .i64 l0, .bool true]) ∧ Below w.heap.size w w' := by
  have HT := Lib.hid (tabS hT h); clear hT h
  have Z_x := Lib.hid Zx; clear Zx
  have Z_y := Lib.hid Zy; clear Zy
  have hn0 := Lib.hid hn
  have hl0 := Lib.hid hl
  have hn1 : Hid (n0.natAbs ≤ 9223372036854775807) := Lib.hid (by omega)
  have hl1 : Hid (l0.natAbs ≤ 9223372036854775807) := Lib.hid (by omega)
  have hw1 := Lib.hid (neg_w1 (n := n0) (by omega) (by omega))
  have hw2 := Lib.hid (neg_w2 (n := n0) hf1 hf2 hf)
  clear hn hl hf
  go_enter Tryz.func37, Tryz.ntmps37
  have HS : St w [] w := St.start
  go_upto_region 0 with (fail)
  refine wp_seq_text [] (StR.no HS) ?_
  refine Seq.box rfl rfl rfl (v := .agg (RT.c x_t)) (cs := RT.c x_t) rfl rfl ?_
  intro bk2 _ _ hbk2_r
  simp only [Act.put, nA, nB, nC]
  refine Seq.box rfl rfl rfl (v := .agg (RT.c y_t)) (cs := RT.c y_t) rfl rfl ?_
  intro bk3 _ _ hbk3_r
  obtain ⟨ne_bk3_bk2, hbk3_r⟩ := Reg.ne_of_put hbk3_r
  have ne_bk2_bk3 := Ne.symm ne_bk3_bk2
  simp only [Act.put, nA, nB, nC]
  iterate 3 (refine Seq.pure rfl rfl (by intro w; go_simp; try rfl) ?_; simp only [Act.put, nA, nB, nC])
  refine Seq.done fun ws1 hws => ?_
  have HS1 := hws.list2 (p := bk2) (q := bk3) (by repeat (first | exact rS | refine rN (by assumption) ?_)) (by repeat (first | exact rS | refine rN (by assumption) ?_)) (by assumption)
  clear HS hws
  go_upto_region 1 with (fail)
  refine wp_seq_text [] (StR.no HS1) ?_
  refine Seq.load rfl rfl rfl rfl (by repeat (first | exact mC | apply mT)) (n := 3) rfl (by kernel_rfl) ?_
  simp only [Act.put, nA, nB, nC]
  refine Seq.call rfl rfl rfl rfl (by kernel_rfl) (floor_w (k := k) HT.out Z_y.out hl0.out hl1.out (by omega)) ?_
  simp only [Act.put, nA, nB, nC]
  refine Seq.pure rfl rfl (by intro w; go_simp; try rfl) ?_
  simp only [Act.put, nA, nB, nC]
  refine Seq.pure (v := .int .i64 l0) rfl rfl (fun w => rfl) ?_
  simp only [Act.put, nA, nB, nC]
  refine Seq.pure (v := .int .i64 0) rfl rfl (fun w => rfl) ?_
  simp only [Act.put, nA, nB, nC]
  iterate 2 (refine Seq.pure rfl rfl (by intro w; go_simp; try rfl) ?_; simp only [Act.put, nA, nB, nC])
  refine Seq.done fun ws2 hws => ?_
  have HS2 := hws.st
  clear HS1 hws
  go_upto_region 2 with (fail)
  refine wp_seq_text [] (StR.no HS2) ?_
  refine Seq.load rfl rfl rfl rfl (by repeat (first | exact mC | apply mT)) (n := 3) rfl (by kernel_rfl) ?_
  simp only [Act.put, nA, nB, nC]
  refine Seq.call rfl rfl rfl rfl (by kernel_rfl) (neg_w (k := (1 * k + 2)) HT.out (Z_x.out.more (by omega)) rfl (by omega)) ?_
  simp only [Act.put, nA, nB, nC]
  refine Seq.call rfl rfl rfl rfl (by kernel_rfl) (floor_q (k := k) HT.out Z_x.out.rz.neg hn0.out hn1.out (by omega)) ?_
  simp only [Act.put, nA, nB, nC]
  refine Seq.pure rfl rfl (by intro w; go_simp; try rfl) ?_
  simp only [Act.put, nA, nB, nC]
  refine Seq.pure (v := .int .i64 n0) rfl rfl (fun w => rfl) ?_
  simp only [Act.put, nA, nB, nC]
  refine Seq.pure (v := .int .i64 0) rfl rfl (fun w => rfl) ?_
  simp only [Act.put, nA, nB, nC]
  iterate 2 (refine Seq.pure rfl rfl (by intro w; go_simp; try rfl) ?_; simp only [Act.put, nA, nB, nC])
  refine Seq.done fun ws3 hws => ?_
  have HS3 := hws.st
  clear HS2 hws
  go_upto_region 3 with (fail)
  refine wp_seq_text [] (StR.no HS3) ?_
  refine Seq.pure rfl rfl (by intro w; go_simp; try rfl) ?_
  simp only [Act.put, nA, nB, nC]
  refine Seq.pure (v := .int .i64 (-n0)) rfl rfl (by intro w; go_simp <;> (first | (rw [hw1.out]; done) | exact hw1.out | (simp [hw1.out]; done) | (trace_state; done))) ?_
  simp only [Act.put, nA, nB, nC]
  refine Seq.pure (v := .int .i64 f0) rfl rfl (by intro w; go_simp <;> (first | (rw [hw2.out]; done) | exact hw2.out | (simp [hw2.out]; done) | (trace_state; done))) ?_
  simp only [Act.put, nA, nB, nC]
  refine Seq.pure rfl rfl (by intro w; go_simp; try rfl) ?_
  simp only [Act.put, nA, nB, nC]
  refine Seq.done fun ws4 hws => ?_
  have HS4 := hws.st
  clear HS3 hws
  go_upto_region 4 with (fail)
  refine wp_seq_text [] (StR.no HS4) ?_
  iterate 10 (refine Seq.pure rfl rfl (by intro w; go_simp; try rfl) ?_; simp only [Act.put, nA, nB, nC])
  refine Seq.call rfl rfl rfl rfl (by kernel_rfl) (on_q hf1 hf2) ?_
  simp only [Act.put, nA, nB, nC]
  iterate 3 (refine Seq.pure rfl rfl (by intro w; go_simp; try rfl) ?_; simp only [Act.put, nA, nB, nC])
  refine Seq.call rfl rfl rfl rfl (by kernel_rfl) (on_q hg1 hg2) ?_
  simp only [Act.put, nA, nB, nC]
  iterate 4 (refine Seq.pure rfl rfl (by intro w; go_simp; try rfl) ?_; simp only [Act.put, nA, nB, nC])
  refine Seq.done fun ws5 hws => ?_
  have HS5 := hws.st
  clear HS4 hws
  go_wp2_with fail
  go_ret3
  exact ⟨rfl, HS5.below⟩
def rowsL (x0 y0 : Int) (nX j : Nat) : List Ft := (List.range j).flatMap fun (q : Nat) => (List.range nX).map fun (i : Nat) => ⟨x0 + i, y0 + q⟩
theorem rowsL_succ (x0 y0 : Int) (nX j : Nat) : rowsL x0 y0 nX (j + 1) = rowsL x0 y0 nX j ++ (List.range nX).map fun (i : Nat) => ⟨x0 + i, y0 + j⟩ := by
  unfold rowsL
  rw [List.range_succ, List.flatMap_append]
  simp
theorem rowsL_len (x0 y0 : Int) (nX j : Nat) : (rowsL x0 y0 nX j).length = j * nX := by
  induction j with
  | zero => simp [rowsL]
  | succ j ih => rw [rowsL_succ, List.length_append, ih]; simp [Nat.succ_mul]
theorem rowsL_mem {x0 y0 : Int} {nX j : Nat} {c : Ft} : c ∈ rowsL x0 y0 nX j ↔ x0 ≤ c.x ∧ c.x < x0 + nX ∧ y0 ≤ c.y ∧ c.y < y0 + j := by
  obtain ⟨a, b⟩ := c
  unfold rowsL
  simp only [List.mem_flatMap, List.mem_range, List.mem_map, Ft.mk.injEq]
  constructor
  · rintro ⟨q, hq, i, hi, rfl, rfl⟩
    omega
  · rintro ⟨h1, h2, h3, h4⟩
    exact ⟨(b - y0).toNat, by omega, (a - x0).toNat, by omega, by omega, by omega⟩
theorem rows_part {x0 y0 : Int} {nX j i : Nat} : rowsL x0 y0 nX j ++ ((List.range (i + 1)).map fun (i : Nat) => (⟨x0 + i, y0 + j⟩ : Ft)) = (rowsL x0 y0 nX j ++ (List.range i).map fun (i : Nat) => (⟨x0 + i, y0 + j⟩ : Ft)) ++ [⟨x0 + i, y0 + j⟩] := by
  rw [List.range_succ, List.map_append, List.append_assoc]; rfl
theorem rows_0 {w wr : World} {v : Value} {x0 y0 : Int} {nX j : Nat} (h : FRow w v (rowsL x0 y0 nX j) wr) : FRow w v (rowsL x0 y0 nX j ++ ((List.range 0).map fun (i : Nat) => (⟨x0 + i, y0 + j⟩ : Ft))) wr := by simpa using h
theorem rows_1 {w wr : World} {v : Value} {x0 y0 : Int} {nX j : Nat} (h : FRow w v (rowsL x0 y0 nX j ++ ((List.range nX).map fun (i : Nat) => (⟨x0 + i, y0 + j⟩ : Ft))) wr) : FRow w v (rowsL x0 y0 nX (j + 1)) wr := by rw [rowsL_succ]; exact h
theorem rows_le {nX nY j i : Nat} (h : nX * nY ≤ 400) (hj : j < nY) (hi : i ≤ nX) : j * nX + i ≤ 400 := by
  have h1 : (j + 1) * nX ≤ nY * nX := Nat.mul_le_mul_right _ hj
  rw [Nat.succ_mul] at h1
  rw [Nat.mul_comm] at h
  omega
set_option maxHeartbeats 4000000 in
set_option maxRecDepth 20000 in
/-- the cells of a box -/
theorem of_w {k : Nat} {x y z u : Rat} {x_g y_g z_g u_g : Bool} {x_t y_t z_t u_t : RT} {n0 n1 x0 x1 y0 y1 : Int} {nX nY : Nat} (w : World) (hT : Tab w) (Zx : RawT k x x_g x_t) (Zy : RawT k y y_g y_t) (Zz : RawT k z z_g z_t) (Zu : RawT k u u_g u_t) (hxz : x ≤ z) (hyu : y ≤ u)
    (hn0 : flQ (-x) = n0) (hl0 : flQ z = x1) (he0 : x0 = -n0 - 1) (h01 : -64 ≤ x0) (h02 : x0 < 64) (h03 : -64 ≤ x1) (h04 : x1 < 64) (hn1 : flQ (-y) = n1) (hl1 : flQ u = y1) (he1 : y0 = -n1 - 1) (h11 : -64 ≤ y0) (h12 : y0 < 64) (h13 : -64 ≤ y1) (h14 : y1 < 64)
    (hX : (nX : Int) = x1 - x0 + 1) (hY : (nY : Int) = y1 - y0 + 1) (hm : nX * nY ≤ 400) (hk0 : 2 ≤ k) (hk : k ≤ 1099511627776) :
    Calls Tryz.prog 9 #[.agg (QW x_t y_t z_t u_t)] w fun e w' => ∃ v, e = .returned (.tuple #[v, .int .i64 0]) ∧ FRow w v (rowsL x0 y0 nX nY) w' := by
  have HT := Lib.hid hT; clear hT
  have Z_x := Lib.hid Zx; clear Zx
  have Z_y := Lib.hid Zy; clear Zy
  have Z_z := Lib.hid Zz; clear Zz
  have Z_u := Lib.hid Zu; clear Zu
  replace hn0 := Lib.hid hn0
  replace hn1 := Lib.hid hn1
  replace hl0 := Lib.hid hl0
  replace hl1 := Lib.hid hl1
  replace he0 := Lib.hid he0
  replace he1 := Lib.hid he1
  have hw1 : Hid (IntKind.i64.wrap (x1 - x0) = x1 - x0) := Lib.hid (IntWalk.i64_in _ (by omega))
  have hw2 : Hid (IntKind.i64.wrap (x1 - x0 + 1) = (nX : Int)) := Lib.hid (by rw [hX]; exact IntWalk.i64_in _ (by omega))
  have hw3 : Hid (IntKind.i64.wrap (y1 - y0) = y1 - y0) := Lib.hid (IntWalk.i64_in _ (by omega))
  have hw4 : Hid (IntKind.i64.wrap (y1 - y0 + 1) = (nY : Int)) := Lib.hid (by rw [hY]; exact IntWalk.i64_in _ (by omega))
  have hm' : (nX : Int) * (nY : Int) ≤ 400 := by exact_mod_cast hm
  have hm0 : (0 : Int) ≤ (nX : Int) * (nY : Int) := by exact_mod_cast Nat.zero_le _
  have hw5 : Hid (IntKind.i64.wrap ((nX : Int) * (nY : Int)) = (nX : Int) * (nY : Int)) := Lib.hid (IntWalk.i64_in _ (by omega))
  have hw6 : Hid ((nX : Int) * (nY : Int) ≤ 400) := Lib.hid hm'
  have hM := Lib.hid hm
  have hXX := Lib.hid hX
  have hYY := Lib.hid hY
  have hb1 : nX ≤ 200 := by omega
  have hb2 : nY ≤ 200 := by omega
  clear hX hY hm hm' hm0
  go_enter Tryz.func9, Tryz.ntmps9
  have HS : St w [] w := St.start
  go_upto_region 0 with (fail)
  refine wp_seq_text [] (StR.no HS) ?_
  refine Seq.box rfl rfl rfl (v := .agg (QW x_t y_t z_t u_t)) (cs := QW x_t y_t z_t u_t) rfl rfl ?_
  intro bk1 _ _ hbk1_r
  simp only [Act.put, nA, nB, nC]
  iterate 2 (refine Seq.pure rfl rfl (by intro w; go_simp; try rfl) ?_; simp only [Act.put, nA, nB, nC])
  refine Seq.done fun ws1 hws => ?_
  have HS1 := hws.list1 (p := bk1) (by repeat (first | exact rS | refine rN (by assumption) ?_))
  clear HS hws
  obtain ⟨v1, hv1, r1, r1'⟩ : ∃ v, cmpQ x z = v ∧ decide (v > 0) = false ∧ decide (0 < v) = false := ⟨_, rfl, decide_eq_false (fun h => absurd ((cmpQ_gt _ _).1 h) (by grind)), decide_eq_false (fun h => absurd ((cmpQ_gt _ _).1 h) (by grind))⟩
  have C1 := Lib.hid hv1; clear hv1
  obtain ⟨v2, hv2, r2, r2'⟩ : ∃ v, cmpQ y u = v ∧ decide (v > 0) = false ∧ decide (0 < v) = false := ⟨_, rfl, decide_eq_false (fun h => absurd ((cmpQ_gt _ _).1 h) (by grind)), decide_eq_false (fun h => absurd ((cmpQ_gt _ _).1 h) (by grind))⟩
  have C2 := Lib.hid hv2; clear hv2
  clear hxz hyu
  go_upto_region 1 with (fail)
  refine wp_seq_text [] (StR.no HS1) ?_
  iterate 2 (refine Seq.pure rfl rfl (by intro w; go_simp; try rfl) ?_; simp only [Act.put, nA, nB, nC])
  refine Seq.loadAt rfl rfl rfl rfl (by repeat (first | exact mC | apply mT)) (n := 3) (cs' := RT.c x_t) (Nat.le_of_ble_eq_true rfl) (by kernel_rfl) rfl ?_
  simp only [Act.put, nA, nB, nC]
  iterate 2 (refine Seq.pure rfl rfl (by intro w; go_simp; try rfl) ?_; simp only [Act.put, nA, nB, nC])
  refine Seq.loadAt rfl rfl rfl rfl (by repeat (first | exact mC | apply mT)) (n := 3) (cs' := RT.c z_t) (Nat.le_of_ble_eq_true rfl) (by kernel_rfl) rfl ?_
  simp only [Act.put, nA, nB, nC]
  refine Seq.call rfl rfl rfl rfl (by kernel_rfl) (cmp_w (k := (1 * k + 2)) HT.out (Z_x.out.more (by omega)) (Z_z.out.more (by omega)) C1.out (by omega)) ?_
  simp only [Act.put, nA, nB, nC]
  iterate 4 (refine Seq.pure rfl rfl (by intro w; go_simp; try rfl) ?_; simp only [Act.put, nA, nB, nC])
  refine Seq.loadAt rfl rfl rfl rfl (by repeat (first | exact mC | apply mT)) (n := 3) (cs' := RT.c y_t) (Nat.le_of_ble_eq_true rfl) (by kernel_rfl) rfl ?_
  simp only [Act.put, nA, nB, nC]
  iterate 2 (refine Seq.pure rfl rfl (by intro w; go_simp; try rfl) ?_; simp only [Act.put, nA, nB, nC])
  refine Seq.loadAt rfl rfl rfl rfl (by repeat (first | exact mC | apply mT)) (n := 3) (cs' := RT.c u_t) (Nat.le_of_ble_eq_true rfl) (by kernel_rfl) rfl ?_
  simp only [Act.put, nA, nB, nC]
  refine Seq.call rfl rfl rfl rfl (by kernel_rfl) (cmp_w (k := (1 * k + 2)) HT.out (Z_y.out.more (by omega)) (Z_u.out.more (by omega)) C2.out (by omega)) ?_
  simp only [Act.put, nA, nB, nC]
  iterate 2 (refine Seq.pure rfl rfl (by intro w; go_simp; try rfl) ?_; simp only [Act.put, nA, nB, nC])
  refine Seq.done fun ws2 hws => ?_
  have HS2 := hws.st
  clear HS1 hws
  go_upto_region 3 with (fail)
  refine wp_seq_text [] (StR.no HS2) ?_
  iterate 2 (refine Seq.pure rfl rfl (by intro w; go_simp; try rfl) ?_; simp only [Act.put, nA, nB, nC])
  refine Seq.loadAt rfl rfl rfl rfl (by repeat (first | exact mC | apply mT)) (n := 3) (cs' := RT.c x_t) (Nat.le_of_ble_eq_true rfl) (by kernel_rfl) rfl ?_
  simp only [Act.put, nA, nB, nC]
  iterate 2 (refine Seq.pure rfl rfl (by intro w; go_simp; try rfl) ?_; simp only [Act.put, nA, nB, nC])
  refine Seq.loadAt rfl rfl rfl rfl (by repeat (first | exact mC | apply mT)) (n := 3) (cs' := RT.c z_t) (Nat.le_of_ble_eq_true rfl) (by kernel_rfl) rfl ?_
  simp only [Act.put, nA, nB, nC]
  refine Seq.call rfl rfl rfl rfl (by kernel_rfl) (sides_w (k := k) HT.out Z_x.out Z_z.out hn0.out hl0.out he0.out h01 h02 h03 h04 (by omega) (by omega)) ?_
  simp only [Act.put, nA, nB, nC]
  refine Seq.pure rfl rfl (by intro w; go_simp; try rfl) ?_
  simp only [Act.put, nA, nB, nC]
  refine Seq.pure (v := .int .i64 x0) rfl rfl (fun w => rfl) ?_
  simp only [Act.put, nA, nB, nC]
  refine Seq.pure (v := .int .i64 x1) rfl rfl (fun w => rfl) ?_
  simp only [Act.put, nA, nB, nC]
  refine Seq.pure (v := .bool true) rfl rfl (fun w => rfl) ?_
  simp only [Act.put, nA, nB, nC]
  iterate 3 (refine Seq.pure rfl rfl (by intro w; go_simp; try rfl) ?_; simp only [Act.put, nA, nB, nC])
  refine Seq.done fun ws3 hws => ?_
  have HS3 := hws.st
  clear HS2 hws
  go_upto_region 4 with (fail)
  refine wp_seq_text [] (StR.no HS3) ?_
  iterate 2 (refine Seq.pure rfl rfl (by intro w; go_simp; try rfl) ?_; simp only [Act.put, nA, nB, nC])
  refine Seq.loadAt rfl rfl rfl rfl (by repeat (first | exact mC | apply mT)) (n := 3) (cs' := RT.c y_t) (Nat.le_of_ble_eq_true rfl) (by kernel_rfl) rfl ?_
  simp only [Act.put, nA, nB, nC]
  iterate 2 (refine Seq.pure rfl rfl (by intro w; go_simp; try rfl) ?_; simp only [Act.put, nA, nB, nC])
  refine Seq.loadAt rfl rfl rfl rfl (by repeat (first | exact mC | apply mT)) (n := 3) (cs' := RT.c u_t) (Nat.le_of_ble_eq_true rfl) (by kernel_rfl) rfl ?_
  simp only [Act.put, nA, nB, nC]
  refine Seq.call rfl rfl rfl rfl (by kernel_rfl) (sides_w (k := k) HT.out Z_y.out Z_u.out hn1.out hl1.out he1.out h11 h12 h13 h14 (by omega) (by omega)) ?_
  simp only [Act.put, nA, nB, nC]
  refine Seq.pure rfl rfl (by intro w; go_simp; try rfl) ?_
  simp only [Act.put, nA, nB, nC]
  refine Seq.pure (v := .int .i64 y0) rfl rfl (fun w => rfl) ?_
  simp only [Act.put, nA, nB, nC]
  refine Seq.pure (v := .int .i64 y1) rfl rfl (fun w => rfl) ?_
  simp only [Act.put, nA, nB, nC]
  refine Seq.pure (v := .bool true) rfl rfl (fun w => rfl) ?_
  simp only [Act.put, nA, nB, nC]
  iterate 3 (refine Seq.pure rfl rfl (by intro w; go_simp; try rfl) ?_; simp only [Act.put, nA, nB, nC])
  refine Seq.done fun ws4 hws => ?_
  have HS4 := hws.st
  clear HS3 hws
  go_upto_region 5 with (fail)
  refine wp_seq_text [] (StR.no HS4) ?_
  iterate 6 (refine Seq.pure rfl rfl (by intro w; go_simp; try rfl) ?_; simp only [Act.put, nA, nB, nC])
  refine Seq.done fun ws5 hws => ?_
  have HS5 := hws.st
  clear HS4 hws
  go_upto_region 7 with (fail)
  refine wp_seq_text [] (StR.no HS5) ?_
  iterate 2 (refine Seq.pure rfl rfl (by intro w; go_simp; try rfl) ?_; simp only [Act.put, nA, nB, nC])
  refine Seq.pure (v := .int .i64 (x1 - x0)) rfl rfl (by intro w; go_simp <;> (first | (rw [hw1.out]; done) | exact hw1.out | (simp [hw1.out]; done) | (trace_state; done))) ?_
  simp only [Act.put, nA, nB, nC]
  refine Seq.pure (v := .int .i64 (nX : Int)) rfl rfl (by intro w; go_simp <;> (first | (rw [hw2.out]; done) | exact hw2.out | (simp [hw2.out]; done) | (trace_state; done))) ?_
  simp only [Act.put, nA, nB, nC]
  iterate 2 (refine Seq.pure rfl rfl (by intro w; go_simp; try rfl) ?_; simp only [Act.put, nA, nB, nC])
  refine Seq.pure (v := .int .i64 (y1 - y0)) rfl rfl (by intro w; go_simp <;> (first | (rw [hw3.out]; done) | exact hw3.out | (simp [hw3.out]; done) | (trace_state; done))) ?_
  simp only [Act.put, nA, nB, nC]
  refine Seq.pure (v := .int .i64 (nY : Int)) rfl rfl (by intro w; go_simp <;> (first | (rw [hw4.out]; done) | exact hw4.out | (simp [hw4.out]; done) | (trace_state; done))) ?_
  simp only [Act.put, nA, nB, nC]
  refine Seq.pure (v := .int .i64 ((nX : Int) * (nY : Int))) rfl rfl (by intro w; go_simp <;> (first | (rw [hw5.out]; done) | exact hw5.out | (simp [hw5.out]; done) | (trace_state; done))) ?_
  simp only [Act.put, nA, nB, nC]
  refine Seq.pure (v := .bool false) rfl rfl (by intro w; go_simp <;> (first | (rw [hw6.out]; done) | exact hw6.out | (simp [hw6.out]; done) | (trace_state; done))) ?_
  simp only [Act.put, nA, nB, nC]
  refine Seq.done fun ws6 hws => ?_
  have HS6 := hws.st
  clear HS5 hws
  have HB := Lib.hid HS6.below
  clear HS6 Z_x Z_y Z_z Z_u hn0 hn1 hl0 hl1 he0 he1 hw1 hw2 hw3 hw4 hw5 hw6 HT
  go_wp2_with fail
  go_loopg [10, 11] nY (fun kx ov s11 wr => ∃ j : Nat, kx = nY - j ∧ j ≤ nY ∧ s11 = .int .i64 (y0 + (j : Int)) ∧ Hid (FRow w ov (rowsL x0 y0 nX j) wr))
  case atStart => exact ⟨0, by omega, Nat.zero_le _, by go_num, FRow.nil HB.out⟩
  case round =>
    obtain ⟨j, hgk, hj, rfl, HR⟩ := hrel
    have HGK := Lib.hid hgk; clear hgk
    have HYY := hYY.out
    by_cases hlt : j < nY
    · have hc : y0 + (j : Int) ≤ y1 := by omega
      have HLT := Lib.hid hlt
      clear HYY
      have hwy : IntKind.i64.wrap (y0 + (j : Int) + 1) = y0 + (j : Int) + 1 := IntWalk.i64_in _ (by omega)
      go_wp2_with fail
      have HR0 := Lib.hid (rows_0 HR.out)
      clear HR
      go_loopg [10, 12] nX (fun kx oi s12 wi => ∃ i : Nat, kx = nX - i ∧ i ≤ nX ∧ s12 = .int .i64 (x0 + (i : Int)) ∧ Hid (FRow w oi (rowsL x0 y0 nX j ++ ((List.range i).map fun (i : Nat) => (⟨x0 + i, y0 + j⟩ : Ft))) wi))
      case atStart => exact ⟨0, by omega, Nat.zero_le _, by go_num, HR0⟩
      case round =>
        clear HR0
        obtain ⟨i, hgk2, hi, rfl, HR⟩ := hrel
        have HGK2 := Lib.hid hgk2; clear hgk2
        have HXX := hXX.out
        by_cases hlt2 : i < nX
        · have hc2 : x0 + (i : Int) ≤ x1 := by omega
          have hwx : IntKind.i64.wrap (x0 + (i : Int) + 1) = x0 + (i : Int) + 1 := IntWalk.i64_in _ (by omega)
          have HN : Hid ((rowsL x0 y0 nX j ++ ((List.range i).map fun (i : Nat) => (⟨x0 + i, y0 + j⟩ : Ft))).length ≤ 400) := Lib.hid (by
            rw [List.length_append, rowsL_len]; simp only [List.length_map, List.length_range]; exact rows_le hM.out HLT.out hi)
          have HP := Lib.hid (rows_part (x0 := x0) (y0 := y0) (nX := nX) (j := j) (i := i))
          clear HXX
          obtain ⟨A5, c5, rfl, hl5, hm5, hI5⟩ := HR.out.facts
          clear hI5 hl5
          unfold maxLen at hm5
          generalize hxs : rowsL x0 y0 nX j ++ ((List.range i).map fun (i : Nat) => (⟨x0 + i, y0 + j⟩ : Ft)) = xs at *
          generalize hn5 : xs.length = n5 at *
          have HN5 := Lib.hid hn5; clear hn5 hxs
          have hn4 : n5 ≤ 400 := HN.out
          have hnm : n5 + 1 ≤ maxLen := by unfold maxLen; omega
          have hby : (n5 + 1) * 16 ≤ 140737488355328 := by omega
          go_wp2_with (
            at_builtin
            refine wpList_append_oneL rfl (.tmp 81) (.tmp 85) _ rfl Tryz.underlying30 infoFt rfl rfl (HR.out.row HN5.out) rfl rfl rfl (one_ft ⟨_, _⟩) hnm hby ?_
            intro v' w3 hR3 hb3)
          have HR3 := Lib.hid (FRow.add (x := ⟨x0 + (i : Int), y0 + (j : Int)⟩) HN5.out hR3)
          clear hR3 hb3
          go_roundg (nX - (i + 1))
          case measure => rw [HGK2.out]; omega
          case rel => exact ⟨i + 1, rfl, hlt2, by go_num, by rw [HP.out]; exact HR3⟩
        · have hc2 : ¬ x0 + (i : Int) ≤ x1 := by omega
          have hc3 : decide (x0 + (i : Int) ≤ x1) = false := decide_eq_false hc2
          obtain rfl : i = nX := by omega
          have HR3 := Lib.hid (rows_1 HR.out)
          clear HR HXX hc2
          go_wp2_with fail
          go_roundg (nY - (j + 1))
          case measure => rw [HGK.out]; have := HLT.out; omega
          case rel => exact ⟨j + 1, rfl, HLT.out, by go_num, HR3⟩
    · have hc : ¬ y0 + (j : Int) ≤ y1 := by omega
      have hc3 : decide (y0 + (j : Int) ≤ y1) = false := decide_eq_false hc
      obtain rfl : j = nY := by omega
      clear HYY hc
      go_wp2_with fail
      go_ret2
      exact ⟨_, rfl, HR.out⟩
end Go.Proofs.YtoejojfjiikogaaGreatDoor
