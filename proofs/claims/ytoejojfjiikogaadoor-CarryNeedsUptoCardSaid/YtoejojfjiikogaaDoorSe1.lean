/- Spans that came in: Good, fit, norm, Ends. -/
import Derived.Test.YtoejojfjiikogaaDoorSe0
import Derived.LoopN

namespace Go.Proofs.YtoejojfjiikogaaDoor
open Go.RowKit
set_option linter.unusedVariables false
set_option linter.unusedSimpArgs false

set_option maxHeartbeats 2000000 in
set_option maxRecDepth 20000 in
theorem sof_w {k : Nat} {t : Rat} {t_g : Bool} {t_t : RT} {z0 : Rat} {z1 : Rat} {W : World} {l : List Own} (hT : Tab W) (Zt : RawT k t t_g t_t) (hz0 : t = z0) (hz1 : t = z1) (hk0 : 2 ≤ k) (hk : k ≤ 1000000000000) (w : World) (h : St W l w) :
    Calls Tryd.prog 84 #[.agg (RT.c t_t)] w fun e w' => e = .returned (.agg (VC z0 z1)) ∧ Below w.heap.size w w' := by
  subst hz0
  subst hz1
  have HT := Lib.hid (tabS hT h); clear hT h
  have Z_t := Lib.hid Zt; clear Zt
  go_enter Tryd.func84, Tryd.ntmps84
  have HS : St w [] w := St.start
  go_upto_region 0 with (fail)
  refine wp_seq_text [] (StR.no HS) ?_
  refine Seq.box rfl rfl rfl (v := .agg (RT.c t_t)) (cs := RT.c t_t) rfl rfl ?_
  intro bk1 _ _ hbk1_r
  simp only [Act.put, nA, nB, nC]
  refine Seq.alloc rfl rfl rfl (z := .agg (SW rz0 rz0)) (by kernel_rfl) rfl ?_
  intro bk2 _ _ hbk2_r
  obtain ⟨ne_bk2_bk1, hbk2_r⟩ := Reg.ne_of_put hbk2_r
  have ne_bk1_bk2 := Ne.symm ne_bk2_bk1
  simp only [Act.put, nA, nB, nC]
  refine Seq.done fun ws1 hws => ?_
  have HS1 := hws.list2 (p := bk1) (q := bk2) (by repeat (first | exact rS | refine rN (by assumption) ?_)) (by repeat (first | exact rS | refine rN (by assumption) ?_)) (by assumption)
  clear HS hws
  go_upto_region 1 with (fail)
  refine wp_seq_text [0, 2] (StR.move (StR.no HS1)) ?_
  refine Seq.get rfl rfl rfl rfl (by repeat (first | exact rS | refine rN (by assumption) ?_)) (n := 3) rfl (by kernel_rfl) ?_
  simp only [Act.put, nA, nB, nC]
  refine Seq.get rfl rfl rfl rfl (by repeat (first | exact rS | refine rN (by assumption) ?_)) (n := 3) rfl (by kernel_rfl) ?_
  simp only [Act.put, nA, nB, nC]
  refine Seq.call rfl rfl rfl rfl (by kernel_rfl) (min_w (k := (1 * k + 2)) HT.out (Z_t.out.more (by omega)) (Z_t.out.more (by omega)) (min_self _) (by omega)) ?_
  simp only [Act.put, nA, nB, nC]
  refine Seq.store rfl rfl rfl rfl rfl (by repeat (first | exact rS | refine rN (by assumption) ?_)) (n := 3) rfl rfl (by kernel_rfl) (RC_one _) ?_
  simp only [Act.put, nA, nB, nC]
  refine Seq.done fun ws2 hws => ?_
  have HS2 := hws.list1 (p := bk1) (by repeat (first | exact rS | refine rN (by assumption) ?_))
  clear HS1 hws
  go_upto_region 2 with (fail)
  have HPbk2 := HS2.f1
  refine wp_seq_text [] (StR.move (StR.no HPbk2)) ?_
  refine Seq.load rfl rfl rfl rfl (by repeat (first | exact mC | apply mT)) (n := 3) rfl (by kernel_rfl) ?_
  simp only [Act.put, nA, nB, nC]
  refine Seq.load rfl rfl rfl rfl (by repeat (first | exact mC | apply mT)) (n := 3) rfl (by kernel_rfl) ?_
  simp only [Act.put, nA, nB, nC]
  refine Seq.pure (v := .agg (VC t t)) rfl rfl (fun w => bld_Span rfl rfl rfl w) ?_
  simp only [Act.put, nA, nB, nC]
  refine Seq.store rfl rfl rfl rfl rfl (by repeat (first | exact rS | refine rN (by assumption) ?_)) (n := 6) rfl rfl (by kernel_rfl) (VC_one _ _) ?_
  simp only [Act.put, nA, nB, nC]
  refine Seq.done fun ws3 hws => ?_
  have HS3 := hws.list1 (p := bk2) (by repeat (first | exact rS | refine rN (by assumption) ?_))
  clear HS2 hws HPbk2
  go_wp2_with fail
  exact ret_own rfl rfl rfl HS3 (by repeat (first | exact mC | apply mT)) (n := 6) rfl (by kernel_rfl) ⟨rfl, HS3.below⟩
set_option maxHeartbeats 2000000 in
set_option maxRecDepth 20000 in
theorem sgood_w {k : Nat} {al ah : Rat} {ag : Bool} {a1 a2 : RT} {z0 : Bool} {W : World} {l : List Own} (hT : Tab W) (Za : RawS k al ah ag a1 a2) (hz0 : ag = z0) (hk0 : 2 ≤ k) (hk : k ≤ 1000000000000) (w : World) (h : St W l w) :
    Calls Tryd.prog 64 #[.agg (SW a1 a2)] w fun e w' => e = .returned (.bool z0) ∧ Below w.heap.size w w' := by
  subst hz0
  have HT := Lib.hid (tabS hT h); clear hT h
  have Z_a := Lib.hid Za; clear Za
  obtain ⟨x, gx, y, gy, hx, hy, hg, -⟩ := Z_a.out.parts
  have hsp : gx = false ∨ (gx = true ∧ gy = false) ∨ (gx = true ∧ gy = true) := by cases gx <;> cases gy <;> simp
  clear Z_a
  rcases hsp with rfl | ⟨rfl, rfl⟩ | ⟨rfl, rfl⟩
  · subst hg
    have HX := Lib.hid hx; clear hx
    have HY := Lib.hid hy; clear hy
    go_enter Tryd.func64, Tryd.ntmps64
    have HS : St w [] w := St.start
    go_upto_region 0 with (fail)
    refine wp_seq_text [] (StR.no HS) ?_
    refine Seq.box rfl rfl rfl (v := .agg (SW a1 a2)) (cs := SW a1 a2) rfl rfl ?_
    intro bk1 _ _ hbk1_r
    simp only [Act.put, nA, nB, nC]
    refine Seq.pure rfl rfl (by intro w; go_simp; try rfl) ?_
    simp only [Act.put, nA, nB, nC]
    refine Seq.done fun ws1 hws => ?_
    have HS1 := hws.list1 (p := bk1) (by repeat (first | exact rS | refine rN (by assumption) ?_))
    clear HS hws
    go_upto_region 1 with (fail)
    refine wp_seq_text [] (StR.no HS1) ?_
    refine Seq.pure rfl rfl (by intro w; go_simp; try rfl) ?_
    simp only [Act.put, nA, nB, nC]
    refine Seq.loadAt rfl rfl rfl rfl (by repeat (first | exact mC | apply mT)) (n := 3) (cs' := RT.c a1) (Nat.le_of_ble_eq_true rfl) (by kernel_rfl) rfl ?_
    simp only [Act.put, nA, nB, nC]
    refine Seq.call rfl rfl rfl rfl (by kernel_rfl) (good_w (k := (1 * k + 2)) HT.out (HX.out.more (by omega)) (by omega)) ?_
    simp only [Act.put, nA, nB, nC]
    refine Seq.pure rfl rfl (by intro w; go_simp; try rfl) ?_
    simp only [Act.put, nA, nB, nC]
    iterate 3 (refine Seq.nw rfl ?_; simp only [Act.put, nA, nB, nC])
    iterate 2 (refine Seq.pure rfl rfl (by intro w; go_simp; try rfl) ?_; simp only [Act.put, nA, nB, nC])
    iterate 6 (refine Seq.nw rfl ?_; simp only [Act.put, nA, nB, nC])
    iterate 2 (refine Seq.pure rfl rfl (by intro w; go_simp; try rfl) ?_; simp only [Act.put, nA, nB, nC])
    refine Seq.done fun ws2 hws => ?_
    have HS2 := hws.st
    clear HS1 hws
    go_wp2_with fail
    go_ret
    exact ⟨rfl, HS2.below⟩
  · subst hg
    have HX := Lib.hid hx; clear hx
    have HY := Lib.hid hy; clear hy
    go_enter Tryd.func64, Tryd.ntmps64
    have HS : St w [] w := St.start
    go_upto_region 0 with (fail)
    refine wp_seq_text [] (StR.no HS) ?_
    refine Seq.box rfl rfl rfl (v := .agg (SW a1 a2)) (cs := SW a1 a2) rfl rfl ?_
    intro bk1 _ _ hbk1_r
    simp only [Act.put, nA, nB, nC]
    refine Seq.pure rfl rfl (by intro w; go_simp; try rfl) ?_
    simp only [Act.put, nA, nB, nC]
    refine Seq.done fun ws1 hws => ?_
    have HS1 := hws.list1 (p := bk1) (by repeat (first | exact rS | refine rN (by assumption) ?_))
    clear HS hws
    go_upto_region 1 with (fail)
    refine wp_seq_text [] (StR.no HS1) ?_
    refine Seq.pure rfl rfl (by intro w; go_simp; try rfl) ?_
    simp only [Act.put, nA, nB, nC]
    refine Seq.loadAt rfl rfl rfl rfl (by repeat (first | exact mC | apply mT)) (n := 3) (cs' := RT.c a1) (Nat.le_of_ble_eq_true rfl) (by kernel_rfl) rfl ?_
    simp only [Act.put, nA, nB, nC]
    refine Seq.call rfl rfl rfl rfl (by kernel_rfl) (good_w (k := (1 * k + 2)) HT.out (HX.out.more (by omega)) (by omega)) ?_
    simp only [Act.put, nA, nB, nC]
    iterate 2 (refine Seq.pure rfl rfl (by intro w; go_simp; try rfl) ?_; simp only [Act.put, nA, nB, nC])
    refine Seq.loadAt rfl rfl rfl rfl (by repeat (first | exact mC | apply mT)) (n := 3) (cs' := RT.c a2) (Nat.le_of_ble_eq_true rfl) (by kernel_rfl) rfl ?_
    simp only [Act.put, nA, nB, nC]
    refine Seq.call rfl rfl rfl rfl (by kernel_rfl) (good_w (k := (1 * k + 2)) HT.out (HY.out.more (by omega)) (by omega)) ?_
    simp only [Act.put, nA, nB, nC]
    iterate 2 (refine Seq.pure rfl rfl (by intro w; go_simp; try rfl) ?_; simp only [Act.put, nA, nB, nC])
    iterate 6 (refine Seq.nw rfl ?_; simp only [Act.put, nA, nB, nC])
    iterate 2 (refine Seq.pure rfl rfl (by intro w; go_simp; try rfl) ?_; simp only [Act.put, nA, nB, nC])
    refine Seq.done fun ws2 hws => ?_
    have HS2 := hws.st
    clear HS1 hws
    go_wp2_with fail
    go_ret
    exact ⟨rfl, HS2.below⟩
  · obtain ⟨vc, hvc, hvr⟩ : ∃ v, cmpQ x y = v ∧ decide (v ≤ 0) = decide (cmpQ x y ≤ 0) := ⟨_, rfl, rfl⟩
    rw [← hvr] at hg
    have HVC := Lib.hid hvc; clear hvc hvr
    subst hg
    have HX := Lib.hid hx; clear hx
    have HY := Lib.hid hy; clear hy
    go_enter Tryd.func64, Tryd.ntmps64
    have HS : St w [] w := St.start
    go_upto_region 0 with (fail)
    refine wp_seq_text [] (StR.no HS) ?_
    refine Seq.box rfl rfl rfl (v := .agg (SW a1 a2)) (cs := SW a1 a2) rfl rfl ?_
    intro bk1 _ _ hbk1_r
    simp only [Act.put, nA, nB, nC]
    refine Seq.pure rfl rfl (by intro w; go_simp; try rfl) ?_
    simp only [Act.put, nA, nB, nC]
    refine Seq.done fun ws1 hws => ?_
    have HS1 := hws.list1 (p := bk1) (by repeat (first | exact rS | refine rN (by assumption) ?_))
    clear HS hws
    go_upto_region 1 with (fail)
    refine wp_seq_text [] (StR.no HS1) ?_
    refine Seq.pure rfl rfl (by intro w; go_simp; try rfl) ?_
    simp only [Act.put, nA, nB, nC]
    refine Seq.loadAt rfl rfl rfl rfl (by repeat (first | exact mC | apply mT)) (n := 3) (cs' := RT.c a1) (Nat.le_of_ble_eq_true rfl) (by kernel_rfl) rfl ?_
    simp only [Act.put, nA, nB, nC]
    refine Seq.call rfl rfl rfl rfl (by kernel_rfl) (good_w (k := (1 * k + 2)) HT.out (HX.out.more (by omega)) (by omega)) ?_
    simp only [Act.put, nA, nB, nC]
    iterate 2 (refine Seq.pure rfl rfl (by intro w; go_simp; try rfl) ?_; simp only [Act.put, nA, nB, nC])
    refine Seq.loadAt rfl rfl rfl rfl (by repeat (first | exact mC | apply mT)) (n := 3) (cs' := RT.c a2) (Nat.le_of_ble_eq_true rfl) (by kernel_rfl) rfl ?_
    simp only [Act.put, nA, nB, nC]
    refine Seq.call rfl rfl rfl rfl (by kernel_rfl) (good_w (k := (1 * k + 2)) HT.out (HY.out.more (by omega)) (by omega)) ?_
    simp only [Act.put, nA, nB, nC]
    iterate 3 (refine Seq.pure rfl rfl (by intro w; go_simp; try rfl) ?_; simp only [Act.put, nA, nB, nC])
    refine Seq.loadAt rfl rfl rfl rfl (by repeat (first | exact mC | apply mT)) (n := 3) (cs' := RT.c a1) (Nat.le_of_ble_eq_true rfl) (by kernel_rfl) rfl ?_
    simp only [Act.put, nA, nB, nC]
    refine Seq.pure rfl rfl (by intro w; go_simp; try rfl) ?_
    simp only [Act.put, nA, nB, nC]
    refine Seq.loadAt rfl rfl rfl rfl (by repeat (first | exact mC | apply mT)) (n := 3) (cs' := RT.c a2) (Nat.le_of_ble_eq_true rfl) (by kernel_rfl) rfl ?_
    simp only [Act.put, nA, nB, nC]
    refine Seq.call rfl rfl rfl rfl (by kernel_rfl) (cmp_w (k := (1 * k + 2)) HT.out (HX.out.more (by omega)) (HY.out.more (by omega)) HVC.out (by omega)) ?_
    simp only [Act.put, nA, nB, nC]
    iterate 3 (refine Seq.pure rfl rfl (by intro w; go_simp; try rfl) ?_; simp only [Act.put, nA, nB, nC])
    refine Seq.done fun ws2 hws => ?_
    have HS2 := hws.st
    clear HS1 hws
    go_wp2_with fail
    go_ret
    exact ⟨rfl, HS2.below⟩
set_option maxHeartbeats 2000000 in
set_option maxRecDepth 20000 in
theorem sfit_w {k : Nat} {al ah : Rat} {ag : Bool} {a1 a2 : RT} {z0 : Rat} {z1 : Rat} {W : World} {l : List Own} (hT : Tab W) (Za : RawS k al ah ag a1 a2) (hz0 : al = z0) (hz1 : ah = z1) (hk0 : 2 ≤ k) (hk : k ≤ 999999999998) (w : World) (h : St W l w) :
    Calls Tryd.prog 69 #[.agg (SW a1 a2)] w fun e w' => e = .returned (.agg (VC z0 z1)) ∧ Below w.heap.size w w' := by
  subst hz0
  subst hz1
  have HT := Lib.hid (tabS hT h); clear hT h
  have Z_a := Lib.hid Za; clear Za
  have HZ := Lib.hid (Z_a.out.rz hk0)
  cases ag
  · obtain ⟨hE1, hE2⟩ := Z_a.out.no rfl
    have HG : Hid (false = false) := Lib.hid rfl
    have HR := Lib.hid (show VC 0 0 = VC al ah from by rw [hE1, hE2]); clear hE1 hE2
    go_enter Tryd.func69, Tryd.ntmps69
    have HS : St w [] w := St.start
    go_upto_region 0 with (fail)
    refine wp_seq_text [] (StR.no HS) ?_
    refine Seq.box rfl rfl rfl (v := .agg (SW a1 a2)) (cs := SW a1 a2) rfl rfl ?_
    intro bk1 _ _ hbk1_r
    simp only [Act.put, nA, nB, nC]
    refine Seq.alloc rfl rfl rfl (z := .agg (SW rz0 rz0)) (by kernel_rfl) rfl ?_
    intro bk2 _ _ hbk2_r
    obtain ⟨ne_bk2_bk1, hbk2_r⟩ := Reg.ne_of_put hbk2_r
    have ne_bk1_bk2 := Ne.symm ne_bk2_bk1
    simp only [Act.put, nA, nB, nC]
    refine Seq.done fun ws1 hws => ?_
    have HS1 := hws.list2 (p := bk1) (q := bk2) (by repeat (first | exact rS | refine rN (by assumption) ?_)) (by repeat (first | exact rS | refine rN (by assumption) ?_)) (by assumption)
    clear HS hws
    go_upto_region 1 with (fail)
    refine wp_seq_text [] (StR.no HS1) ?_
    refine Seq.load rfl rfl rfl rfl (by repeat (first | exact mC | apply mT)) (n := 6) rfl (by kernel_rfl) ?_
    simp only [Act.put, nA, nB, nC]
    refine Seq.call rfl rfl rfl rfl (by kernel_rfl) (sgood_w (k := (1 * k + 2)) (a1 := a1) (a2 := a2) HT.out (Z_a.out.more (by omega))  HG.out (by omega) (by omega)) ?_
    simp only [Act.put, nA, nB, nC]
    refine Seq.pure rfl rfl (by intro w; go_simp; try rfl) ?_
    simp only [Act.put, nA, nB, nC]
    refine Seq.done fun ws2 hws => ?_
    have HS2 := hws.st
    clear HS1 hws
    go_upto_region 2 with (fail)
    have HPbk2 := HS2.f1
    refine wp_seq_text [] (StR.move (StR.no HPbk2)) ?_
    refine Seq.call rfl rfl rfl rfl (by kernel_rfl) (of_q HT.out (by omega) (by omega) (show ((0 : Int) : Rat) = (0 : Rat) from rfl)) ?_
    simp only [Act.put, nA, nB, nC]
    refine Seq.call rfl rfl rfl rfl (by kernel_rfl) (sof_w (k := 2) (t_t := (rt (0 : Rat))) HT.out (RawT.rc ((show Rz 2 (0 : Rat) from Rz.lit (z := 0) rfl (by decide)).more (by omega)))  rfl rfl (by omega) (by omega)) ?_
    simp only [Act.put, nA, nB, nC]
    refine Seq.store rfl rfl rfl rfl rfl (by repeat (first | exact rS | refine rN (by assumption) ?_)) (n := 6) rfl rfl (by kernel_rfl) (VC_one _ _) ?_
    simp only [Act.put, nA, nB, nC]
    refine Seq.done fun ws3 hws => ?_
    have HS3 := hws.list1 (p := bk2) (by repeat (first | exact rS | refine rN (by assumption) ?_))
    clear HS2 hws HPbk2
    go_wp2_with fail
    exact ret_own rfl rfl rfl HS3 (by repeat (first | exact mC | apply mT)) (n := 6) rfl (by kernel_rfl) ⟨congrArg (fun c => Ending.returned (.agg c)) HR.out, HS3.below⟩
  · obtain ⟨hE1, hE2, hle⟩ := Z_a.out.yes
    have HG : Hid (true = true) := Lib.hid rfl
    go_enter Tryd.func69, Tryd.ntmps69
    have HS : St w [] w := St.start
    go_upto_region 0 with (fail)
    refine wp_seq_text [] (StR.no HS) ?_
    refine Seq.box rfl rfl rfl (v := .agg (SW a1 a2)) (cs := SW a1 a2) rfl rfl ?_
    intro bk1 _ _ hbk1_r
    simp only [Act.put, nA, nB, nC]
    refine Seq.alloc rfl rfl rfl (z := .agg (SW rz0 rz0)) (by kernel_rfl) rfl ?_
    intro bk2 _ _ hbk2_r
    obtain ⟨ne_bk2_bk1, hbk2_r⟩ := Reg.ne_of_put hbk2_r
    have ne_bk1_bk2 := Ne.symm ne_bk2_bk1
    simp only [Act.put, nA, nB, nC]
    refine Seq.done fun ws1 hws => ?_
    have HS1 := hws.list2 (p := bk1) (q := bk2) (by repeat (first | exact rS | refine rN (by assumption) ?_)) (by repeat (first | exact rS | refine rN (by assumption) ?_)) (by assumption)
    clear HS hws
    go_upto_region 1 with (fail)
    refine wp_seq_text [] (StR.no HS1) ?_
    refine Seq.load rfl rfl rfl rfl (by repeat (first | exact mC | apply mT)) (n := 6) rfl (by kernel_rfl) ?_
    simp only [Act.put, nA, nB, nC]
    refine Seq.call rfl rfl rfl rfl (by kernel_rfl) (sgood_w (k := (1 * k + 2)) (a1 := a1) (a2 := a2) HT.out (Z_a.out.more (by omega))  HG.out (by omega) (by omega)) ?_
    simp only [Act.put, nA, nB, nC]
    refine Seq.pure rfl rfl (by intro w; go_simp; try rfl) ?_
    simp only [Act.put, nA, nB, nC]
    refine Seq.done fun ws2 hws => ?_
    have HS2 := hws.st
    clear HS1 hws
    subst hE1 hE2
    go_upto_region 3 with (fail)
    have HPbk2 := HS2.f1
    refine wp_seq_text [] (StR.move (StR.no HPbk2)) ?_
    refine Seq.load rfl rfl rfl rfl (by repeat (first | exact mC | apply mT)) (n := 6) rfl (by kernel_rfl) ?_
    simp only [Act.put, nA, nB, nC]
    refine Seq.store rfl rfl rfl rfl rfl (by repeat (first | exact rS | refine rN (by assumption) ?_)) (n := 6) rfl rfl (by kernel_rfl) (VC_one _ _) ?_
    simp only [Act.put, nA, nB, nC]
    refine Seq.done fun ws3 hws => ?_
    have HS3 := hws.list1 (p := bk2) (by repeat (first | exact rS | refine rN (by assumption) ?_))
    clear HS2 hws HPbk2
    go_wp2_with fail
    exact ret_own rfl rfl rfl HS3 (by repeat (first | exact mC | apply mT)) (n := 6) rfl (by kernel_rfl) ⟨rfl, HS3.below⟩
set_option maxHeartbeats 2000000 in
set_option maxRecDepth 20000 in
theorem norm_w {k : Nat} {al ah : Rat} {ag : Bool} {a1 a2 : RT} {z0 : Rat} {z1 : Rat} {W : World} {l : List Own} (hT : Tab W) (Za : RawS k al ah ag a1 a2) (hz0 : al = z0) (hz1 : ah = z1) (hk0 : 2 ≤ k) (hk : k ≤ 999999999998) (w : World) (h : St W l w) :
    Calls Tryd.prog 102 #[.agg (SW a1 a2)] w fun e w' => e = .returned (.agg (VC z0 z1)) ∧ Below w.heap.size w w' := by
  subst hz0
  subst hz1
  have HT := Lib.hid (tabS hT h); clear hT h
  have Z_a := Lib.hid Za; clear Za
  have HZ := Lib.hid (Z_a.out.rz hk0)
  cases ag
  · obtain ⟨hE1, hE2⟩ := Z_a.out.no rfl
    have HG : Hid (false = false) := Lib.hid rfl
    have HR := Lib.hid (show VC 0 0 = VC al ah from by rw [hE1, hE2]); clear hE1 hE2
    go_enter Tryd.func102, Tryd.ntmps102
    have HS : St w [] w := St.start
    go_upto_region 0 with (fail)
    refine wp_seq_text [] (StR.no HS) ?_
    refine Seq.box rfl rfl rfl (v := .agg (SW a1 a2)) (cs := SW a1 a2) rfl rfl ?_
    intro bk1 _ _ hbk1_r
    simp only [Act.put, nA, nB, nC]
    refine Seq.alloc rfl rfl rfl (z := .agg (SW rz0 rz0)) (by kernel_rfl) rfl ?_
    intro bk2 _ _ hbk2_r
    obtain ⟨ne_bk2_bk1, hbk2_r⟩ := Reg.ne_of_put hbk2_r
    have ne_bk1_bk2 := Ne.symm ne_bk2_bk1
    simp only [Act.put, nA, nB, nC]
    refine Seq.done fun ws1 hws => ?_
    have HS1 := hws.list2 (p := bk1) (q := bk2) (by repeat (first | exact rS | refine rN (by assumption) ?_)) (by repeat (first | exact rS | refine rN (by assumption) ?_)) (by assumption)
    clear HS hws
    go_upto_region 1 with (fail)
    refine wp_seq_text [] (StR.no HS1) ?_
    refine Seq.load rfl rfl rfl rfl (by repeat (first | exact mC | apply mT)) (n := 6) rfl (by kernel_rfl) ?_
    simp only [Act.put, nA, nB, nC]
    refine Seq.call rfl rfl rfl rfl (by kernel_rfl) (sgood_w (k := (1 * k + 2)) (a1 := a1) (a2 := a2) HT.out (Z_a.out.more (by omega))  HG.out (by omega) (by omega)) ?_
    simp only [Act.put, nA, nB, nC]
    refine Seq.done fun ws2 hws => ?_
    have HS2 := hws.st
    clear HS1 hws
    go_upto_region 3 with (fail)
    have HPbk2 := HS2.f1
    refine wp_seq_text [] (StR.move (StR.no HPbk2)) ?_
    refine Seq.call rfl rfl rfl rfl (by kernel_rfl) (of_q HT.out (by omega) (by omega) (show ((0 : Int) : Rat) = (0 : Rat) from rfl)) ?_
    simp only [Act.put, nA, nB, nC]
    refine Seq.call rfl rfl rfl rfl (by kernel_rfl) (sof_w (k := 2) (t_t := (rt (0 : Rat))) HT.out (RawT.rc ((show Rz 2 (0 : Rat) from Rz.lit (z := 0) rfl (by decide)).more (by omega)))  rfl rfl (by omega) (by omega)) ?_
    simp only [Act.put, nA, nB, nC]
    refine Seq.store rfl rfl rfl rfl rfl (by repeat (first | exact rS | refine rN (by assumption) ?_)) (n := 6) rfl rfl (by kernel_rfl) (VC_one _ _) ?_
    simp only [Act.put, nA, nB, nC]
    refine Seq.done fun ws3 hws => ?_
    have HS3 := hws.list1 (p := bk2) (by repeat (first | exact rS | refine rN (by assumption) ?_))
    clear HS2 hws HPbk2
    go_wp2_with fail
    exact ret_own rfl rfl rfl HS3 (by repeat (first | exact mC | apply mT)) (n := 6) rfl (by kernel_rfl) ⟨congrArg (fun c => Ending.returned (.agg c)) HR.out, HS3.below⟩
  · obtain ⟨hE1, hE2, hle⟩ := Z_a.out.yes
    have HG : Hid (true = true) := Lib.hid rfl
    go_enter Tryd.func102, Tryd.ntmps102
    have HS : St w [] w := St.start
    go_upto_region 0 with (fail)
    refine wp_seq_text [] (StR.no HS) ?_
    refine Seq.box rfl rfl rfl (v := .agg (SW a1 a2)) (cs := SW a1 a2) rfl rfl ?_
    intro bk1 _ _ hbk1_r
    simp only [Act.put, nA, nB, nC]
    refine Seq.alloc rfl rfl rfl (z := .agg (SW rz0 rz0)) (by kernel_rfl) rfl ?_
    intro bk2 _ _ hbk2_r
    obtain ⟨ne_bk2_bk1, hbk2_r⟩ := Reg.ne_of_put hbk2_r
    have ne_bk1_bk2 := Ne.symm ne_bk2_bk1
    simp only [Act.put, nA, nB, nC]
    refine Seq.done fun ws1 hws => ?_
    have HS1 := hws.list2 (p := bk1) (q := bk2) (by repeat (first | exact rS | refine rN (by assumption) ?_)) (by repeat (first | exact rS | refine rN (by assumption) ?_)) (by assumption)
    clear HS hws
    go_upto_region 1 with (fail)
    refine wp_seq_text [] (StR.no HS1) ?_
    refine Seq.load rfl rfl rfl rfl (by repeat (first | exact mC | apply mT)) (n := 6) rfl (by kernel_rfl) ?_
    simp only [Act.put, nA, nB, nC]
    refine Seq.call rfl rfl rfl rfl (by kernel_rfl) (sgood_w (k := (1 * k + 2)) (a1 := a1) (a2 := a2) HT.out (Z_a.out.more (by omega))  HG.out (by omega) (by omega)) ?_
    simp only [Act.put, nA, nB, nC]
    refine Seq.done fun ws2 hws => ?_
    have HS2 := hws.st
    clear HS1 hws
    subst hE1 hE2
    go_upto_region 2 with (fail)
    have HPbk2 := HS2.f1
    refine wp_seq_text [] (StR.move (StR.no HPbk2)) ?_
    refine Seq.load rfl rfl rfl rfl (by repeat (first | exact mC | apply mT)) (n := 6) rfl (by kernel_rfl) ?_
    simp only [Act.put, nA, nB, nC]
    refine Seq.store rfl rfl rfl rfl rfl (by repeat (first | exact rS | refine rN (by assumption) ?_)) (n := 6) rfl rfl (by kernel_rfl) (VC_one _ _) ?_
    simp only [Act.put, nA, nB, nC]
    refine Seq.done fun ws3 hws => ?_
    have HS3 := hws.list1 (p := bk2) (by repeat (first | exact rS | refine rN (by assumption) ?_))
    clear HS2 hws HPbk2
    go_wp2_with fail
    exact ret_own rfl rfl rfl HS3 (by repeat (first | exact mC | apply mT)) (n := 6) rfl (by kernel_rfl) ⟨rfl, HS3.below⟩
set_option maxHeartbeats 2000000 in
set_option maxRecDepth 20000 in
theorem ends_w {k : Nat} {al ah : Rat} {ag : Bool} {a1 a2 : RT} {z0 : Rat} {z1 : Rat} {W : World} {l : List Own} (hT : Tab W) (Za : RawS k al ah ag a1 a2) (hz0 : al = z0) (hz1 : ah = z1) (hk0 : 2 ≤ k) (hk : k ≤ 999999999998) (w : World) (h : St W l w) :
    Calls Tryd.prog 26 #[.agg (SW a1 a2)] w fun e w' => e = .returned (.agg (VC z0 z1)) ∧ Below w.heap.size w w' := by
  subst hz0
  subst hz1
  have HT := Lib.hid (tabS hT h); clear hT h
  have Z_a := Lib.hid Za; clear Za
  have HZ := Lib.hid (Z_a.out.rz hk0)
  cases ag
  · obtain ⟨hE1, hE2⟩ := Z_a.out.no rfl
    have HG : Hid (false = false) := Lib.hid rfl
    have HR := Lib.hid (show VC 0 0 = VC al ah from by rw [hE1, hE2]); clear hE1 hE2
    go_enter Tryd.func26, Tryd.ntmps26
    have HS : St w [] w := St.start
    go_upto_region 0 with (fail)
    refine wp_seq_text [] (StR.no HS) ?_
    refine Seq.box rfl rfl rfl (v := .agg (SW a1 a2)) (cs := SW a1 a2) rfl rfl ?_
    intro bk1 _ _ hbk1_r
    simp only [Act.put, nA, nB, nC]
    refine Seq.alloc rfl rfl rfl (z := .agg (SW rz0 rz0)) (by kernel_rfl) rfl ?_
    intro bk2 _ _ hbk2_r
    obtain ⟨ne_bk2_bk1, hbk2_r⟩ := Reg.ne_of_put hbk2_r
    have ne_bk1_bk2 := Ne.symm ne_bk2_bk1
    simp only [Act.put, nA, nB, nC]
    refine Seq.done fun ws1 hws => ?_
    have HS1 := hws.list2 (p := bk1) (q := bk2) (by repeat (first | exact rS | refine rN (by assumption) ?_)) (by repeat (first | exact rS | refine rN (by assumption) ?_)) (by assumption)
    clear HS hws
    go_upto_region 1 with (fail)
    refine wp_seq_text [] (StR.no HS1) ?_
    refine Seq.load rfl rfl rfl rfl (by repeat (first | exact mC | apply mT)) (n := 6) rfl (by kernel_rfl) ?_
    simp only [Act.put, nA, nB, nC]
    refine Seq.call rfl rfl rfl rfl (by kernel_rfl) (sgood_w (k := (1 * k + 2)) (a1 := a1) (a2 := a2) HT.out (Z_a.out.more (by omega))  HG.out (by omega) (by omega)) ?_
    simp only [Act.put, nA, nB, nC]
    refine Seq.pure rfl rfl (by intro w; go_simp; try rfl) ?_
    simp only [Act.put, nA, nB, nC]
    refine Seq.done fun ws2 hws => ?_
    have HS2 := hws.st
    clear HS1 hws
    go_upto_region 2 with (fail)
    have HPbk2 := HS2.f1
    refine wp_seq_text [] (StR.move (StR.no HPbk2)) ?_
    refine Seq.call rfl rfl rfl rfl (by kernel_rfl) (of_q HT.out (by omega) (by omega) (show ((0 : Int) : Rat) = (0 : Rat) from rfl)) ?_
    simp only [Act.put, nA, nB, nC]
    refine Seq.call rfl rfl rfl rfl (by kernel_rfl) (of_q HT.out (by omega) (by omega) (show ((0 : Int) : Rat) = (0 : Rat) from rfl)) ?_
    simp only [Act.put, nA, nB, nC]
    refine Seq.pure (v := .agg (VC (0 : Rat) (0 : Rat))) rfl rfl (fun w => bld_RSpan (x := (rt (0 : Rat))) (y := (rt (0 : Rat))) rfl rfl rfl w) ?_
    simp only [Act.put, nA, nB, nC]
    refine Seq.store rfl rfl rfl rfl rfl (by repeat (first | exact rS | refine rN (by assumption) ?_)) (n := 6) rfl rfl (by kernel_rfl) (VC_one _ _) ?_
    simp only [Act.put, nA, nB, nC]
    refine Seq.done fun ws3 hws => ?_
    have HS3 := hws.list1 (p := bk2) (by repeat (first | exact rS | refine rN (by assumption) ?_))
    clear HS2 hws HPbk2
    go_wp2_with fail
    exact ret_own rfl rfl rfl HS3 (by repeat (first | exact mC | apply mT)) (n := 6) rfl (by kernel_rfl) ⟨congrArg (fun c => Ending.returned (.agg c)) HR.out, HS3.below⟩
  · obtain ⟨hE1, hE2, hle⟩ := Z_a.out.yes
    have HG : Hid (true = true) := Lib.hid rfl
    go_enter Tryd.func26, Tryd.ntmps26
    have HS : St w [] w := St.start
    go_upto_region 0 with (fail)
    refine wp_seq_text [] (StR.no HS) ?_
    refine Seq.box rfl rfl rfl (v := .agg (SW a1 a2)) (cs := SW a1 a2) rfl rfl ?_
    intro bk1 _ _ hbk1_r
    simp only [Act.put, nA, nB, nC]
    refine Seq.alloc rfl rfl rfl (z := .agg (SW rz0 rz0)) (by kernel_rfl) rfl ?_
    intro bk2 _ _ hbk2_r
    obtain ⟨ne_bk2_bk1, hbk2_r⟩ := Reg.ne_of_put hbk2_r
    have ne_bk1_bk2 := Ne.symm ne_bk2_bk1
    simp only [Act.put, nA, nB, nC]
    refine Seq.done fun ws1 hws => ?_
    have HS1 := hws.list2 (p := bk1) (q := bk2) (by repeat (first | exact rS | refine rN (by assumption) ?_)) (by repeat (first | exact rS | refine rN (by assumption) ?_)) (by assumption)
    clear HS hws
    go_upto_region 1 with (fail)
    refine wp_seq_text [] (StR.no HS1) ?_
    refine Seq.load rfl rfl rfl rfl (by repeat (first | exact mC | apply mT)) (n := 6) rfl (by kernel_rfl) ?_
    simp only [Act.put, nA, nB, nC]
    refine Seq.call rfl rfl rfl rfl (by kernel_rfl) (sgood_w (k := (1 * k + 2)) (a1 := a1) (a2 := a2) HT.out (Z_a.out.more (by omega))  HG.out (by omega) (by omega)) ?_
    simp only [Act.put, nA, nB, nC]
    refine Seq.pure rfl rfl (by intro w; go_simp; try rfl) ?_
    simp only [Act.put, nA, nB, nC]
    refine Seq.done fun ws2 hws => ?_
    have HS2 := hws.st
    clear HS1 hws
    subst hE1 hE2
    go_upto_region 3 with (fail)
    have HPbk2 := HS2.f1
    refine wp_seq_text [] (StR.move (StR.no HPbk2)) ?_
    refine Seq.pure rfl rfl (by intro w; go_simp; try rfl) ?_
    simp only [Act.put, nA, nB, nC]
    refine Seq.loadAt rfl rfl rfl rfl (by repeat (first | exact mC | apply mT)) (n := 3) (cs' := RC al) (Nat.le_of_ble_eq_true rfl) (by kernel_rfl) rfl ?_
    simp only [Act.put, nA, nB, nC]
    refine Seq.pure rfl rfl (by intro w; go_simp; try rfl) ?_
    simp only [Act.put, nA, nB, nC]
    refine Seq.loadAt rfl rfl rfl rfl (by repeat (first | exact mC | apply mT)) (n := 3) (cs' := RC ah) (Nat.le_of_ble_eq_true rfl) (by kernel_rfl) rfl ?_
    simp only [Act.put, nA, nB, nC]
    refine Seq.pure (v := .agg (VC al ah)) rfl rfl (fun w => bld_RSpan (x := (rt al)) (y := (rt ah)) rfl rfl rfl w) ?_
    simp only [Act.put, nA, nB, nC]
    refine Seq.store rfl rfl rfl rfl rfl (by repeat (first | exact rS | refine rN (by assumption) ?_)) (n := 6) rfl rfl (by kernel_rfl) (VC_one _ _) ?_
    simp only [Act.put, nA, nB, nC]
    refine Seq.done fun ws3 hws => ?_
    have HS3 := hws.list1 (p := bk2) (by repeat (first | exact rS | refine rN (by assumption) ?_))
    clear HS2 hws HPbk2
    go_wp2_with fail
    exact ret_own rfl rfl rfl HS3 (by repeat (first | exact mC | apply mT)) (n := 6) rfl (by kernel_rfl) ⟨rfl, HS3.below⟩
end Go.Proofs.YtoejojfjiikogaaDoor
