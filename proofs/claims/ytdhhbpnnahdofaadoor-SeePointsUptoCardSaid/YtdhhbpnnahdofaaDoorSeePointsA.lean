/- SeePoints, whatever numbers come in. -/
import Derived.Test.YtdhhbpnnahdofaaDoorSpD
import Derived.LoopN
import Derived.Deep.LoopGhost

namespace Go.Proofs.YtdhhbpnnahdofaaDoor
open Go.RowKit
set_option linter.unusedVariables false
set_option linter.unusedSimpArgs false

set_option maxHeartbeats 4000000 in
set_option maxRecDepth 20000 in
theorem seePoints_law {k n c : Nat} {pxl pxh pyl pyh ptl pth : Rat} {pxg pyg ptg : Bool} {px1 px2 py1 py2 pt1 pt2 : RT} {A : Option Addr} {vx vy : Nat → Rat} {W : World} {l : List Own} (hT : Tab W) (Zpx : RawS k pxl pxh pxg px1 px2) (Zpy : RawS k pyl pyh pyg py1 py2) (Zpt : RawS k ptl pth ptg pt1 pt2) (hn : n ≤ 1000000000) (hvi : VIn W A n c k vx vy) {v1 v2 : Rat} {v1_g v2_g : Bool} {v1_t v2_t : RT} (Zv1 : RawT k v1 v1_g v1_t) (Zv2 : RawT k v2 v2_g v2_t) (hk0 : 2 ≤ k) (hk : k ≤ 999999998) (w : World) (h : St W l w) :
    Calls Tryd.prog 5 #[.agg (PW px1 px2 py1 py2 pt1 pt2), .agg (SW v1_t v2_t), .slice A n c] w fun e w' => e = .returned (.bool true) ∧ Below w.heap.size w w' := by
  have HVI := Lib.hid (hvi.next h); clear hvi
  have HN := Lib.hid hn
  have HT := Lib.hid (tabS hT h); clear hT h
  have Z_px := Lib.hid Zpx; clear Zpx
  have Z_py := Lib.hid Zpy; clear Zpy
  have Z_pt := Lib.hid Zpt; clear Zpt
  have Z_v1 := Lib.hid Zv1; clear Zv1
  have Z_v2 := Lib.hid Zv2; clear Zv2
  obtain ⟨q0, hq0⟩ : ∃ z, bX0 pxl ptl pth v1 v2 = z := ⟨_, rfl⟩
  obtain ⟨q1, hq1⟩ : ∃ z, bY0 pyl ptl pth v1 v2 = z := ⟨_, rfl⟩
  obtain ⟨q2, hq2⟩ : ∃ z, bX1 pxh ptl pth v1 v2 = z := ⟨_, rfl⟩
  obtain ⟨q3, hq3⟩ : ∃ z, bY1 pyh ptl pth v1 v2 = z := ⟨_, rfl⟩
  have HQE := Lib.hid (show bX0 pxl ptl pth v1 v2 = q0 ∧ bY0 pyl ptl pth v1 v2 = q1 ∧ bX1 pxh ptl pth v1 v2 = q2 ∧ bY1 pyh ptl pth v1 v2 = q3 from ⟨hq0, hq1, hq2, hq3⟩)
  have Z_q0 := Lib.hid (show Rz (74 * k + 100) q0 from hq0 ▸ (b_rz (k := k) (Z_px.out.rz (by omega)).1 (by exact (Z_pt.out.rz (by omega)).1) (by exact (Z_pt.out.rz (by omega)).2) Z_v1.out.rz Z_v2.out.rz).1)
  have Z_q1 := Lib.hid (show Rz (74 * k + 100) q1 from hq1 ▸ (b_rz (k := k) (Z_py.out.rz (by omega)).1 (by exact (Z_pt.out.rz (by omega)).1) (by exact (Z_pt.out.rz (by omega)).2) Z_v1.out.rz Z_v2.out.rz).2.2.1)
  have Z_q2 := Lib.hid (show Rz (74 * k + 100) q2 from hq2 ▸ (b_rz (k := k) (Z_px.out.rz (by omega)).2 (by exact (Z_pt.out.rz (by omega)).1) (by exact (Z_pt.out.rz (by omega)).2) Z_v1.out.rz Z_v2.out.rz).2.1)
  have Z_q3 := Lib.hid (show Rz (74 * k + 100) q3 from hq3 ▸ (b_rz (k := k) (Z_py.out.rz (by omega)).2 (by exact (Z_pt.out.rz (by omega)).1) (by exact (Z_pt.out.rz (by omega)).2) Z_v1.out.rz Z_v2.out.rz).2.2.2)
  clear hq0 hq1 hq2 hq3
  go_enter Tryd.func5, Tryd.ntmps5
  have HS : St w [] w := St.start
  go_upto_region 0 with (fail)
  refine wp_seq_text [] (StR.no HS) ?_
  refine Seq.box rfl rfl rfl (v := .agg (PW px1 px2 py1 py2 pt1 pt2)) (cs := PW px1 px2 py1 py2 pt1 pt2) rfl rfl ?_
  intro bk3 _ _ hbk3_r
  simp only [Act.put, nA, nB, nC]
  refine Seq.box rfl rfl rfl (v := .agg (SW v1_t v2_t)) (cs := SW v1_t v2_t) rfl rfl ?_
  intro bk4 _ _ hbk4_r
  obtain ⟨ne_bk4_bk3, hbk4_r⟩ := Reg.ne_of_put hbk4_r
  have ne_bk3_bk4 := Ne.symm ne_bk4_bk3
  simp only [Act.put, nA, nB, nC]
  refine Seq.pure rfl rfl (by intro w; go_simp; try rfl) ?_
  simp only [Act.put, nA, nB, nC]
  refine Seq.done fun ws1 hws => ?_
  have HS1 := hws.list2 (p := bk3) (q := bk4) (by repeat (first | exact rS | refine rN (by assumption) ?_)) (by repeat (first | exact rS | refine rN (by assumption) ?_)) (by assumption)
  clear HS hws
  go_upto_region 1 with (fail)
  refine wp_seq_text [] (StR.no HS1) ?_
  refine Seq.load rfl rfl rfl rfl (by repeat (first | exact mC | apply mT)) (n := 18) rfl (by kernel_rfl) ?_
  simp only [Act.put, nA, nB, nC]
  refine Seq.call rfl rfl rfl rfl (by kernel_rfl) (poseOf_w (k := (1 * k + 2)) (px1 := px1) (px2 := px2) (py1 := py1) (py2 := py2) (pt1 := pt1) (pt2 := pt2) HT.out (Z_px.out.more (by omega)) (Z_py.out.more (by omega)) (Z_pt.out.more (by omega))  rfl rfl rfl rfl rfl rfl (by omega) (by omega)) ?_
  simp only [Act.put, nA, nB, nC]
  refine Seq.alloc rfl rfl rfl (z := .agg (PW rz0 rz0 rz0 rz0 rz0 rz0)) (by kernel_rfl) rfl ?_
  intro bk7 _ _ hbk7_r
  simp only [Act.put, nA, nB, nC]
  refine Seq.store rfl rfl rfl rfl rfl (by repeat (first | exact rS | refine rN (by assumption) ?_)) (n := 18) rfl rfl (by kernel_rfl) (PW_one _ _ _ _ _ _) ?_
  simp only [Act.put, nA, nB, nC]
  refine Seq.done fun ws2 hws => ?_
  have HS2 := hws.list1 (p := bk7) (by repeat (first | exact rS | refine rN (by assumption) ?_))
  clear HS1 hws
  go_upto_region 2 with (fail)
  refine wp_seq_text [] (StR.no HS2) ?_
  refine Seq.pure rfl rfl (by intro w; go_simp; try rfl) ?_
  simp only [Act.put, nA, nB, nC]
  refine Seq.done fun ws3 hws => ?_
  have HS3 := hws.st
  clear HS2 hws
  go_upto_region 3 with (fail)
  refine wp_seq [] (by kernel_rfl) (by kernel_rfl) Reg.fin_no (StR.no HS3) ?_
  refine Seq.call rfl rfl rfl rfl (by kernel_rfl) (seen_q HT.out) ?_
  simp only [Act.put, nA, nB, nC]
  iterate 3 (refine Seq.pure rfl rfl (by intro w; go_simp; try rfl) ?_; simp only [Act.put, nA, nB, nC])
  refine Seq.load rfl rfl rfl rfl (by repeat (first | exact mC | apply mT)) (n := 18) rfl (by kernel_rfl) ?_
  simp only [Act.put, nA, nB, nC]
  refine Seq.load rfl rfl rfl rfl (by repeat (first | exact mC | apply mT)) (n := 6) rfl (by kernel_rfl) ?_
  simp only [Act.put, nA, nB, nC]
  refine Seq.call rfl rfl rfl rfl (by kernel_rfl) (point_w (k := (1 * k + 2)) (px1 := px1) (px2 := px2) (py1 := py1) (py2 := py2) (pt1 := pt1) (pt2 := pt2) (v1_t := v1_t) (v2_t := v2_t) HT.out (Z_px.out.more (by omega)) (Z_py.out.more (by omega)) (Z_pt.out.more (by omega)) (Z_v1.out.more (by omega)) (Z_v2.out.more (by omega))  HQE.out.1 HQE.out.2.1 HQE.out.2.2.1 HQE.out.2.2.2 (by omega) (by omega)) ?_
  simp only [Act.put, nA, nB, nC]
  refine Seq.load rfl rfl rfl rfl (by repeat (first | exact mC | apply mT)) (n := 18) rfl (by kernel_rfl) ?_
  simp only [Act.put, nA, nB, nC]
  refine Seq.load rfl rfl rfl rfl (by repeat (first | exact mC | apply mT)) (n := 6) rfl (by kernel_rfl) ?_
  simp only [Act.put, nA, nB, nC]
  refine Seq.call rfl rfl rfl rfl (by kernel_rfl) (pointOf_w (k := (1 * k + 2)) (v1_t := v1_t) (v2_t := v2_t) HT.out ((Z_px.out.rz (by omega)).1.more (by omega)) ((Z_px.out.rz (by omega)).2.more (by omega)) ((Z_py.out.rz (by omega)).1.more (by omega)) ((Z_py.out.rz (by omega)).2.more (by omega)) ((Z_pt.out.rz (by omega)).1.more (by omega)) ((Z_pt.out.rz (by omega)).2.more (by omega)) (Z_v1.out.more (by omega)) (Z_v2.out.more (by omega)) Z_pt.out.le HQE.out.1 HQE.out.2.2.1 HQE.out.2.1 HQE.out.2.2.2 (by omega) (by omega)) ?_
  simp only [Act.put, nA, nB, nC]
  refine Seq.callV rfl rfl rfl rfl rfl (by kernel_rfl) (isbox_w (k := (74 * k + 100)) (b1_t := (rt q0)) (b2_t := (rt q1)) (b3_t := (rt q2)) (b4_t := (rt q3)) (r1_t := (rt q0)) (r2_t := (rt q2)) (r3_t := (rt q1)) (r4_t := (rt q3)) HT.out (RawT.rc (Z_q0.out.more (by omega))) (RawT.rc (Z_q1.out.more (by omega))) (RawT.rc (Z_q2.out.more (by omega))) (RawT.rc (Z_q3.out.more (by omega))) (RawT.rc (Z_q0.out.more (by omega))) (RawT.rc (Z_q2.out.more (by omega))) (RawT.rc (Z_q1.out.more (by omega))) (RawT.rc (Z_q3.out.more (by omega))) ⟨rfl, rfl, rfl, rfl⟩  (by omega) (by omega)) ?_
  simp only [Act.put, nA, nB, nC]
  iterate 2 (refine Seq.pure rfl rfl (by intro w; go_simp; try rfl) ?_; simp only [Act.put, nA, nB, nC])
  refine Seq.done fun ws4 hws => ?_
  have HS4 := hws.st
  clear HS3 hws
  go_upto_region 5 with (fail)
  refine wp_seq_text [] (StR.no HS4) ?_
  refine Seq.alloc rfl rfl rfl (z := .agg (BW rz0 rz0 rz0 rz0)) (by kernel_rfl) rfl ?_
  intro bk9 _ _ hbk9_r
  simp only [Act.put, nA, nB, nC]
  refine Seq.done fun ws5 hws => ?_
  have HS5 := hws.list1 (p := bk9) (by repeat (first | exact rS | refine rN (by assumption) ?_))
  clear HS4 hws
  go_upto_region 6 with (fail)
  refine wp_seq_text [] (StR.no HS5) ?_
  iterate 3 (refine Seq.pure rfl rfl (by intro w; go_simp; try rfl) ?_; simp only [Act.put, nA, nB, nC])
  refine Seq.done fun ws6 hws => ?_
  have HS6 := hws.st
  clear HS5 hws
  go_wp2_with fail
  go_loopg [31] n (fun kx i wr => (kx = n ∧ i = .int .i64 0 ∧ Hid (St w [(bk9, 72, BW rz0 rz0 rz0 rz0), (bk7, 45, PW (rt pxl) (rt pxh) (rt pyl) (rt pyh) (rt ptl) (rt pth)), (bk3, 36, PW px1 px2 py1 py2 pt1 pt2), (bk4, 38, SW v1_t v2_t)] wr)) ∨ (∃ j : Nat, ∃ m0 m1 m2 m3 : Rat, kx = n - (j + 1) ∧ i = .int .i64 ((j + 1 : Nat) : Int) ∧ j + 1 ≤ n ∧ Hid (shB pxl pxh pyl pyh ptl pth vx vy j = (m0, m1, m2, m3)) ∧ Hid (Rz (74 * k + 100) m0 ∧ Rz (74 * k + 100) m1 ∧ Rz (74 * k + 100) m2 ∧ Rz (74 * k + 100) m3) ∧ Hid (St w [(bk9, 72, BC m0 m2 m1 m3), (bk7, 45, PW (rt pxl) (rt pxh) (rt pyl) (rt pyh) (rt ptl) (rt pth)), (bk3, 36, PW px1 px2 py1 py2 pt1 pt2), (bk4, 38, SW v1_t v2_t)] wr)))
  case atStart => exact .inl ⟨rfl, rfl, Lib.hid HS6⟩
  case round =>
    rcases hrel with ⟨hgk, rfl, hS⟩ | ⟨j, m0, m1, m2, m3, hgk, rfl, hjn, hc, hz, hS⟩
    · have HS0 := hS.out
      clear hS
      have HGK := Lib.hid hgk; clear hgk
      by_cases hlt : 0 < n
      · obtain ⟨g, f, ta, tb, ga, gb, hI1, hI2, hu, hv⟩ := HVI.out (0) (by omega)
        obtain ⟨u, hu0⟩ : ∃ u, vx (0) = u := ⟨_, rfl⟩
        obtain ⟨v, hv0⟩ : ∃ v, vy (0) = v := ⟨_, rfl⟩
        rw [hu0] at hu
        rw [hv0] at hv
        have HU := Lib.hid hu; clear hu
        have HV := Lib.hid hv; clear hv
        obtain ⟨z0, hz0⟩ : ∃ z, bX0 pxl ptl pth u v = z := ⟨_, rfl⟩
        obtain ⟨z1, hz1⟩ : ∃ z, bY0 pyl ptl pth u v = z := ⟨_, rfl⟩
        obtain ⟨z2, hz2⟩ : ∃ z, bX1 pxh ptl pth u v = z := ⟨_, rfl⟩
        obtain ⟨z3, hz3⟩ : ∃ z, bY1 pyh ptl pth u v = z := ⟨_, rfl⟩
        have HZE := Lib.hid (show bX0 pxl ptl pth u v = z0 ∧ bY0 pyl ptl pth u v = z1 ∧ bX1 pxh ptl pth u v = z2 ∧ bY1 pyh ptl pth u v = z3 from ⟨hz0, hz1, hz2, hz3⟩)
        have Z_z0 := Lib.hid (show Rz (74 * k + 100) z0 from hz0 ▸ (b_rz (k := k) (Z_px.out.rz (by omega)).1 (by exact (Z_pt.out.rz (by omega)).1) (by exact (Z_pt.out.rz (by omega)).2) HU.out.rz HV.out.rz).1)
        have Z_z1 := Lib.hid (show Rz (74 * k + 100) z1 from hz1 ▸ (b_rz (k := k) (Z_py.out.rz (by omega)).1 (by exact (Z_pt.out.rz (by omega)).1) (by exact (Z_pt.out.rz (by omega)).2) HU.out.rz HV.out.rz).2.2.1)
        have Z_z2 := Lib.hid (show Rz (74 * k + 100) z2 from hz2 ▸ (b_rz (k := k) (Z_px.out.rz (by omega)).2 (by exact (Z_pt.out.rz (by omega)).1) (by exact (Z_pt.out.rz (by omega)).2) HU.out.rz HV.out.rz).2.1)
        have Z_z3 := Lib.hid (show Rz (74 * k + 100) z3 from hz3 ▸ (b_rz (k := k) (Z_py.out.rz (by omega)).2 (by exact (Z_pt.out.rz (by omega)).1) (by exact (Z_pt.out.rz (by omega)).2) HU.out.rz HV.out.rz).2.2.2)
        have HJ := Lib.hid (show n - 1 < n ∧ 0 + 1 ≤ n from ⟨by omega, by omega⟩)
        have HLT := Lib.hid hlt; clear hlt
        have hb0 : (0 : Int) < (n : Int) := by have := HLT.out; omega
        have HE := Lib.hid (shB_zero (xl := pxl) (xh := pxh) (yl := pyl) (yh := pyh) (tl := ptl) (th := pth) hu0 hv0)
        rw [hz0, hz1, hz2, hz3] at HE
        clear hz0 hz1 hz2 hz3 hu0 hv0
        go_upto_region 7 with (fail)
        refine wp_seq_text [] (StR.no HS0) ?_
        refine Seq.pure rfl rfl (by intro w; go_simp; try rfl) ?_
        simp only [Act.put, nA, nB, nC]
        refine Seq.done fun ws51 hws => ?_
        have HS51 := hws.st
        clear HS0 hws
        go_upto_region 8 with (fail)
        refine wp_seq_text [] (StR.no HS51) ?_
        refine Seq.pure rfl rfl (by intro w; go_simp; try rfl) ?_
        simp only [Act.put, nA, nB, nC]
        refine Seq.indexI rfl rfl rfl rfl rfl hI1 ?_
        simp only [Act.put, nA, nB, nC]
        refine Seq.loadI rfl rfl rfl rfl hI2 ?_
        simp only [Act.put, nA, nB, nC]
        refine Seq.alloc rfl rfl rfl (z := .agg (SW rz0 rz0)) (by kernel_rfl) rfl ?_
        intro bk11 _ _ hbk11_r
        simp only [Act.put, nA, nB, nC]
        refine Seq.pure rfl rfl (by intro w; go_simp; try rfl) ?_
        simp only [Act.put, nA, nB, nC]
        refine Seq.store rfl rfl rfl rfl rfl (by repeat (first | exact rS | refine rN (by assumption) ?_)) (n := 6) rfl rfl (by kernel_rfl) (SW_one _ _) ?_
        simp only [Act.put, nA, nB, nC]
        refine Seq.done fun ws52 hws => ?_
        have HS52 := hws.list1 (p := bk11) (by repeat (first | exact rS | refine rN (by assumption) ?_))
        clear HS51 hws
        go_upto_region 9 with (fail)
        refine wp_seq_text [] (StR.no HS52) ?_
        refine Seq.load rfl rfl rfl rfl (by repeat (first | exact mC | apply mT)) (n := 18) rfl (by kernel_rfl) ?_
        simp only [Act.put, nA, nB, nC]
        refine Seq.load rfl rfl rfl rfl (by repeat (first | exact mC | apply mT)) (n := 6) rfl (by kernel_rfl) ?_
        simp only [Act.put, nA, nB, nC]
        refine Seq.call rfl rfl rfl rfl (by kernel_rfl) (pointOf_w (k := (1 * k + 2)) (v1_t := ta) (v2_t := tb) HT.out ((Z_px.out.rz (by omega)).1.more (by omega)) ((Z_px.out.rz (by omega)).2.more (by omega)) ((Z_py.out.rz (by omega)).1.more (by omega)) ((Z_py.out.rz (by omega)).2.more (by omega)) ((Z_pt.out.rz (by omega)).1.more (by omega)) ((Z_pt.out.rz (by omega)).2.more (by omega)) (HU.out.more (by omega)) (HV.out.more (by omega)) Z_pt.out.le HZE.out.1 HZE.out.2.2.1 HZE.out.2.1 HZE.out.2.2.2 (by omega) (by omega)) ?_
        simp only [Act.put, nA, nB, nC]
        refine Seq.alloc rfl rfl rfl (z := .agg (BW rz0 rz0 rz0 rz0)) (by kernel_rfl) rfl ?_
        intro bk12 _ _ hbk12_r
        simp only [Act.put, nA, nB, nC]
        refine Seq.store rfl rfl rfl rfl rfl (by repeat (first | exact rS | refine rN (by assumption) ?_)) (n := 12) rfl rfl (by kernel_rfl) (BC_one _ _ _ _) ?_
        simp only [Act.put, nA, nB, nC]
        refine Seq.done fun ws53 hws => ?_
        have HS53 := hws.list1 (p := bk12) (by repeat (first | exact rS | refine rN (by assumption) ?_))
        clear HS52 hws
        go_upto_region 10 with (fail)
        refine wp_seq_text [] (StR.no HS53) ?_
        refine Seq.pure rfl rfl (by intro w; go_simp; try rfl) ?_
        simp only [Act.put, nA, nB, nC]
        refine Seq.done fun ws54 hws => ?_
        have HS54 := hws.st
        clear HS53 hws
        go_wp2_with fail
        refine wp_loop_rounds 3 ?_
        rw [rounds_succ]
        go_upto_region 11 with (fail)
        refine wp_seq_text [] (StR.no HS54) ?_
        refine Seq.pure rfl rfl (by intro w; go_simp; try rfl) ?_
        simp only [Act.put, nA, nB, nC]
        refine Seq.done fun ws55 hws => ?_
        have HS55 := hws.st
        clear HS54 hws
        go_upto_region 12 with (fail)
        refine wp_seq_text [] (StR.no HS55) ?_
        iterate 2 (refine Seq.pure rfl rfl (by intro w; go_simp; try rfl) ?_; simp only [Act.put, nA, nB, nC])
        refine Seq.done fun ws56 hws => ?_
        have HS56 := hws.st
        clear HS55 hws
        go_upto_region 13 with (fail)
        refine wp_seq_text [] (StR.no HS56) ?_
        iterate 2 (refine Seq.pure rfl rfl (by intro w; go_simp; try rfl) ?_; simp only [Act.put, nA, nB, nC])
        refine Seq.done fun ws57 hws => ?_
        have HS57 := hws.st
        clear HS56 hws
        go_upto_region 14 with (fail)
        have HPbk9 := HS57.f2
        refine wp_seq_text [] (StR.move (StR.no HPbk9)) ?_
        iterate 3 (refine Seq.pure rfl rfl (by intro w; go_simp; try rfl) ?_; simp only [Act.put, nA, nB, nC])
        refine Seq.loadAt rfl rfl rfl rfl (by repeat (first | exact mC | apply mT)) (n := 6) (cs' := VC z0 z2) (Nat.le_of_ble_eq_true rfl) (by kernel_rfl) rfl ?_
        simp only [Act.put, nA, nB, nC]
        refine Seq.pure rfl rfl (by intro w; go_simp; try rfl) ?_
        simp only [Act.put, nA, nB, nC]
        refine Seq.storeAt (v := .agg (VC z0 z2)) rfl rfl rfl rfl rfl (by repeat (first | exact rS | refine rN (by assumption) ?_)) (Nat.le_of_ble_eq_true rfl) (by show _ = some 6; kernel_rfl) (VC_one _ _) (cs' := BW (rt z0) (rt z2) rz0 rz0) rfl ?_
        simp only [Act.put, nA, nB, nC]
        refine Seq.done fun ws58 hws => ?_
        have HS58 := hws.list1 (p := bk9) (by repeat (first | exact rS | refine rN (by assumption) ?_))
        clear HS57 hws HPbk9
        go_upto_region 15 with (fail)
        refine wp_seq [8, 26] (by kernel_rfl) (by kernel_rfl) (Reg.fin.put Reg.fin_no _ _) (StR.move (StR.no HS58)) ?_
        iterate 4 (refine Seq.pure rfl rfl (by intro w; go_simp; try rfl) ?_; simp only [Act.put, nA, nB, nC])
        refine Seq.getAt rfl rfl rfl rfl (by repeat (first | exact rS | refine rN (by assumption) ?_)) (n := 3) (cs' := RC z0) (Nat.le_of_ble_eq_true rfl) (by kernel_rfl) rfl ?_
        simp only [Act.put, nA, nB, nC]
        iterate 3 (refine Seq.pure rfl rfl (by intro w; go_simp; try rfl) ?_; simp only [Act.put, nA, nB, nC])
        refine Seq.loadAt rfl rfl rfl rfl (by repeat (first | exact mC | apply mT)) (n := 3) (cs' := RC z0) (Nat.le_of_ble_eq_true rfl) (by kernel_rfl) rfl ?_
        simp only [Act.put, nA, nB, nC]
        refine Seq.call rfl rfl rfl rfl (by kernel_rfl) (min_q (k := (74 * k + 100)) HT.out (Z_z0.out.more (by omega)) (Z_z0.out.more (by omega)) (min_self _) (by omega)) ?_
        simp only [Act.put, nA, nB, nC]
        iterate 3 (refine Seq.pure rfl rfl (by intro w; go_simp; try rfl) ?_; simp only [Act.put, nA, nB, nC])
        refine Seq.getAt rfl rfl rfl rfl (by repeat (first | exact rS | refine rN (by assumption) ?_)) (n := 3) (cs' := RC z2) (Nat.le_of_ble_eq_true rfl) (by kernel_rfl) rfl ?_
        simp only [Act.put, nA, nB, nC]
        iterate 3 (refine Seq.pure rfl rfl (by intro w; go_simp; try rfl) ?_; simp only [Act.put, nA, nB, nC])
        refine Seq.loadAt rfl rfl rfl rfl (by repeat (first | exact mC | apply mT)) (n := 3) (cs' := RC z2) (Nat.le_of_ble_eq_true rfl) (by kernel_rfl) rfl ?_
        simp only [Act.put, nA, nB, nC]
        refine Seq.call rfl rfl rfl rfl (by kernel_rfl) (max_q (k := (74 * k + 100)) HT.out (Z_z2.out.more (by omega)) (Z_z2.out.more (by omega)) (max_self _) (by omega)) ?_
        simp only [Act.put, nA, nB, nC]
        refine Seq.pure (v := .agg (VC z0 z2)) rfl rfl (fun w => bld_RSpan (x := (rt z0)) (y := (rt z2)) rfl rfl rfl w) ?_
        simp only [Act.put, nA, nB, nC]
        refine Seq.pure rfl rfl (by intro w; go_simp; try rfl) ?_
        simp only [Act.put, nA, nB, nC]
        refine Seq.storeAt (v := .agg (VC z0 z2)) rfl rfl rfl rfl rfl (by repeat (first | exact rS | refine rN (by assumption) ?_)) (Nat.le_of_ble_eq_true rfl) (by show _ = some 6; kernel_rfl) (VC_one _ _) (cs' := BW (rt z0) (rt z2) rz0 rz0) rfl ?_
        simp only [Act.put, nA, nB, nC]
        refine Seq.done fun ws59 hws => ?_
        have HS59 := hws.list1 (p := bk9) (by repeat (first | exact rS | refine rN (by assumption) ?_))
        clear HS58 hws
        go_upto_region 16 with (fail)
        refine wp_seq_text [] (StR.no HS59) ?_
        refine Seq.pure (v := .int .i64 1) rfl rfl (by intro w; go_simp; try rfl) ?_
        simp only [Act.put, nA, nB, nC]
        refine Seq.pure rfl rfl (by intro w; go_simp; try rfl) ?_
        simp only [Act.put, nA, nB, nC]
        refine Seq.done fun ws60 hws => ?_
        have HS60 := hws.st
        clear HS59 hws
        go_wp2_with fail
        rw [rounds_succ]
        go_upto_region 11 with (fail)
        refine wp_seq_text [] (StR.no HS60) ?_
        refine Seq.pure rfl rfl (by intro w; go_simp; try rfl) ?_
        simp only [Act.put, nA, nB, nC]
        refine Seq.done fun ws61 hws => ?_
        have HS61 := hws.st
        clear HS60 hws
        go_upto_region 12 with (fail)
        refine wp_seq_text [] (StR.no HS61) ?_
        iterate 2 (refine Seq.pure rfl rfl (by intro w; go_simp; try rfl) ?_; simp only [Act.put, nA, nB, nC])
        refine Seq.done fun ws62 hws => ?_
        have HS62 := hws.st
        clear HS61 hws
        go_upto_region 13 with (fail)
        refine wp_seq_text [] (StR.no HS62) ?_
        iterate 2 (refine Seq.pure rfl rfl (by intro w; go_simp; try rfl) ?_; simp only [Act.put, nA, nB, nC])
        refine Seq.done fun ws63 hws => ?_
        have HS63 := hws.st
        clear HS62 hws
        go_upto_region 14 with (fail)
        refine wp_seq_text [] (StR.move (StR.no HS63)) ?_
        iterate 3 (refine Seq.pure rfl rfl (by intro w; go_simp; try rfl) ?_; simp only [Act.put, nA, nB, nC])
        refine Seq.loadAt rfl rfl rfl rfl (by repeat (first | exact mC | apply mT)) (n := 6) (cs' := VC z1 z3) (Nat.le_of_ble_eq_true rfl) (by kernel_rfl) rfl ?_
        simp only [Act.put, nA, nB, nC]
        refine Seq.pure rfl rfl (by intro w; go_simp; try rfl) ?_
        simp only [Act.put, nA, nB, nC]
        refine Seq.storeAt (v := .agg (VC z1 z3)) rfl rfl rfl rfl rfl (by repeat (first | exact rS | refine rN (by assumption) ?_)) (Nat.le_of_ble_eq_true rfl) (by show _ = some 6; kernel_rfl) (VC_one _ _) (cs' := BC z0 z2 z1 z3) rfl ?_
        simp only [Act.put, nA, nB, nC]
        refine Seq.done fun ws64 hws => ?_
        have HS64 := hws.list1 (p := bk9) (by repeat (first | exact rS | refine rN (by assumption) ?_))
        clear HS63 hws
        go_upto_region 15 with (fail)
        refine wp_seq [8, 26] (by kernel_rfl) (by kernel_rfl) (Reg.fin.put Reg.fin_no _ _) (StR.move (StR.no HS64)) ?_
        iterate 4 (refine Seq.pure rfl rfl (by intro w; go_simp; try rfl) ?_; simp only [Act.put, nA, nB, nC])
        refine Seq.getAt rfl rfl rfl rfl (by repeat (first | exact rS | refine rN (by assumption) ?_)) (n := 3) (cs' := RC z1) (Nat.le_of_ble_eq_true rfl) (by kernel_rfl) rfl ?_
        simp only [Act.put, nA, nB, nC]
        iterate 3 (refine Seq.pure rfl rfl (by intro w; go_simp; try rfl) ?_; simp only [Act.put, nA, nB, nC])
        refine Seq.loadAt rfl rfl rfl rfl (by repeat (first | exact mC | apply mT)) (n := 3) (cs' := RC z1) (Nat.le_of_ble_eq_true rfl) (by kernel_rfl) rfl ?_
        simp only [Act.put, nA, nB, nC]
        refine Seq.call rfl rfl rfl rfl (by kernel_rfl) (min_q (k := (74 * k + 100)) HT.out (Z_z1.out.more (by omega)) (Z_z1.out.more (by omega)) (min_self _) (by omega)) ?_
        simp only [Act.put, nA, nB, nC]
        iterate 3 (refine Seq.pure rfl rfl (by intro w; go_simp; try rfl) ?_; simp only [Act.put, nA, nB, nC])
        refine Seq.getAt rfl rfl rfl rfl (by repeat (first | exact rS | refine rN (by assumption) ?_)) (n := 3) (cs' := RC z3) (Nat.le_of_ble_eq_true rfl) (by kernel_rfl) rfl ?_
        simp only [Act.put, nA, nB, nC]
        iterate 3 (refine Seq.pure rfl rfl (by intro w; go_simp; try rfl) ?_; simp only [Act.put, nA, nB, nC])
        refine Seq.loadAt rfl rfl rfl rfl (by repeat (first | exact mC | apply mT)) (n := 3) (cs' := RC z3) (Nat.le_of_ble_eq_true rfl) (by kernel_rfl) rfl ?_
        simp only [Act.put, nA, nB, nC]
        refine Seq.call rfl rfl rfl rfl (by kernel_rfl) (max_q (k := (74 * k + 100)) HT.out (Z_z3.out.more (by omega)) (Z_z3.out.more (by omega)) (max_self _) (by omega)) ?_
        simp only [Act.put, nA, nB, nC]
        refine Seq.pure (v := .agg (VC z1 z3)) rfl rfl (fun w => bld_RSpan (x := (rt z1)) (y := (rt z3)) rfl rfl rfl w) ?_
        simp only [Act.put, nA, nB, nC]
        refine Seq.pure rfl rfl (by intro w; go_simp; try rfl) ?_
        simp only [Act.put, nA, nB, nC]
        refine Seq.storeAt (v := .agg (VC z1 z3)) rfl rfl rfl rfl rfl (by repeat (first | exact rS | refine rN (by assumption) ?_)) (Nat.le_of_ble_eq_true rfl) (by show _ = some 6; kernel_rfl) (VC_one _ _) (cs' := BC z0 z2 z1 z3) rfl ?_
        simp only [Act.put, nA, nB, nC]
        refine Seq.done fun ws65 hws => ?_
        have HS65 := hws.list1 (p := bk9) (by repeat (first | exact rS | refine rN (by assumption) ?_))
        clear HS64 hws
        go_upto_region 16 with (fail)
        refine wp_seq_text [] (StR.no HS65) ?_
        refine Seq.pure (v := .int .i64 2) rfl rfl (by intro w; go_simp; try rfl) ?_
        simp only [Act.put, nA, nB, nC]
        refine Seq.pure rfl rfl (by intro w; go_simp; try rfl) ?_
        simp only [Act.put, nA, nB, nC]
        refine Seq.done fun ws66 hws => ?_
        have HS66 := hws.st
        clear HS65 hws
        go_wp2_with fail
        rw [rounds_succ]
        go_upto_region 11 with (fail)
        refine wp_seq_text [] (StR.no HS66) ?_
        refine Seq.pure rfl rfl (by intro w; go_simp; try rfl) ?_
        simp only [Act.put, nA, nB, nC]
        refine Seq.done fun ws67 hws => ?_
        have HS67 := hws.st
        clear HS66 hws
        go_upto_region 17 with (fail)
        refine wp_seq_text [] (StR.no HS67) ?_
        refine Seq.pure (v := .int .i64 1) rfl rfl (by intro w; go_simp; try rfl) ?_
        simp only [Act.put, nA, nB, nC]
        refine Seq.pure rfl rfl (by intro w; go_simp; try rfl) ?_
        simp only [Act.put, nA, nB, nC]
        refine Seq.done fun ws68 hws => ?_
        have HS68 := hws.st
        clear HS67 hws
        go_wp2_with fail
        go_roundg (n - (0 + 1))
        case measure => rw [HGK.out]; exact HJ.out.1
        case rel => exact .inr ⟨0, z0, z1, z2, z3, rfl, rfl, HJ.out.2, Lib.hid HE.out, Lib.hid ⟨Z_z0.out, Z_z1.out, Z_z2.out, Z_z3.out⟩, Lib.hid HS68.f1.drop.f1.drop⟩
      · obtain rfl : n = 0 := by omega
        have HSR := Lib.hid (show Ending.returned (.agg (shR pxl pxh pyl pyh ptl pth vx vy 0)) = .returned (.agg (BW rz0 rz0 rz0 rz0)) from rfl)
        have hb0 : ¬ ((0 : Int) < ((0 : Nat) : Int)) := by omega
        go_upto_region 7 with (fail)
        refine wp_seq_text [] (StR.no HS0) ?_
        refine Seq.pure rfl rfl (by intro w; go_simp; try rfl) ?_
        simp only [Act.put, nA, nB, nC]
        refine Seq.done fun ws51 hws => ?_
        have HS51 := hws.st
        clear HS0 hws
        go_upto_region 18 with (fail)
        refine wp_seq [] (by kernel_rfl) (by kernel_rfl) Reg.fin_no (StR.no HS51) ?_
        refine Seq.pure rfl rfl (by intro w; go_simp; try rfl) ?_
        simp only [Act.put, nA, nB, nC]
        refine Seq.load rfl rfl rfl rfl (by repeat (first | exact mC | apply mT)) (n := 18) rfl (by kernel_rfl) ?_
        simp only [Act.put, nA, nB, nC]
        refine Seq.pure rfl rfl (by intro w; go_simp; try rfl) ?_
        simp only [Act.put, nA, nB, nC]
        refine Seq.call rfl rfl rfl rfl (by kernel_rfl) (fun w h => (shape_w (k := k) HT.out Z_px.out Z_py.out Z_pt.out HN.out HVI.out hk0 (by omega) w h).mono (fun e w2 hh => ⟨hh.1.trans HSR.out, hh.2⟩)) ?_
        simp only [Act.put, nA, nB, nC]
        refine Seq.load rfl rfl rfl rfl (by repeat (first | exact mC | apply mT)) (n := 12) rfl (by kernel_rfl) ?_
        simp only [Act.put, nA, nB, nC]
        refine Seq.callV rfl rfl rfl rfl rfl (by kernel_rfl) (isbox_w (k := 2) (b1_t := rz0) (b2_t := rz0) (b3_t := rz0) (b4_t := rz0) (r1_t := rz0) (r2_t := rz0) (r3_t := rz0) (r4_t := rz0) HT.out (RawT0.more (by omega)) (RawT0.more (by omega)) (RawT0.more (by omega)) (RawT0.more (by omega)) (RawT0.more (by omega)) (RawT0.more (by omega)) (RawT0.more (by omega)) (RawT0.more (by omega)) ⟨rfl, rfl, rfl, rfl⟩  (by omega) (by omega)) ?_
        simp only [Act.put, nA, nB, nC]
        refine Seq.pure rfl rfl (by intro w; go_simp; try rfl) ?_
        simp only [Act.put, nA, nB, nC]
        refine Seq.done fun ws52 hws => ?_
        have HS52 := hws.st
        clear HS51 hws
        go_wp2_with fail
        go_ret
        exact ⟨rfl, HS52.below⟩
    · have HS0 := hS.out
      clear hS
      have HGK := Lib.hid hgk; clear hgk
      have Z_m0 := Lib.hid hz.out.1
      have Z_m1 := Lib.hid hz.out.2.1
      have Z_m2 := Lib.hid hz.out.2.2.1
      have Z_m3 := Lib.hid hz.out.2.2.2
      by_cases hlt : j + 1 < n
      · obtain ⟨g, f, ta, tb, ga, gb, hI1, hI2, hu, hv⟩ := HVI.out (j + 1) (by omega)
        obtain ⟨u, hu0⟩ : ∃ u, vx (j + 1) = u := ⟨_, rfl⟩
        obtain ⟨v, hv0⟩ : ∃ v, vy (j + 1) = v := ⟨_, rfl⟩
        rw [hu0] at hu
        rw [hv0] at hv
        have HU := Lib.hid hu; clear hu
        have HV := Lib.hid hv; clear hv
        obtain ⟨z0, hz0⟩ : ∃ z, bX0 pxl ptl pth u v = z := ⟨_, rfl⟩
        obtain ⟨z1, hz1⟩ : ∃ z, bY0 pyl ptl pth u v = z := ⟨_, rfl⟩
        obtain ⟨z2, hz2⟩ : ∃ z, bX1 pxh ptl pth u v = z := ⟨_, rfl⟩
        obtain ⟨z3, hz3⟩ : ∃ z, bY1 pyh ptl pth u v = z := ⟨_, rfl⟩
        have HZE := Lib.hid (show bX0 pxl ptl pth u v = z0 ∧ bY0 pyl ptl pth u v = z1 ∧ bX1 pxh ptl pth u v = z2 ∧ bY1 pyh ptl pth u v = z3 from ⟨hz0, hz1, hz2, hz3⟩)
        have Z_z0 := Lib.hid (show Rz (74 * k + 100) z0 from hz0 ▸ (b_rz (k := k) (Z_px.out.rz (by omega)).1 (by exact (Z_pt.out.rz (by omega)).1) (by exact (Z_pt.out.rz (by omega)).2) HU.out.rz HV.out.rz).1)
        have Z_z1 := Lib.hid (show Rz (74 * k + 100) z1 from hz1 ▸ (b_rz (k := k) (Z_py.out.rz (by omega)).1 (by exact (Z_pt.out.rz (by omega)).1) (by exact (Z_pt.out.rz (by omega)).2) HU.out.rz HV.out.rz).2.2.1)
        have Z_z2 := Lib.hid (show Rz (74 * k + 100) z2 from hz2 ▸ (b_rz (k := k) (Z_px.out.rz (by omega)).2 (by exact (Z_pt.out.rz (by omega)).1) (by exact (Z_pt.out.rz (by omega)).2) HU.out.rz HV.out.rz).2.1)
        have Z_z3 := Lib.hid (show Rz (74 * k + 100) z3 from hz3 ▸ (b_rz (k := k) (Z_py.out.rz (by omega)).2 (by exact (Z_pt.out.rz (by omega)).1) (by exact (Z_pt.out.rz (by omega)).2) HU.out.rz HV.out.rz).2.2.2)
        have HJ := Lib.hid (show IntKind.i64.wrap ((j + 1 : Nat) + 1 : Int) = ((j + 1 + 1 : Nat) : Int) ∧ n - (j + 1 + 1) < n - (j + 1) ∧ j + 1 + 1 ≤ n from ⟨by have := HN.out; rw [IntWalk.i64_in _ (by omega)]; omega, by omega, by omega⟩)
        have HLT := Lib.hid hlt; clear hlt
        have hb0 : ((j + 1 : Nat) : Int) < (n : Int) := by have := HLT.out; omega
        have HE := Lib.hid (shB_succ hu0 hv0 hc.out)
        rw [hz0, hz1, hz2, hz3] at HE
        clear hz0 hz1 hz2 hz3 hu0 hv0
        have hb1 : ¬ (((j + 1 : Nat) : Int) = 0) := by omega
        go_upto_region 7 with (fail)
        refine wp_seq_text [] (StR.no HS0) ?_
        refine Seq.pure rfl rfl (by intro w; go_simp; try rfl) ?_
        simp only [Act.put, nA, nB, nC]
        refine Seq.done fun ws91 hws => ?_
        have HS91 := hws.st
        clear HS0 hws
        go_upto_region 8 with (fail)
        refine wp_seq_text [] (StR.no HS91) ?_
        refine Seq.pure rfl rfl (by intro w; go_simp; try rfl) ?_
        simp only [Act.put, nA, nB, nC]
        refine Seq.indexI rfl rfl rfl rfl rfl hI1 ?_
        simp only [Act.put, nA, nB, nC]
        refine Seq.loadI rfl rfl rfl rfl hI2 ?_
        simp only [Act.put, nA, nB, nC]
        refine Seq.alloc rfl rfl rfl (z := .agg (SW rz0 rz0)) (by kernel_rfl) rfl ?_
        intro bk11 _ _ hbk11_r
        simp only [Act.put, nA, nB, nC]
        refine Seq.pure rfl rfl (by intro w; go_simp; try rfl) ?_
        simp only [Act.put, nA, nB, nC]
        refine Seq.store rfl rfl rfl rfl rfl (by repeat (first | exact rS | refine rN (by assumption) ?_)) (n := 6) rfl rfl (by kernel_rfl) (SW_one _ _) ?_
        simp only [Act.put, nA, nB, nC]
        refine Seq.done fun ws92 hws => ?_
        have HS92 := hws.list1 (p := bk11) (by repeat (first | exact rS | refine rN (by assumption) ?_))
        clear HS91 hws
        go_upto_region 9 with (fail)
        refine wp_seq_text [] (StR.no HS92) ?_
        refine Seq.load rfl rfl rfl rfl (by repeat (first | exact mC | apply mT)) (n := 18) rfl (by kernel_rfl) ?_
        simp only [Act.put, nA, nB, nC]
        refine Seq.load rfl rfl rfl rfl (by repeat (first | exact mC | apply mT)) (n := 6) rfl (by kernel_rfl) ?_
        simp only [Act.put, nA, nB, nC]
        refine Seq.call rfl rfl rfl rfl (by kernel_rfl) (pointOf_w (k := (1 * k + 2)) (v1_t := ta) (v2_t := tb) HT.out ((Z_px.out.rz (by omega)).1.more (by omega)) ((Z_px.out.rz (by omega)).2.more (by omega)) ((Z_py.out.rz (by omega)).1.more (by omega)) ((Z_py.out.rz (by omega)).2.more (by omega)) ((Z_pt.out.rz (by omega)).1.more (by omega)) ((Z_pt.out.rz (by omega)).2.more (by omega)) (HU.out.more (by omega)) (HV.out.more (by omega)) Z_pt.out.le HZE.out.1 HZE.out.2.2.1 HZE.out.2.1 HZE.out.2.2.2 (by omega) (by omega)) ?_
        simp only [Act.put, nA, nB, nC]
        refine Seq.alloc rfl rfl rfl (z := .agg (BW rz0 rz0 rz0 rz0)) (by kernel_rfl) rfl ?_
        intro bk12 _ _ hbk12_r
        simp only [Act.put, nA, nB, nC]
        refine Seq.store rfl rfl rfl rfl rfl (by repeat (first | exact rS | refine rN (by assumption) ?_)) (n := 12) rfl rfl (by kernel_rfl) (BC_one _ _ _ _) ?_
        simp only [Act.put, nA, nB, nC]
        refine Seq.done fun ws93 hws => ?_
        have HS93 := hws.list1 (p := bk12) (by repeat (first | exact rS | refine rN (by assumption) ?_))
        clear HS92 hws
        go_upto_region 10 with (fail)
        refine wp_seq_text [] (StR.no HS93) ?_
        refine Seq.pure rfl rfl (by intro w; go_simp; try rfl) ?_
        simp only [Act.put, nA, nB, nC]
        refine Seq.done fun ws94 hws => ?_
        have HS94 := hws.st
        clear HS93 hws
        go_wp2_with fail
        refine wp_loop_rounds 3 ?_
        rw [rounds_succ]
        go_upto_region 11 with (fail)
        refine wp_seq_text [] (StR.no HS94) ?_
        refine Seq.pure rfl rfl (by intro w; go_simp; try rfl) ?_
        simp only [Act.put, nA, nB, nC]
        refine Seq.done fun ws95 hws => ?_
        have HS95 := hws.st
        clear HS94 hws
        go_upto_region 12 with (fail)
        refine wp_seq_text [] (StR.no HS95) ?_
        iterate 2 (refine Seq.pure rfl rfl (by intro w; go_simp; try rfl) ?_; simp only [Act.put, nA, nB, nC])
        refine Seq.done fun ws96 hws => ?_
        have HS96 := hws.st
        clear HS95 hws
        go_upto_region 13 with (fail)
        refine wp_seq_text [] (StR.no HS96) ?_
        iterate 2 (refine Seq.pure rfl rfl (by intro w; go_simp; try rfl) ?_; simp only [Act.put, nA, nB, nC])
        refine Seq.done fun ws97 hws => ?_
        have HS97 := hws.st
        clear HS96 hws
        go_upto_region 15 with (fail)
        have HPbk9 := HS97.f2
        refine wp_seq [8, 26] (by kernel_rfl) (by kernel_rfl) (Reg.fin.put Reg.fin_no _ _) (StR.move (StR.no HPbk9)) ?_
        iterate 4 (refine Seq.pure rfl rfl (by intro w; go_simp; try rfl) ?_; simp only [Act.put, nA, nB, nC])
        refine Seq.getAt rfl rfl rfl rfl (by repeat (first | exact rS | refine rN (by assumption) ?_)) (n := 3) (cs' := RC m0) (Nat.le_of_ble_eq_true rfl) (by kernel_rfl) rfl ?_
        simp only [Act.put, nA, nB, nC]
        iterate 3 (refine Seq.pure rfl rfl (by intro w; go_simp; try rfl) ?_; simp only [Act.put, nA, nB, nC])
        refine Seq.loadAt rfl rfl rfl rfl (by repeat (first | exact mC | apply mT)) (n := 3) (cs' := RC z0) (Nat.le_of_ble_eq_true rfl) (by kernel_rfl) rfl ?_
        simp only [Act.put, nA, nB, nC]
        refine Seq.call rfl rfl rfl rfl (by kernel_rfl) (min_q (k := (74 * k + 100)) HT.out (Z_m0.out.more (by omega)) (Z_z0.out.more (by omega)) rfl (by omega)) ?_
        simp only [Act.put, nA, nB, nC]
        iterate 3 (refine Seq.pure rfl rfl (by intro w; go_simp; try rfl) ?_; simp only [Act.put, nA, nB, nC])
        refine Seq.getAt rfl rfl rfl rfl (by repeat (first | exact rS | refine rN (by assumption) ?_)) (n := 3) (cs' := RC m2) (Nat.le_of_ble_eq_true rfl) (by kernel_rfl) rfl ?_
        simp only [Act.put, nA, nB, nC]
        iterate 3 (refine Seq.pure rfl rfl (by intro w; go_simp; try rfl) ?_; simp only [Act.put, nA, nB, nC])
        refine Seq.loadAt rfl rfl rfl rfl (by repeat (first | exact mC | apply mT)) (n := 3) (cs' := RC z2) (Nat.le_of_ble_eq_true rfl) (by kernel_rfl) rfl ?_
        simp only [Act.put, nA, nB, nC]
        refine Seq.call rfl rfl rfl rfl (by kernel_rfl) (max_q (k := (74 * k + 100)) HT.out (Z_m2.out.more (by omega)) (Z_z2.out.more (by omega)) rfl (by omega)) ?_
        simp only [Act.put, nA, nB, nC]
        refine Seq.pure (v := .agg (VC (minQ m0 z0) (maxQ m2 z2))) rfl rfl (fun w => bld_RSpan (x := (rt (minQ m0 z0))) (y := (rt (maxQ m2 z2))) rfl rfl rfl w) ?_
        simp only [Act.put, nA, nB, nC]
        refine Seq.pure rfl rfl (by intro w; go_simp; try rfl) ?_
        simp only [Act.put, nA, nB, nC]
        refine Seq.storeAt (v := .agg (VC (minQ m0 z0) (maxQ m2 z2))) rfl rfl rfl rfl rfl (by repeat (first | exact rS | refine rN (by assumption) ?_)) (Nat.le_of_ble_eq_true rfl) (by show _ = some 6; kernel_rfl) (VC_one _ _) (cs' := BC (minQ m0 z0) (maxQ m2 z2) m1 m3) rfl ?_
        simp only [Act.put, nA, nB, nC]
        refine Seq.done fun ws98 hws => ?_
        have HS98 := hws.list1 (p := bk9) (by repeat (first | exact rS | refine rN (by assumption) ?_))
        clear HS97 hws HPbk9
        go_upto_region 16 with (fail)
        refine wp_seq_text [] (StR.no HS98) ?_
        refine Seq.pure (v := .int .i64 1) rfl rfl (by intro w; go_simp; try rfl) ?_
        simp only [Act.put, nA, nB, nC]
        refine Seq.pure rfl rfl (by intro w; go_simp; try rfl) ?_
        simp only [Act.put, nA, nB, nC]
        refine Seq.done fun ws99 hws => ?_
        have HS99 := hws.st
        clear HS98 hws
        go_wp2_with fail
        rw [rounds_succ]
        go_upto_region 11 with (fail)
        refine wp_seq_text [] (StR.no HS99) ?_
        refine Seq.pure rfl rfl (by intro w; go_simp; try rfl) ?_
        simp only [Act.put, nA, nB, nC]
        refine Seq.done fun ws100 hws => ?_
        have HS100 := hws.st
        clear HS99 hws
        go_upto_region 12 with (fail)
        refine wp_seq_text [] (StR.no HS100) ?_
        iterate 2 (refine Seq.pure rfl rfl (by intro w; go_simp; try rfl) ?_; simp only [Act.put, nA, nB, nC])
        refine Seq.done fun ws101 hws => ?_
        have HS101 := hws.st
        clear HS100 hws
        go_upto_region 13 with (fail)
        refine wp_seq_text [] (StR.no HS101) ?_
        iterate 2 (refine Seq.pure rfl rfl (by intro w; go_simp; try rfl) ?_; simp only [Act.put, nA, nB, nC])
        refine Seq.done fun ws102 hws => ?_
        have HS102 := hws.st
        clear HS101 hws
        go_upto_region 15 with (fail)
        refine wp_seq [8, 26] (by kernel_rfl) (by kernel_rfl) (Reg.fin.put Reg.fin_no _ _) (StR.move (StR.no HS102)) ?_
        iterate 4 (refine Seq.pure rfl rfl (by intro w; go_simp; try rfl) ?_; simp only [Act.put, nA, nB, nC])
        refine Seq.getAt rfl rfl rfl rfl (by repeat (first | exact rS | refine rN (by assumption) ?_)) (n := 3) (cs' := RC m1) (Nat.le_of_ble_eq_true rfl) (by kernel_rfl) rfl ?_
        simp only [Act.put, nA, nB, nC]
        iterate 3 (refine Seq.pure rfl rfl (by intro w; go_simp; try rfl) ?_; simp only [Act.put, nA, nB, nC])
        refine Seq.loadAt rfl rfl rfl rfl (by repeat (first | exact mC | apply mT)) (n := 3) (cs' := RC z1) (Nat.le_of_ble_eq_true rfl) (by kernel_rfl) rfl ?_
        simp only [Act.put, nA, nB, nC]
        refine Seq.call rfl rfl rfl rfl (by kernel_rfl) (min_q (k := (74 * k + 100)) HT.out (Z_m1.out.more (by omega)) (Z_z1.out.more (by omega)) rfl (by omega)) ?_
        simp only [Act.put, nA, nB, nC]
        iterate 3 (refine Seq.pure rfl rfl (by intro w; go_simp; try rfl) ?_; simp only [Act.put, nA, nB, nC])
        refine Seq.getAt rfl rfl rfl rfl (by repeat (first | exact rS | refine rN (by assumption) ?_)) (n := 3) (cs' := RC m3) (Nat.le_of_ble_eq_true rfl) (by kernel_rfl) rfl ?_
        simp only [Act.put, nA, nB, nC]
        iterate 3 (refine Seq.pure rfl rfl (by intro w; go_simp; try rfl) ?_; simp only [Act.put, nA, nB, nC])
        refine Seq.loadAt rfl rfl rfl rfl (by repeat (first | exact mC | apply mT)) (n := 3) (cs' := RC z3) (Nat.le_of_ble_eq_true rfl) (by kernel_rfl) rfl ?_
        simp only [Act.put, nA, nB, nC]
        refine Seq.call rfl rfl rfl rfl (by kernel_rfl) (max_q (k := (74 * k + 100)) HT.out (Z_m3.out.more (by omega)) (Z_z3.out.more (by omega)) rfl (by omega)) ?_
        simp only [Act.put, nA, nB, nC]
        refine Seq.pure (v := .agg (VC (minQ m1 z1) (maxQ m3 z3))) rfl rfl (fun w => bld_RSpan (x := (rt (minQ m1 z1))) (y := (rt (maxQ m3 z3))) rfl rfl rfl w) ?_
        simp only [Act.put, nA, nB, nC]
        refine Seq.pure rfl rfl (by intro w; go_simp; try rfl) ?_
        simp only [Act.put, nA, nB, nC]
        refine Seq.storeAt (v := .agg (VC (minQ m1 z1) (maxQ m3 z3))) rfl rfl rfl rfl rfl (by repeat (first | exact rS | refine rN (by assumption) ?_)) (Nat.le_of_ble_eq_true rfl) (by show _ = some 6; kernel_rfl) (VC_one _ _) (cs' := BC (minQ m0 z0) (maxQ m2 z2) (minQ m1 z1) (maxQ m3 z3)) rfl ?_
        simp only [Act.put, nA, nB, nC]
        refine Seq.done fun ws103 hws => ?_
        have HS103 := hws.list1 (p := bk9) (by repeat (first | exact rS | refine rN (by assumption) ?_))
        clear HS102 hws
        go_upto_region 16 with (fail)
        refine wp_seq_text [] (StR.no HS103) ?_
        refine Seq.pure (v := .int .i64 2) rfl rfl (by intro w; go_simp; try rfl) ?_
        simp only [Act.put, nA, nB, nC]
        refine Seq.pure rfl rfl (by intro w; go_simp; try rfl) ?_
        simp only [Act.put, nA, nB, nC]
        refine Seq.done fun ws104 hws => ?_
        have HS104 := hws.st
        clear HS103 hws
        go_wp2_with fail
        rw [rounds_succ]
        go_upto_region 11 with (fail)
        refine wp_seq_text [] (StR.no HS104) ?_
        refine Seq.pure rfl rfl (by intro w; go_simp; try rfl) ?_
        simp only [Act.put, nA, nB, nC]
        refine Seq.done fun ws105 hws => ?_
        have HS105 := hws.st
        clear HS104 hws
        go_upto_region 17 with (fail)
        refine wp_seq_text [] (StR.no HS105) ?_
        refine Seq.pure (v := .int .i64 ((j + 1 + 1 : Nat) : Int)) rfl rfl (by intro w; go_simp <;> (first | (rw [HJ.out.1]; done) | exact HJ.out.1 | (simp [HJ.out.1]; done) | (trace_state; done))) ?_
        simp only [Act.put, nA, nB, nC]
        refine Seq.pure rfl rfl (by intro w; go_simp; try rfl) ?_
        simp only [Act.put, nA, nB, nC]
        refine Seq.done fun ws106 hws => ?_
        have HS106 := hws.st
        clear HS105 hws
        go_wp2_with fail
        go_roundg (n - (j + 1 + 1))
        case measure => rw [HGK.out]; exact HJ.out.2.1
        case rel => exact .inr ⟨j + 1, _, _, _, _, rfl, rfl, HJ.out.2.2, Lib.hid HE.out, Lib.hid ⟨Z_m0.out.min Z_z0.out, Z_m1.out.min Z_z1.out, Z_m2.out.max Z_z2.out, Z_m3.out.max Z_z3.out⟩, Lib.hid HS106.f1.drop.f1.drop⟩
      · obtain rfl : n = j + 1 := by omega
        have HSR := Lib.hid (show Ending.returned (.agg (shR pxl pxh pyl pyh ptl pth vx vy (j + 1))) = .returned (.agg (BC m0 m1 m2 m3)) from by rw [shR_succ hc.out])
        have hb0 : ¬ (((j + 1 : Nat) : Int) < ((j + 1 : Nat) : Int)) := by omega
        go_upto_region 7 with (fail)
        refine wp_seq_text [] (StR.no HS0) ?_
        refine Seq.pure rfl rfl (by intro w; go_simp; try rfl) ?_
        simp only [Act.put, nA, nB, nC]
        refine Seq.done fun ws91 hws => ?_
        have HS91 := hws.st
        clear HS0 hws
        go_upto_region 18 with (fail)
        refine wp_seq [] (by kernel_rfl) (by kernel_rfl) Reg.fin_no (StR.no HS91) ?_
        refine Seq.pure rfl rfl (by intro w; go_simp; try rfl) ?_
        simp only [Act.put, nA, nB, nC]
        refine Seq.load rfl rfl rfl rfl (by repeat (first | exact mC | apply mT)) (n := 18) rfl (by kernel_rfl) ?_
        simp only [Act.put, nA, nB, nC]
        refine Seq.pure rfl rfl (by intro w; go_simp; try rfl) ?_
        simp only [Act.put, nA, nB, nC]
        refine Seq.call rfl rfl rfl rfl (by kernel_rfl) (fun w h => (shape_w (k := k) HT.out Z_px.out Z_py.out Z_pt.out HN.out HVI.out hk0 (by omega) w h).mono (fun e w2 hh => ⟨hh.1.trans HSR.out, hh.2⟩)) ?_
        simp only [Act.put, nA, nB, nC]
        refine Seq.load rfl rfl rfl rfl (by repeat (first | exact mC | apply mT)) (n := 12) rfl (by kernel_rfl) ?_
        simp only [Act.put, nA, nB, nC]
        refine Seq.callV rfl rfl rfl rfl rfl (by kernel_rfl) (isbox_w (k := (74 * k + 100)) (b1_t := (rt m0)) (b2_t := (rt m1)) (b3_t := (rt m2)) (b4_t := (rt m3)) (r1_t := (rt m0)) (r2_t := (rt m2)) (r3_t := (rt m1)) (r4_t := (rt m3)) HT.out (RawT.rc (Z_m0.out.more (by omega))) (RawT.rc (Z_m1.out.more (by omega))) (RawT.rc (Z_m2.out.more (by omega))) (RawT.rc (Z_m3.out.more (by omega))) (RawT.rc (Z_m0.out.more (by omega))) (RawT.rc (Z_m2.out.more (by omega))) (RawT.rc (Z_m1.out.more (by omega))) (RawT.rc (Z_m3.out.more (by omega))) ⟨rfl, rfl, rfl, rfl⟩  (by omega) (by omega)) ?_
        simp only [Act.put, nA, nB, nC]
        refine Seq.pure rfl rfl (by intro w; go_simp; try rfl) ?_
        simp only [Act.put, nA, nB, nC]
        refine Seq.done fun ws92 hws => ?_
        have HS92 := hws.st
        clear HS91 hws
        go_wp2_with fail
        go_ret
        exact ⟨rfl, HS92.below⟩
end Go.Proofs.YtdhhbpnnahdofaaDoor
