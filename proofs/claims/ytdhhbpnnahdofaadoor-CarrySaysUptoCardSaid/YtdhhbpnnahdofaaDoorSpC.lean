/- see.Point; what SeePoints asks of a box. -/
import Derived.Test.YtdhhbpnnahdofaaDoorSpB
import Derived.Test.YtdhhbpnnahdofaaDoorSp7
import Derived.LoopN

namespace Go.Proofs.YtdhhbpnnahdofaaDoor
open Go.RowKit
set_option linter.unusedVariables false
set_option linter.unusedSimpArgs false

set_option maxHeartbeats 2000000 in
set_option maxRecDepth 20000 in
theorem point_w {k : Nat} {pxl pxh : Rat} {pxg : Bool} {px1 px2 : RT} {pyl pyh : Rat} {pyg : Bool} {py1 py2 : RT} {ptl pth : Rat} {ptg : Bool} {pt1 pt2 : RT} {v1 : Rat} {v1_g : Bool} {v1_t : RT} {v2 : Rat} {v2_g : Bool} {v2_t : RT} {z0 : Rat} {z1 : Rat} {z2 : Rat} {z3 : Rat} {W : World} {l : List Own} (hT : Tab W) (Zpx : RawS k pxl pxh pxg px1 px2) (Zpy : RawS k pyl pyh pyg py1 py2) (Zpt : RawS k ptl pth ptg pt1 pt2) (Zv1 : RawT k v1 v1_g v1_t) (Zv2 : RawT k v2 v2_g v2_t) (hz0 : bX0 pxl ptl pth v1 v2 = z0) (hz1 : bY0 pyl ptl pth v1 v2 = z1) (hz2 : bX1 pxh ptl pth v1 v2 = z2) (hz3 : bY1 pyh ptl pth v1 v2 = z3) (hk0 : 2 ≤ k) (hk : k ≤ 1000000000) (w : World) (h : St W l w) :
    Calls Tryd.prog 39 #[.agg (PW px1 px2 py1 py2 pt1 pt2), .agg (SW v1_t v2_t)] w fun e w' => e = .returned (.agg (BC z0 z1 z2 z3)) ∧ Below w.heap.size w w' := by
  subst hz0
  subst hz1
  subst hz2
  subst hz3
  have HT := Lib.hid (tabS hT h); clear hT h
  have Z_px := Lib.hid Zpx; clear Zpx
  have Z_py := Lib.hid Zpy; clear Zpy
  have Z_pt := Lib.hid Zpt; clear Zpt
  have Z_v1 := Lib.hid Zv1; clear Zv1
  have Z_v2 := Lib.hid Zv2; clear Zv2
  obtain ⟨c0, hc0⟩ : ∃ c, cLo ptl pth = c := ⟨_, rfl⟩
  obtain ⟨c1, hc1⟩ : ∃ c, cHi ptl pth = c := ⟨_, rfl⟩
  obtain ⟨s0, hs0⟩ : ∃ c, sLo ptl pth = c := ⟨_, rfl⟩
  obtain ⟨s1, hs1⟩ : ∃ c, sHi ptl pth = c := ⟨_, rfl⟩
  have HC := Lib.hid (show fC (maxQ (ptl * ptl) (pth * pth)) = c0 ∧ fC (sqLo ptl pth) = c1 ∧ sLo ptl pth = s0 ∧ sHi ptl pth = s1 from ⟨hc0, hc1, hs0, hs1⟩)
  have HCL := Lib.hid (show c0 ≤ c1 ∧ s0 ≤ s1 from by rw [← hc0, ← hc1, ← hs0, ← hs1]; exact csLe Z_pt.out.le)
  have HR := Lib.hid (show Ending.returned (.agg (BC (pxl + ((minQ (c0 * v1) (c1 * v1)) - (maxQ (s0 * v2) (s1 * v2)))) (pyl + ((minQ (s0 * v1) (s1 * v1)) + (minQ (c0 * v2) (c1 * v2)))) (pxh + ((maxQ (c0 * v1) (c1 * v1)) - (minQ (s0 * v2) (s1 * v2)))) (pyh + ((maxQ (s0 * v1) (s1 * v1)) + (maxQ (c0 * v2) (c1 * v2)))))) = .returned (.agg (BC (bX0 pxl ptl pth v1 v2) (bY0 pyl ptl pth v1 v2) (bX1 pxh ptl pth v1 v2) (bY1 pyh ptl pth v1 v2))) from by
    unfold bX0 bX1 bY0 bY1
    rw [hc0, hc1, hs0, hs1])
  have Z_c0 := Lib.hid (show Rz (8 * k + 10) c0 from hc0 ▸ Rz.cLo (Z_pt.out.rz (by omega)).1 (Z_pt.out.rz (by omega)).2)
  have Z_c1 := Lib.hid (show Rz (8 * k + 10) c1 from hc1 ▸ Rz.cHi (Z_pt.out.rz (by omega)).1 (Z_pt.out.rz (by omega)).2)
  have Z_s0 := Lib.hid (show Rz (8 * k + 10) s0 from hs0 ▸ sLo_rz (Z_pt.out.rz (by omega)).1 (Z_pt.out.rz (by omega)).2)
  have Z_s1 := Lib.hid (show Rz (8 * k + 10) s1 from hs1 ▸ sHi_rz (Z_pt.out.rz (by omega)).1 (Z_pt.out.rz (by omega)).2)
  clear hc0 hc1 hs0 hs1
  go_enter Tryd.func39, Tryd.ntmps39
  have HS : St w [] w := St.start
  go_upto_region 0 with (fail)
  refine wp_seq_text [] (StR.no HS) ?_
  refine Seq.box rfl rfl rfl (v := .agg (PW px1 px2 py1 py2 pt1 pt2)) (cs := PW px1 px2 py1 py2 pt1 pt2) rfl rfl ?_
  intro bk2 _ _ hbk2_r
  simp only [Act.put, nA, nB, nC]
  refine Seq.box rfl rfl rfl (v := .agg (SW v1_t v2_t)) (cs := SW v1_t v2_t) rfl rfl ?_
  intro bk3 _ _ hbk3_r
  obtain ⟨ne_bk3_bk2, hbk3_r⟩ := Reg.ne_of_put hbk3_r
  have ne_bk2_bk3 := Ne.symm ne_bk3_bk2
  simp only [Act.put, nA, nB, nC]
  refine Seq.alloc rfl rfl rfl (z := .agg (BW rz0 rz0 rz0 rz0)) (by kernel_rfl) rfl ?_
  intro bk4 _ _ hbk4_r
  obtain ⟨ne_bk4_bk3, hbk4_r⟩ := Reg.ne_of_put hbk4_r
  have ne_bk3_bk4 := Ne.symm ne_bk4_bk3
  obtain ⟨ne_bk4_bk2, hbk4_r⟩ := Reg.ne_of_put hbk4_r
  have ne_bk2_bk4 := Ne.symm ne_bk4_bk2
  simp only [Act.put, nA, nB, nC]
  refine Seq.done fun ws1 hws => ?_
  have HS1 := hws.list3 (p := bk2) (q := bk3) (r := bk4) (by repeat (first | exact rS | refine rN (by assumption) ?_)) (by repeat (first | exact rS | refine rN (by assumption) ?_)) (by repeat (first | exact rS | refine rN (by assumption) ?_)) (by assumption) (by assumption) (by assumption)
  clear HS hws
  go_upto_region 1 with (fail)
  refine wp_seq [] (by kernel_rfl) (by kernel_rfl) Reg.fin_no (StR.no HS1) ?_
  refine Seq.pure rfl rfl (by intro w; go_simp; try rfl) ?_
  simp only [Act.put, nA, nB, nC]
  refine Seq.loadAt rfl rfl rfl rfl (by repeat (first | exact mC | apply mT)) (n := 6) (cs' := SW pt1 pt2) (Nat.le_of_ble_eq_true rfl) (by kernel_rfl) rfl ?_
  simp only [Act.put, nA, nB, nC]
  refine Seq.call rfl rfl rfl rfl (by kernel_rfl) (norm_w (k := (1 * k + 2)) (a1 := pt1) (a2 := pt2) HT.out (Z_pt.out.more (by omega))  rfl rfl (by omega) (by omega)) ?_
  simp only [Act.put, nA, nB, nC]
  refine Seq.call rfl rfl rfl rfl (by kernel_rfl) (scos_q (k := (1 * k + 0)) HT.out (((Z_pt.out.rz (by omega)).1).more (by omega)) (((Z_pt.out.rz (by omega)).2).more (by omega)) Z_pt.out.le HC.out.1 HC.out.2.1 (by omega)) ?_
  simp only [Act.put, nA, nB, nC]
  refine Seq.pure rfl rfl (by intro w; go_simp; try rfl) ?_
  simp only [Act.put, nA, nB, nC]
  refine Seq.loadAt rfl rfl rfl rfl (by repeat (first | exact mC | apply mT)) (n := 6) (cs' := SW pt1 pt2) (Nat.le_of_ble_eq_true rfl) (by kernel_rfl) rfl ?_
  simp only [Act.put, nA, nB, nC]
  refine Seq.call rfl rfl rfl rfl (by kernel_rfl) (norm_w (k := (1 * k + 2)) (a1 := pt1) (a2 := pt2) HT.out (Z_pt.out.more (by omega))  rfl rfl (by omega) (by omega)) ?_
  simp only [Act.put, nA, nB, nC]
  refine Seq.call rfl rfl rfl rfl (by kernel_rfl) (ssin_q (k := (1 * k + 0)) HT.out (((Z_pt.out.rz (by omega)).1).more (by omega)) (((Z_pt.out.rz (by omega)).2).more (by omega)) Z_pt.out.le HC.out.2.2.1 HC.out.2.2.2 (by omega)) ?_
  simp only [Act.put, nA, nB, nC]
  refine Seq.alloc rfl rfl rfl (z := .agg (SW rz0 rz0)) (by kernel_rfl) rfl ?_
  intro bk5 _ _ hbk5_r
  simp only [Act.put, nA, nB, nC]
  refine Seq.alloc rfl rfl rfl (z := .agg (SW rz0 rz0)) (by kernel_rfl) rfl ?_
  intro bk6 _ _ hbk6_r
  obtain ⟨ne_bk6_bk5, hbk6_r⟩ := Reg.ne_of_put hbk6_r
  have ne_bk5_bk6 := Ne.symm ne_bk6_bk5
  simp only [Act.put, nA, nB, nC]
  refine Seq.store rfl rfl rfl rfl rfl (by repeat (first | exact rS | refine rN (by assumption) ?_)) (n := 6) rfl rfl (by kernel_rfl) (VC_one _ _) ?_
  simp only [Act.put, nA, nB, nC]
  refine Seq.store rfl rfl rfl rfl rfl (by repeat (first | exact rS | refine rN (by assumption) ?_)) (n := 6) rfl rfl (by kernel_rfl) (VC_one _ _) ?_
  simp only [Act.put, nA, nB, nC]
  refine Seq.done fun ws2 hws => ?_
  have HS2 := hws.list2 (p := bk5) (q := bk6) (by repeat (first | exact rS | refine rN (by assumption) ?_)) (by repeat (first | exact rS | refine rN (by assumption) ?_)) (by assumption)
  clear HS1 hws
  go_upto_region 2 with (fail)
  refine wp_seq [] (by kernel_rfl) (by kernel_rfl) Reg.fin_no (StR.no HS2) ?_
  refine Seq.pure rfl rfl (by intro w; go_simp; try rfl) ?_
  simp only [Act.put, nA, nB, nC]
  refine Seq.loadAt rfl rfl rfl rfl (by repeat (first | exact mC | apply mT)) (n := 3) (cs' := RT.c v1_t) (Nat.le_of_ble_eq_true rfl) (by kernel_rfl) rfl ?_
  simp only [Act.put, nA, nB, nC]
  refine Seq.call rfl rfl rfl rfl (by kernel_rfl) (sof_w (k := (1 * k + 2)) (t_t := v1_t) HT.out (Z_v1.out.more (by omega))  rfl rfl (by omega) (by omega)) ?_
  simp only [Act.put, nA, nB, nC]
  refine Seq.pure rfl rfl (by intro w; go_simp; try rfl) ?_
  simp only [Act.put, nA, nB, nC]
  refine Seq.loadAt rfl rfl rfl rfl (by repeat (first | exact mC | apply mT)) (n := 3) (cs' := RT.c v2_t) (Nat.le_of_ble_eq_true rfl) (by kernel_rfl) rfl ?_
  simp only [Act.put, nA, nB, nC]
  refine Seq.call rfl rfl rfl rfl (by kernel_rfl) (sof_w (k := (1 * k + 2)) (t_t := v2_t) HT.out (Z_v2.out.more (by omega))  rfl rfl (by omega) (by omega)) ?_
  simp only [Act.put, nA, nB, nC]
  refine Seq.alloc rfl rfl rfl (z := .agg (SW rz0 rz0)) (by kernel_rfl) rfl ?_
  intro bk7 _ _ hbk7_r
  simp only [Act.put, nA, nB, nC]
  refine Seq.alloc rfl rfl rfl (z := .agg (SW rz0 rz0)) (by kernel_rfl) rfl ?_
  intro bk8 _ _ hbk8_r
  obtain ⟨ne_bk8_bk7, hbk8_r⟩ := Reg.ne_of_put hbk8_r
  have ne_bk7_bk8 := Ne.symm ne_bk8_bk7
  simp only [Act.put, nA, nB, nC]
  refine Seq.store rfl rfl rfl rfl rfl (by repeat (first | exact rS | refine rN (by assumption) ?_)) (n := 6) rfl rfl (by kernel_rfl) (VC_one _ _) ?_
  simp only [Act.put, nA, nB, nC]
  refine Seq.store rfl rfl rfl rfl rfl (by repeat (first | exact rS | refine rN (by assumption) ?_)) (n := 6) rfl rfl (by kernel_rfl) (VC_one _ _) ?_
  simp only [Act.put, nA, nB, nC]
  refine Seq.done fun ws3 hws => ?_
  have HS3 := hws.list2 (p := bk7) (q := bk8) (by repeat (first | exact rS | refine rN (by assumption) ?_)) (by repeat (first | exact rS | refine rN (by assumption) ?_)) (by assumption)
  clear HS2 hws
  go_upto_region 3 with (fail)
  refine wp_seq [] (by kernel_rfl) (by kernel_rfl) Reg.fin_no (StR.no HS3) ?_
  refine Seq.pure rfl rfl (by intro w; go_simp; try rfl) ?_
  simp only [Act.put, nA, nB, nC]
  refine Seq.loadAt rfl rfl rfl rfl (by repeat (first | exact mC | apply mT)) (n := 6) (cs' := SW px1 px2) (Nat.le_of_ble_eq_true rfl) (by kernel_rfl) rfl ?_
  simp only [Act.put, nA, nB, nC]
  refine Seq.call rfl rfl rfl rfl (by kernel_rfl) (norm_w (k := (1 * k + 2)) (a1 := px1) (a2 := px2) HT.out (Z_px.out.more (by omega))  rfl rfl (by omega) (by omega)) ?_
  simp only [Act.put, nA, nB, nC]
  refine Seq.load rfl rfl rfl rfl (by repeat (first | exact mC | apply mT)) (n := 6) rfl (by kernel_rfl) ?_
  simp only [Act.put, nA, nB, nC]
  refine Seq.load rfl rfl rfl rfl (by repeat (first | exact mC | apply mT)) (n := 6) rfl (by kernel_rfl) ?_
  simp only [Act.put, nA, nB, nC]
  refine Seq.call rfl rfl rfl rfl (by kernel_rfl) (smul_q (k := (8 * k + 10)) HT.out (Z_c0.out.more (by omega)) (Z_c1.out.more (by omega)) (Z_v1.out.rz.more (by omega)) (Z_v1.out.rz.more (by omega)) HCL.out.1 Rat.le_refl (min4 _ _) (max4 _ _) (by omega)) ?_
  simp only [Act.put, nA, nB, nC]
  refine Seq.load rfl rfl rfl rfl (by repeat (first | exact mC | apply mT)) (n := 6) rfl (by kernel_rfl) ?_
  simp only [Act.put, nA, nB, nC]
  refine Seq.load rfl rfl rfl rfl (by repeat (first | exact mC | apply mT)) (n := 6) rfl (by kernel_rfl) ?_
  simp only [Act.put, nA, nB, nC]
  refine Seq.call rfl rfl rfl rfl (by kernel_rfl) (smul_q (k := (8 * k + 10)) HT.out (Z_s0.out.more (by omega)) (Z_s1.out.more (by omega)) (Z_v2.out.rz.more (by omega)) (Z_v2.out.rz.more (by omega)) HCL.out.2 Rat.le_refl (min4 _ _) (max4 _ _) (by omega)) ?_
  simp only [Act.put, nA, nB, nC]
  refine Seq.call rfl rfl rfl rfl (by kernel_rfl) (ssub_q (k := (9 * k + 10)) HT.out ((Rz.min (k := (9 * k + 10)) ((Z_c0.out.mul (Z_v1.out.rz)).more (by omega)) ((Z_c1.out.mul (Z_v1.out.rz)).more (by omega))).more (by omega)) ((Rz.max (k := (9 * k + 10)) ((Z_c0.out.mul (Z_v1.out.rz)).more (by omega)) ((Z_c1.out.mul (Z_v1.out.rz)).more (by omega))).more (by omega)) ((Rz.min (k := (9 * k + 10)) ((Z_s0.out.mul (Z_v2.out.rz)).more (by omega)) ((Z_s1.out.mul (Z_v2.out.rz)).more (by omega))).more (by omega)) ((Rz.max (k := (9 * k + 10)) ((Z_s0.out.mul (Z_v2.out.rz)).more (by omega)) ((Z_s1.out.mul (Z_v2.out.rz)).more (by omega))).more (by omega)) (minmax_le _ _) (minmax_le _ _) rfl rfl (by omega)) ?_
  simp only [Act.put, nA, nB, nC]
  refine Seq.call rfl rfl rfl rfl (by kernel_rfl) (sadd_q (k := (36 * k + 41)) HT.out ((Z_px.out.rz (by omega)).1.more (by omega)) ((Z_px.out.rz (by omega)).2.more (by omega)) (((Rz.min (k := (9 * k + 10)) ((Z_c0.out.mul (Z_v1.out.rz)).more (by omega)) ((Z_c1.out.mul (Z_v1.out.rz)).more (by omega))).sub (Rz.max (k := (9 * k + 10)) ((Z_s0.out.mul (Z_v2.out.rz)).more (by omega)) ((Z_s1.out.mul (Z_v2.out.rz)).more (by omega)))).more (by omega)) (((Rz.max (k := (9 * k + 10)) ((Z_c0.out.mul (Z_v1.out.rz)).more (by omega)) ((Z_c1.out.mul (Z_v1.out.rz)).more (by omega))).sub (Rz.min (k := (9 * k + 10)) ((Z_s0.out.mul (Z_v2.out.rz)).more (by omega)) ((Z_s1.out.mul (Z_v2.out.rz)).more (by omega)))).more (by omega)) Z_px.out.le (sub_le2 (minmax_le _ _) (minmax_le _ _)) rfl rfl (by omega)) ?_
  simp only [Act.put, nA, nB, nC]
  refine Seq.alloc rfl rfl rfl (z := .agg (SW rz0 rz0)) (by kernel_rfl) rfl ?_
  intro bk9 _ _ hbk9_r
  simp only [Act.put, nA, nB, nC]
  refine Seq.store rfl rfl rfl rfl rfl (by repeat (first | exact rS | refine rN (by assumption) ?_)) (n := 6) rfl rfl (by kernel_rfl) (VC_one _ _) ?_
  simp only [Act.put, nA, nB, nC]
  refine Seq.done fun ws4 hws => ?_
  have HS4 := hws.list1 (p := bk9) (by repeat (first | exact rS | refine rN (by assumption) ?_))
  clear HS3 hws
  go_upto_region 4 with (fail)
  refine wp_seq [] (by kernel_rfl) (by kernel_rfl) Reg.fin_no (StR.no HS4) ?_
  refine Seq.pure rfl rfl (by intro w; go_simp; try rfl) ?_
  simp only [Act.put, nA, nB, nC]
  refine Seq.loadAt rfl rfl rfl rfl (by repeat (first | exact mC | apply mT)) (n := 6) (cs' := SW py1 py2) (Nat.le_of_ble_eq_true rfl) (by kernel_rfl) rfl ?_
  simp only [Act.put, nA, nB, nC]
  refine Seq.call rfl rfl rfl rfl (by kernel_rfl) (norm_w (k := (1 * k + 2)) (a1 := py1) (a2 := py2) HT.out (Z_py.out.more (by omega))  rfl rfl (by omega) (by omega)) ?_
  simp only [Act.put, nA, nB, nC]
  refine Seq.load rfl rfl rfl rfl (by repeat (first | exact mC | apply mT)) (n := 6) rfl (by kernel_rfl) ?_
  simp only [Act.put, nA, nB, nC]
  refine Seq.load rfl rfl rfl rfl (by repeat (first | exact mC | apply mT)) (n := 6) rfl (by kernel_rfl) ?_
  simp only [Act.put, nA, nB, nC]
  refine Seq.call rfl rfl rfl rfl (by kernel_rfl) (smul_q (k := (8 * k + 10)) HT.out (Z_s0.out.more (by omega)) (Z_s1.out.more (by omega)) (Z_v1.out.rz.more (by omega)) (Z_v1.out.rz.more (by omega)) HCL.out.2 Rat.le_refl (min4 _ _) (max4 _ _) (by omega)) ?_
  simp only [Act.put, nA, nB, nC]
  refine Seq.load rfl rfl rfl rfl (by repeat (first | exact mC | apply mT)) (n := 6) rfl (by kernel_rfl) ?_
  simp only [Act.put, nA, nB, nC]
  refine Seq.load rfl rfl rfl rfl (by repeat (first | exact mC | apply mT)) (n := 6) rfl (by kernel_rfl) ?_
  simp only [Act.put, nA, nB, nC]
  refine Seq.call rfl rfl rfl rfl (by kernel_rfl) (smul_q (k := (8 * k + 10)) HT.out (Z_c0.out.more (by omega)) (Z_c1.out.more (by omega)) (Z_v2.out.rz.more (by omega)) (Z_v2.out.rz.more (by omega)) HCL.out.1 Rat.le_refl (min4 _ _) (max4 _ _) (by omega)) ?_
  simp only [Act.put, nA, nB, nC]
  refine Seq.call rfl rfl rfl rfl (by kernel_rfl) (sadd_q (k := (9 * k + 10)) HT.out ((Rz.min (k := (9 * k + 10)) ((Z_s0.out.mul (Z_v1.out.rz)).more (by omega)) ((Z_s1.out.mul (Z_v1.out.rz)).more (by omega))).more (by omega)) ((Rz.max (k := (9 * k + 10)) ((Z_s0.out.mul (Z_v1.out.rz)).more (by omega)) ((Z_s1.out.mul (Z_v1.out.rz)).more (by omega))).more (by omega)) ((Rz.min (k := (9 * k + 10)) ((Z_c0.out.mul (Z_v2.out.rz)).more (by omega)) ((Z_c1.out.mul (Z_v2.out.rz)).more (by omega))).more (by omega)) ((Rz.max (k := (9 * k + 10)) ((Z_c0.out.mul (Z_v2.out.rz)).more (by omega)) ((Z_c1.out.mul (Z_v2.out.rz)).more (by omega))).more (by omega)) (minmax_le _ _) (minmax_le _ _) rfl rfl (by omega)) ?_
  simp only [Act.put, nA, nB, nC]
  refine Seq.call rfl rfl rfl rfl (by kernel_rfl) (sadd_q (k := (36 * k + 41)) HT.out ((Z_py.out.rz (by omega)).1.more (by omega)) ((Z_py.out.rz (by omega)).2.more (by omega)) (((Rz.min (k := (9 * k + 10)) ((Z_s0.out.mul (Z_v1.out.rz)).more (by omega)) ((Z_s1.out.mul (Z_v1.out.rz)).more (by omega))).add (Rz.min (k := (9 * k + 10)) ((Z_c0.out.mul (Z_v2.out.rz)).more (by omega)) ((Z_c1.out.mul (Z_v2.out.rz)).more (by omega)))).more (by omega)) (((Rz.max (k := (9 * k + 10)) ((Z_s0.out.mul (Z_v1.out.rz)).more (by omega)) ((Z_s1.out.mul (Z_v1.out.rz)).more (by omega))).add (Rz.max (k := (9 * k + 10)) ((Z_c0.out.mul (Z_v2.out.rz)).more (by omega)) ((Z_c1.out.mul (Z_v2.out.rz)).more (by omega)))).more (by omega)) Z_py.out.le (add_le2 (minmax_le _ _) (minmax_le _ _)) rfl rfl (by omega)) ?_
  simp only [Act.put, nA, nB, nC]
  refine Seq.alloc rfl rfl rfl (z := .agg (SW rz0 rz0)) (by kernel_rfl) rfl ?_
  intro bk10 _ _ hbk10_r
  simp only [Act.put, nA, nB, nC]
  refine Seq.store rfl rfl rfl rfl rfl (by repeat (first | exact rS | refine rN (by assumption) ?_)) (n := 6) rfl rfl (by kernel_rfl) (VC_one _ _) ?_
  simp only [Act.put, nA, nB, nC]
  refine Seq.done fun ws5 hws => ?_
  have HS5 := hws.list1 (p := bk10) (by repeat (first | exact rS | refine rN (by assumption) ?_))
  clear HS4 hws
  go_upto_region 5 with (fail)
  have HPbk4 := HS5.f8
  refine wp_seq_text [] (StR.move (StR.no HPbk4)) ?_
  refine Seq.pure rfl rfl (by intro w; go_simp; try rfl) ?_
  simp only [Act.put, nA, nB, nC]
  refine Seq.loadAt rfl rfl rfl rfl (by repeat (first | exact mC | apply mT)) (n := 3) (cs' := RC (pxl + ((minQ (c0 * v1) (c1 * v1)) - (maxQ (s0 * v2) (s1 * v2))))) (Nat.le_of_ble_eq_true rfl) (by kernel_rfl) rfl ?_
  simp only [Act.put, nA, nB, nC]
  refine Seq.pure rfl rfl (by intro w; go_simp; try rfl) ?_
  simp only [Act.put, nA, nB, nC]
  refine Seq.loadAt rfl rfl rfl rfl (by repeat (first | exact mC | apply mT)) (n := 3) (cs' := RC (pyl + ((minQ (s0 * v1) (s1 * v1)) + (minQ (c0 * v2) (c1 * v2))))) (Nat.le_of_ble_eq_true rfl) (by kernel_rfl) rfl ?_
  simp only [Act.put, nA, nB, nC]
  refine Seq.pure (v := .agg (VC (pxl + ((minQ (c0 * v1) (c1 * v1)) - (maxQ (s0 * v2) (s1 * v2)))) (pyl + ((minQ (s0 * v1) (s1 * v1)) + (minQ (c0 * v2) (c1 * v2)))))) rfl rfl (fun w => bld_Vec rfl rfl rfl w) ?_
  simp only [Act.put, nA, nB, nC]
  refine Seq.pure rfl rfl (by intro w; go_simp; try rfl) ?_
  simp only [Act.put, nA, nB, nC]
  refine Seq.loadAt rfl rfl rfl rfl (by repeat (first | exact mC | apply mT)) (n := 3) (cs' := RC (pxh + ((maxQ (c0 * v1) (c1 * v1)) - (minQ (s0 * v2) (s1 * v2))))) (Nat.le_of_ble_eq_true rfl) (by kernel_rfl) rfl ?_
  simp only [Act.put, nA, nB, nC]
  refine Seq.pure rfl rfl (by intro w; go_simp; try rfl) ?_
  simp only [Act.put, nA, nB, nC]
  refine Seq.loadAt rfl rfl rfl rfl (by repeat (first | exact mC | apply mT)) (n := 3) (cs' := RC (pyh + ((maxQ (s0 * v1) (s1 * v1)) + (maxQ (c0 * v2) (c1 * v2))))) (Nat.le_of_ble_eq_true rfl) (by kernel_rfl) rfl ?_
  simp only [Act.put, nA, nB, nC]
  refine Seq.pure (v := .agg (VC (pxh + ((maxQ (c0 * v1) (c1 * v1)) - (minQ (s0 * v2) (s1 * v2)))) (pyh + ((maxQ (s0 * v1) (s1 * v1)) + (maxQ (c0 * v2) (c1 * v2)))))) rfl rfl (fun w => bld_Vec rfl rfl rfl w) ?_
  simp only [Act.put, nA, nB, nC]
  refine Seq.pure (v := .agg (BC (pxl + ((minQ (c0 * v1) (c1 * v1)) - (maxQ (s0 * v2) (s1 * v2)))) (pyl + ((minQ (s0 * v1) (s1 * v1)) + (minQ (c0 * v2) (c1 * v2)))) (pxh + ((maxQ (c0 * v1) (c1 * v1)) - (minQ (s0 * v2) (s1 * v2)))) (pyh + ((maxQ (s0 * v1) (s1 * v1)) + (maxQ (c0 * v2) (c1 * v2)))))) rfl rfl (fun w => bld_Box rfl rfl rfl w) ?_
  simp only [Act.put, nA, nB, nC]
  refine Seq.store rfl rfl rfl rfl rfl (by repeat (first | exact rS | refine rN (by assumption) ?_)) (n := 12) rfl rfl (by kernel_rfl) (BC_one _ _ _ _) ?_
  simp only [Act.put, nA, nB, nC]
  refine Seq.done fun ws6 hws => ?_
  have HS6 := hws.list1 (p := bk4) (by repeat (first | exact rS | refine rN (by assumption) ?_))
  clear HS5 hws HPbk4
  go_wp2_with fail
  exact ret_own rfl rfl rfl HS6 (by repeat (first | exact mC | apply mT)) (n := 12) rfl (by kernel_rfl) ⟨HR.out, HS6.below⟩
end Go.Proofs.YtdhhbpnnahdofaaDoor
