/- see.Shape. -/
import Derived.Test.YtdhhbpnnahdofaaDoorSpC
import Derived.Test.YtdhhbpnnahdofaaDoorSpV
import Derived.LoopN
import Derived.Deep.LoopGhost

namespace Go.Proofs.YtdhhbpnnahdofaaDoor
open Go.RowKit
set_option linter.unusedVariables false
set_option linter.unusedSimpArgs false

def fMin (f : Nat → Rat) : Nat → Rat
  | 0 => f 0
  | j + 1 => minQ (fMin f j) (f (j + 1))
def fMax (f : Nat → Rat) : Nat → Rat
  | 0 => f 0
  | j + 1 => maxQ (fMax f j) (f (j + 1))
/-- the box of the first j + 1 points, in the order of a box, and of the reference's ranges -/
def shB (xl xh yl yh tl th : Rat) (vx vy : Nat → Rat) (j : Nat) : Rat × Rat × Rat × Rat :=
  (fMin (fun i => bX0 xl tl th (vx i) (vy i)) j, fMin (fun i => bY0 yl tl th (vx i) (vy i)) j, fMax (fun i => bX1 xh tl th (vx i) (vy i)) j, fMax (fun i => bY1 yh tl th (vx i) (vy i)) j)
theorem shB_zero {xl xh yl yh tl th : Rat} {vx vy : Nat → Rat} {u v : Rat} (hu : vx 0 = u) (hv : vy 0 = v) : shB xl xh yl yh tl th vx vy 0 = (bX0 xl tl th u v, bY0 yl tl th u v, bX1 xh tl th u v, bY1 yh tl th u v) := by subst hu hv; rfl
theorem shB_succ {xl xh yl yh tl th : Rat} {vx vy : Nat → Rat} {j : Nat} {u v : Rat} {m0 m1 m2 m3 : Rat} (hu : vx (j + 1) = u) (hv : vy (j + 1) = v) (h : shB xl xh yl yh tl th vx vy j = (m0, m1, m2, m3)) :
    shB xl xh yl yh tl th vx vy (j + 1) = (minQ m0 (bX0 xl tl th u v), minQ m1 (bY0 yl tl th u v), maxQ m2 (bX1 xh tl th u v), maxQ m3 (bY1 yh tl th u v)) := by
  subst hu hv
  unfold shB at h ⊢
  simp only [Prod.mk.injEq] at h
  obtain ⟨rfl, rfl, rfl, rfl⟩ := h
  rfl
def shR (xl xh yl yh tl th : Rat) (vx vy : Nat → Rat) : Nat → Array Value
  | 0 => BW rz0 rz0 rz0 rz0
  | j + 1 => BC (shB xl xh yl yh tl th vx vy j).1 (shB xl xh yl yh tl th vx vy j).2.1 (shB xl xh yl yh tl th vx vy j).2.2.1 (shB xl xh yl yh tl th vx vy j).2.2.2
theorem shR_succ {xl xh yl yh tl th : Rat} {vx vy : Nat → Rat} {j : Nat} {m0 m1 m2 m3 : Rat} (h : shB xl xh yl yh tl th vx vy j = (m0, m1, m2, m3)) : shR xl xh yl yh tl th vx vy (j + 1) = BC m0 m1 m2 m3 := by
  show BC (shB xl xh yl yh tl th vx vy j).1 (shB xl xh yl yh tl th vx vy j).2.1 (shB xl xh yl yh tl th vx vy j).2.2.1 (shB xl xh yl yh tl th vx vy j).2.2.2 = _
  rw [h]
set_option maxHeartbeats 4000000 in
set_option maxRecDepth 20000 in
theorem shape_w {k n c : Nat} {pxl pxh pyl pyh ptl pth : Rat} {pxg pyg ptg : Bool} {px1 px2 py1 py2 pt1 pt2 : RT} {A : Option Addr} {vx vy : Nat → Rat} {W : World} {l : List Own} (hT : Tab W) (Zpx : RawS k pxl pxh pxg px1 px2) (Zpy : RawS k pyl pyh pyg py1 py2) (Zpt : RawS k ptl pth ptg pt1 pt2) (hn : n ≤ 1000000000) (hvi : VIn W A n c k vx vy) (hk0 : 2 ≤ k) (hk : k ≤ 999999998) (w : World) (h : St W l w) :
    Calls Tryd.prog 41 #[.agg (PW px1 px2 py1 py2 pt1 pt2), .slice A n c] w fun e w' => e = .returned (.agg (shR pxl pxh pyl pyh ptl pth vx vy n)) ∧ Below w.heap.size w w' := by
  have HVI := Lib.hid (hvi.next h); clear hvi
  have HN := Lib.hid hn
  have HT := Lib.hid (tabS hT h); clear hT h
  have Z_px := Lib.hid Zpx; clear Zpx
  have Z_py := Lib.hid Zpy; clear Zpy
  have Z_pt := Lib.hid Zpt; clear Zpt
  go_enter Tryd.func41, Tryd.ntmps41
  have HS : St w [] w := St.start
  go_upto_region 0 with (fail)
  refine wp_seq_text [] (StR.no HS) ?_
  refine Seq.box rfl rfl rfl (v := .agg (PW px1 px2 py1 py2 pt1 pt2)) (cs := PW px1 px2 py1 py2 pt1 pt2) rfl rfl ?_
  intro bk2 _ _ hbk2_r
  simp only [Act.put, nA, nB, nC]
  refine Seq.alloc rfl rfl rfl (z := .agg (BW rz0 rz0 rz0 rz0)) (by kernel_rfl) rfl ?_
  intro bk4 _ _ hbk4_r
  obtain ⟨ne_bk4_bk2, hbk4_r⟩ := Reg.ne_of_put hbk4_r
  have ne_bk2_bk4 := Ne.symm ne_bk4_bk2
  simp only [Act.put, nA, nB, nC]
  refine Seq.done fun ws1 hws => ?_
  have HS1 := hws.list2 (p := bk2) (q := bk4) (by repeat (first | exact rS | refine rN (by assumption) ?_)) (by repeat (first | exact rS | refine rN (by assumption) ?_)) (by assumption)
  clear HS hws
  go_upto_region 1 with (fail)
  refine wp_seq_text [] (StR.no HS1) ?_
  refine Seq.alloc rfl rfl rfl (z := .agg (BW rz0 rz0 rz0 rz0)) (by kernel_rfl) rfl ?_
  intro bk5 _ _ hbk5_r
  simp only [Act.put, nA, nB, nC]
  refine Seq.done fun ws2 hws => ?_
  have HS2 := hws.list1 (p := bk5) (by repeat (first | exact rS | refine rN (by assumption) ?_))
  clear HS1 hws
  go_upto_region 2 with (fail)
  refine wp_seq_text [] (StR.no HS2) ?_
  iterate 3 (refine Seq.pure rfl rfl (by intro w; go_simp; try rfl) ?_; simp only [Act.put, nA, nB, nC])
  refine Seq.done fun ws3 hws => ?_
  have HS3 := hws.st
  clear HS2 hws
  go_wp2_with fail
  go_loopg [11] n (fun kx i wr => (kx = n ∧ i = .int .i64 0 ∧ Hid (St w [(bk5, 71, BW rz0 rz0 rz0 rz0), (bk2, 36, PW px1 px2 py1 py2 pt1 pt2), (bk4, 71, BW rz0 rz0 rz0 rz0)] wr)) ∨ (∃ j : Nat, ∃ m0 m1 m2 m3 : Rat, kx = n - (j + 1) ∧ i = .int .i64 ((j + 1 : Nat) : Int) ∧ j + 1 ≤ n ∧ Hid (shB pxl pxh pyl pyh ptl pth vx vy j = (m0, m1, m2, m3)) ∧ Hid (Rz (74 * k + 100) m0 ∧ Rz (74 * k + 100) m1 ∧ Rz (74 * k + 100) m2 ∧ Rz (74 * k + 100) m3) ∧ Hid (St w [(bk5, 71, BC m0 m1 m2 m3), (bk2, 36, PW px1 px2 py1 py2 pt1 pt2), (bk4, 71, BW rz0 rz0 rz0 rz0)] wr)))
  case atStart => exact .inl ⟨rfl, rfl, Lib.hid HS3⟩
  case round =>
    rcases hrel with ⟨hgk, rfl, hS⟩ | ⟨j, m0, m1, m2, m3, hgk, rfl, hjn, hc, hz, hS⟩
    · have HS0 := hS.out
      clear hS
      have HGK := Lib.hid hgk; clear hgk
      by_cases hlt : 0 < n
      · obtain ⟨g, f, ta, tb, ga, gb, hI1, hI2, hu, hv⟩ := HVI.out (0) (by omega)
        obtain ⟨u, hu0⟩ : ∃ u, vx (0) = u := ⟨_, rfl⟩
        obtain ⟨v, hv0⟩ : ∃ v, vy (0) = v := ⟨_, rfl⟩
        rw [hu0] at hu
        rw [hv0] at hv
        have HU := Lib.hid hu; clear hu
        have HV := Lib.hid hv; clear hv
        obtain ⟨z0, hz0⟩ : ∃ z, bX0 pxl ptl pth u v = z := ⟨_, rfl⟩
        obtain ⟨z1, hz1⟩ : ∃ z, bY0 pyl ptl pth u v = z := ⟨_, rfl⟩
        obtain ⟨z2, hz2⟩ : ∃ z, bX1 pxh ptl pth u v = z := ⟨_, rfl⟩
        obtain ⟨z3, hz3⟩ : ∃ z, bY1 pyh ptl pth u v = z := ⟨_, rfl⟩
        have HZE := Lib.hid (show bX0 pxl ptl pth u v = z0 ∧ bY0 pyl ptl pth u v = z1 ∧ bX1 pxh ptl pth u v = z2 ∧ bY1 pyh ptl pth u v = z3 from ⟨hz0, hz1, hz2, hz3⟩)
        have Z_z0 := Lib.hid (show Rz (74 * k + 100) z0 from hz0 ▸ (b_rz (k := k) (Z_px.out.rz (by omega)).1 (by exact (Z_pt.out.rz (by omega)).1) (by exact (Z_pt.out.rz (by omega)).2) HU.out.rz HV.out.rz).1)
        have Z_z1 := Lib.hid (show Rz (74 * k + 100) z1 from hz1 ▸ (b_rz (k := k) (Z_py.out.rz (by omega)).1 (by exact (Z_pt.out.rz (by omega)).1) (by exact (Z_pt.out.rz (by omega)).2) HU.out.rz HV.out.rz).2.2.1)
        have Z_z2 := Lib.hid (show Rz (74 * k + 100) z2 from hz2 ▸ (b_rz (k := k) (Z_px.out.rz (by omega)).2 (by exact (Z_pt.out.rz (by omega)).1) (by exact (Z_pt.out.rz (by omega)).2) HU.out.rz HV.out.rz).2.1)
        have Z_z3 := Lib.hid (show Rz (74 * k + 100) z3 from hz3 ▸ (b_rz (k := k) (Z_py.out.rz (by omega)).2 (by exact (Z_pt.out.rz (by omega)).1) (by exact (Z_pt.out.rz (by omega)).2) HU.out.rz HV.out.rz).2.2.2)
        have HJ := Lib.hid (show n - 1 < n ∧ 0 + 1 ≤ n from ⟨by omega, by omega⟩)
        have HLT := Lib.hid hlt; clear hlt
        have hb0 : (0 : Int) < (n : Int) := by have := HLT.out; omega
        have HE := Lib.hid (shB_zero (xl := pxl) (xh := pxh) (yl := pyl) (yh := pyh) (tl := ptl) (th := pth) hu0 hv0)
        rw [hz0, hz1, hz2, hz3] at HE
        clear hz0 hz1 hz2 hz3 hu0 hv0
        go_upto_region 3 with (fail)
        refine wp_seq_text [] (StR.no HS0) ?_
        refine Seq.pure rfl rfl (by intro w; go_simp; try rfl) ?_
        simp only [Act.put, nA, nB, nC]
        refine Seq.done fun ws51 hws => ?_
        have HS51 := hws.st
        clear HS0 hws
        go_upto_region 4 with (fail)
        refine wp_seq_text [] (StR.no HS51) ?_
        refine Seq.pure rfl rfl (by intro w; go_simp; try rfl) ?_
        simp only [Act.put, nA, nB, nC]
        refine Seq.indexI rfl rfl rfl rfl rfl hI1 ?_
        simp only [Act.put, nA, nB, nC]
        refine Seq.loadI rfl rfl rfl rfl hI2 ?_
        simp only [Act.put, nA, nB, nC]
        refine Seq.alloc rfl rfl rfl (z := .agg (SW rz0 rz0)) (by kernel_rfl) rfl ?_
        intro bk7 _ _ hbk7_r
        simp only [Act.put, nA, nB, nC]
        refine Seq.pure rfl rfl (by intro w; go_simp; try rfl) ?_
        simp only [Act.put, nA, nB, nC]
        refine Seq.store rfl rfl rfl rfl rfl (by repeat (first | exact rS | refine rN (by assumption) ?_)) (n := 6) rfl rfl (by kernel_rfl) (SW_one _ _) ?_
        simp only [Act.put, nA, nB, nC]
        refine Seq.done fun ws52 hws => ?_
        have HS52 := hws.list1 (p := bk7) (by repeat (first | exact rS | refine rN (by assumption) ?_))
        clear HS51 hws
        go_upto_region 5 with (fail)
        refine wp_seq_text [] (StR.no HS52) ?_
        refine Seq.load rfl rfl rfl rfl (by repeat (first | exact mC | apply mT)) (n := 18) rfl (by kernel_rfl) ?_
        simp only [Act.put, nA, nB, nC]
        refine Seq.load rfl rfl rfl rfl (by repeat (first | exact mC | apply mT)) (n := 6) rfl (by kernel_rfl) ?_
        simp only [Act.put, nA, nB, nC]
        refine Seq.call rfl rfl rfl rfl (by kernel_rfl) (point_w (k := (1 * k + 2)) (px1 := px1) (px2 := px2) (py1 := py1) (py2 := py2) (pt1 := pt1) (pt2 := pt2) (v1_t := ta) (v2_t := tb) HT.out (Z_px.out.more (by omega)) (Z_py.out.more (by omega)) (Z_pt.out.more (by omega)) (HU.out.more (by omega)) (HV.out.more (by omega))  HZE.out.1 HZE.out.2.1 HZE.out.2.2.1 HZE.out.2.2.2 (by omega) (by omega)) ?_
        simp only [Act.put, nA, nB, nC]
        refine Seq.alloc rfl rfl rfl (z := .agg (BW rz0 rz0 rz0 rz0)) (by kernel_rfl) rfl ?_
        intro bk8 _ _ hbk8_r
        simp only [Act.put, nA, nB, nC]
        refine Seq.store rfl rfl rfl rfl rfl (by repeat (first | exact rS | refine rN (by assumption) ?_)) (n := 12) rfl rfl (by kernel_rfl) (BC_one _ _ _ _) ?_
        simp only [Act.put, nA, nB, nC]
        refine Seq.done fun ws53 hws => ?_
        have HS53 := hws.list1 (p := bk8) (by repeat (first | exact rS | refine rN (by assumption) ?_))
        clear HS52 hws
        go_upto_region 6 with (fail)
        refine wp_seq_text [] (StR.no HS53) ?_
        iterate 2 (refine Seq.pure rfl rfl (by intro w; go_simp; try rfl) ?_; simp only [Act.put, nA, nB, nC])
        refine Seq.done fun ws54 hws => ?_
        have HS54 := hws.st
        clear HS53 hws
        go_upto_region 7 with (fail)
        have HPbk5 := HS54.f2
        refine wp_seq_text [] (StR.move (StR.no HPbk5)) ?_
        refine Seq.load rfl rfl rfl rfl (by repeat (first | exact mC | apply mT)) (n := 12) rfl (by kernel_rfl) ?_
        simp only [Act.put, nA, nB, nC]
        refine Seq.store rfl rfl rfl rfl rfl (by repeat (first | exact rS | refine rN (by assumption) ?_)) (n := 12) rfl rfl (by kernel_rfl) (BC_one _ _ _ _) ?_
        simp only [Act.put, nA, nB, nC]
        refine Seq.done fun ws55 hws => ?_
        have HS55 := hws.list1 (p := bk5) (by repeat (first | exact rS | refine rN (by assumption) ?_))
        clear HS54 hws HPbk5
        go_upto_region 10 with (fail)
        refine wp_seq_text [] (StR.no HS55) ?_
        refine Seq.pure (v := .int .i64 1) rfl rfl (by intro w; go_simp; try rfl) ?_
        simp only [Act.put, nA, nB, nC]
        refine Seq.pure rfl rfl (by intro w; go_simp; try rfl) ?_
        simp only [Act.put, nA, nB, nC]
        refine Seq.done fun ws56 hws => ?_
        have HS56 := hws.st
        clear HS55 hws
        go_wp2_with fail
        go_roundg (n - (0 + 1))
        case measure => rw [HGK.out]; exact HJ.out.1
        case rel => exact .inr ⟨0, z0, z1, z2, z3, rfl, rfl, HJ.out.2, Lib.hid HE.out, Lib.hid ⟨Z_z0.out, Z_z1.out, Z_z2.out, Z_z3.out⟩, Lib.hid HS56.f1.drop.f1.drop⟩
      · obtain rfl : n = 0 := by omega
        have HR := Lib.hid (show Ending.returned (.agg (BW rz0 rz0 rz0 rz0)) = .returned (.agg (shR pxl pxh pyl pyh ptl pth vx vy 0)) from rfl)
        have hb0 : ¬ ((0 : Int) < ((0 : Nat) : Int)) := by omega
        go_upto_region 3 with (fail)
        refine wp_seq_text [] (StR.no HS0) ?_
        refine Seq.pure rfl rfl (by intro w; go_simp; try rfl) ?_
        simp only [Act.put, nA, nB, nC]
        refine Seq.done fun ws51 hws => ?_
        have HS51 := hws.st
        clear HS0 hws
        go_upto_region 11 with (fail)
        have HPbk4 := HS51.f2
        refine wp_seq_text [] (StR.move (StR.no HPbk4)) ?_
        refine Seq.load rfl rfl rfl rfl (by repeat (first | exact mC | apply mT)) (n := 12) rfl (by kernel_rfl) ?_
        simp only [Act.put, nA, nB, nC]
        refine Seq.store rfl rfl rfl rfl rfl (by repeat (first | exact rS | refine rN (by assumption) ?_)) (n := 12) rfl rfl (by kernel_rfl) (BW_one _ _ _ _) ?_
        simp only [Act.put, nA, nB, nC]
        refine Seq.done fun ws52 hws => ?_
        have HS52 := hws.list1 (p := bk4) (by repeat (first | exact rS | refine rN (by assumption) ?_))
        clear HS51 hws HPbk4
        go_wp2_with fail
        exact ret_own rfl rfl rfl HS52 (by repeat (first | exact mC | apply mT)) (n := 12) rfl (by kernel_rfl) ⟨HR.out, HS52.below⟩
    · have HS0 := hS.out
      clear hS
      have HGK := Lib.hid hgk; clear hgk
      have Z_m0 := Lib.hid hz.out.1
      have Z_m1 := Lib.hid hz.out.2.1
      have Z_m2 := Lib.hid hz.out.2.2.1
      have Z_m3 := Lib.hid hz.out.2.2.2
      by_cases hlt : j + 1 < n
      · obtain ⟨g, f, ta, tb, ga, gb, hI1, hI2, hu, hv⟩ := HVI.out (j + 1) (by omega)
        obtain ⟨u, hu0⟩ : ∃ u, vx (j + 1) = u := ⟨_, rfl⟩
        obtain ⟨v, hv0⟩ : ∃ v, vy (j + 1) = v := ⟨_, rfl⟩
        rw [hu0] at hu
        rw [hv0] at hv
        have HU := Lib.hid hu; clear hu
        have HV := Lib.hid hv; clear hv
        obtain ⟨z0, hz0⟩ : ∃ z, bX0 pxl ptl pth u v = z := ⟨_, rfl⟩
        obtain ⟨z1, hz1⟩ : ∃ z, bY0 pyl ptl pth u v = z := ⟨_, rfl⟩
        obtain ⟨z2, hz2⟩ : ∃ z, bX1 pxh ptl pth u v = z := ⟨_, rfl⟩
        obtain ⟨z3, hz3⟩ : ∃ z, bY1 pyh ptl pth u v = z := ⟨_, rfl⟩
        have HZE := Lib.hid (show bX0 pxl ptl pth u v = z0 ∧ bY0 pyl ptl pth u v = z1 ∧ bX1 pxh ptl pth u v = z2 ∧ bY1 pyh ptl pth u v = z3 from ⟨hz0, hz1, hz2, hz3⟩)
        have Z_z0 := Lib.hid (show Rz (74 * k + 100) z0 from hz0 ▸ (b_rz (k := k) (Z_px.out.rz (by omega)).1 (by exact (Z_pt.out.rz (by omega)).1) (by exact (Z_pt.out.rz (by omega)).2) HU.out.rz HV.out.rz).1)
        have Z_z1 := Lib.hid (show Rz (74 * k + 100) z1 from hz1 ▸ (b_rz (k := k) (Z_py.out.rz (by omega)).1 (by exact (Z_pt.out.rz (by omega)).1) (by exact (Z_pt.out.rz (by omega)).2) HU.out.rz HV.out.rz).2.2.1)
        have Z_z2 := Lib.hid (show Rz (74 * k + 100) z2 from hz2 ▸ (b_rz (k := k) (Z_px.out.rz (by omega)).2 (by exact (Z_pt.out.rz (by omega)).1) (by exact (Z_pt.out.rz (by omega)).2) HU.out.rz HV.out.rz).2.1)
        have Z_z3 := Lib.hid (show Rz (74 * k + 100) z3 from hz3 ▸ (b_rz (k := k) (Z_py.out.rz (by omega)).2 (by exact (Z_pt.out.rz (by omega)).1) (by exact (Z_pt.out.rz (by omega)).2) HU.out.rz HV.out.rz).2.2.2)
        have HJ := Lib.hid (show IntKind.i64.wrap ((j + 1 : Nat) + 1 : Int) = ((j + 1 + 1 : Nat) : Int) ∧ n - (j + 1 + 1) < n - (j + 1) ∧ j + 1 + 1 ≤ n from ⟨by have := HN.out; rw [IntWalk.i64_in _ (by omega)]; omega, by omega, by omega⟩)
        have HLT := Lib.hid hlt; clear hlt
        have hb0 : ((j + 1 : Nat) : Int) < (n : Int) := by have := HLT.out; omega
        have HE := Lib.hid (shB_succ hu0 hv0 hc.out)
        rw [hz0, hz1, hz2, hz3] at HE
        clear hz0 hz1 hz2 hz3 hu0 hv0
        have hb1 : ¬ (((j + 1 : Nat) : Int) = 0) := by omega
        go_upto_region 3 with (fail)
        refine wp_seq_text [] (StR.no HS0) ?_
        refine Seq.pure rfl rfl (by intro w; go_simp; try rfl) ?_
        simp only [Act.put, nA, nB, nC]
        refine Seq.done fun ws71 hws => ?_
        have HS71 := hws.st
        clear HS0 hws
        go_upto_region 4 with (fail)
        refine wp_seq_text [] (StR.no HS71) ?_
        refine Seq.pure rfl rfl (by intro w; go_simp; try rfl) ?_
        simp only [Act.put, nA, nB, nC]
        refine Seq.indexI rfl rfl rfl rfl rfl hI1 ?_
        simp only [Act.put, nA, nB, nC]
        refine Seq.loadI rfl rfl rfl rfl hI2 ?_
        simp only [Act.put, nA, nB, nC]
        refine Seq.alloc rfl rfl rfl (z := .agg (SW rz0 rz0)) (by kernel_rfl) rfl ?_
        intro bk7 _ _ hbk7_r
        simp only [Act.put, nA, nB, nC]
        refine Seq.pure rfl rfl (by intro w; go_simp; try rfl) ?_
        simp only [Act.put, nA, nB, nC]
        refine Seq.store rfl rfl rfl rfl rfl (by repeat (first | exact rS | refine rN (by assumption) ?_)) (n := 6) rfl rfl (by kernel_rfl) (SW_one _ _) ?_
        simp only [Act.put, nA, nB, nC]
        refine Seq.done fun ws72 hws => ?_
        have HS72 := hws.list1 (p := bk7) (by repeat (first | exact rS | refine rN (by assumption) ?_))
        clear HS71 hws
        go_upto_region 5 with (fail)
        refine wp_seq_text [] (StR.no HS72) ?_
        refine Seq.load rfl rfl rfl rfl (by repeat (first | exact mC | apply mT)) (n := 18) rfl (by kernel_rfl) ?_
        simp only [Act.put, nA, nB, nC]
        refine Seq.load rfl rfl rfl rfl (by repeat (first | exact mC | apply mT)) (n := 6) rfl (by kernel_rfl) ?_
        simp only [Act.put, nA, nB, nC]
        refine Seq.call rfl rfl rfl rfl (by kernel_rfl) (point_w (k := (1 * k + 2)) (px1 := px1) (px2 := px2) (py1 := py1) (py2 := py2) (pt1 := pt1) (pt2 := pt2) (v1_t := ta) (v2_t := tb) HT.out (Z_px.out.more (by omega)) (Z_py.out.more (by omega)) (Z_pt.out.more (by omega)) (HU.out.more (by omega)) (HV.out.more (by omega))  HZE.out.1 HZE.out.2.1 HZE.out.2.2.1 HZE.out.2.2.2 (by omega) (by omega)) ?_
        simp only [Act.put, nA, nB, nC]
        refine Seq.alloc rfl rfl rfl (z := .agg (BW rz0 rz0 rz0 rz0)) (by kernel_rfl) rfl ?_
        intro bk8 _ _ hbk8_r
        simp only [Act.put, nA, nB, nC]
        refine Seq.store rfl rfl rfl rfl rfl (by repeat (first | exact rS | refine rN (by assumption) ?_)) (n := 12) rfl rfl (by kernel_rfl) (BC_one _ _ _ _) ?_
        simp only [Act.put, nA, nB, nC]
        refine Seq.done fun ws73 hws => ?_
        have HS73 := hws.list1 (p := bk8) (by repeat (first | exact rS | refine rN (by assumption) ?_))
        clear HS72 hws
        go_upto_region 6 with (fail)
        refine wp_seq_text [] (StR.no HS73) ?_
        iterate 2 (refine Seq.pure rfl rfl (by intro w; go_simp; try rfl) ?_; simp only [Act.put, nA, nB, nC])
        refine Seq.done fun ws74 hws => ?_
        have HS74 := hws.st
        clear HS73 hws
        go_upto_region 8 with (fail)
        have HPbk5 := HS74.f2
        refine wp_seq [4, 18] (by kernel_rfl) (by kernel_rfl) (Reg.fin.put Reg.fin_no _ _) (StR.move (StR.no HPbk5)) ?_
        iterate 2 (refine Seq.pure rfl rfl (by intro w; go_simp; try rfl) ?_; simp only [Act.put, nA, nB, nC])
        refine Seq.getAt rfl rfl rfl rfl (by repeat (first | exact rS | refine rN (by assumption) ?_)) (n := 3) (cs' := RC m0) (Nat.le_of_ble_eq_true rfl) (by kernel_rfl) rfl ?_
        simp only [Act.put, nA, nB, nC]
        iterate 2 (refine Seq.pure rfl rfl (by intro w; go_simp; try rfl) ?_; simp only [Act.put, nA, nB, nC])
        refine Seq.loadAt rfl rfl rfl rfl (by repeat (first | exact mC | apply mT)) (n := 3) (cs' := RC z0) (Nat.le_of_ble_eq_true rfl) (by kernel_rfl) rfl ?_
        simp only [Act.put, nA, nB, nC]
        refine Seq.call rfl rfl rfl rfl (by kernel_rfl) (min_q (k := (74 * k + 100)) HT.out (Z_m0.out.more (by omega)) (Z_z0.out.more (by omega)) rfl (by omega)) ?_
        simp only [Act.put, nA, nB, nC]
        iterate 2 (refine Seq.pure rfl rfl (by intro w; go_simp; try rfl) ?_; simp only [Act.put, nA, nB, nC])
        refine Seq.getAt rfl rfl rfl rfl (by repeat (first | exact rS | refine rN (by assumption) ?_)) (n := 3) (cs' := RC m1) (Nat.le_of_ble_eq_true rfl) (by kernel_rfl) rfl ?_
        simp only [Act.put, nA, nB, nC]
        iterate 2 (refine Seq.pure rfl rfl (by intro w; go_simp; try rfl) ?_; simp only [Act.put, nA, nB, nC])
        refine Seq.loadAt rfl rfl rfl rfl (by repeat (first | exact mC | apply mT)) (n := 3) (cs' := RC z1) (Nat.le_of_ble_eq_true rfl) (by kernel_rfl) rfl ?_
        simp only [Act.put, nA, nB, nC]
        refine Seq.call rfl rfl rfl rfl (by kernel_rfl) (min_q (k := (74 * k + 100)) HT.out (Z_m1.out.more (by omega)) (Z_z1.out.more (by omega)) rfl (by omega)) ?_
        simp only [Act.put, nA, nB, nC]
        refine Seq.pure (v := .agg (VC (minQ m0 z0) (minQ m1 z1))) rfl rfl (fun w => bld_Vec rfl rfl rfl w) ?_
        simp only [Act.put, nA, nB, nC]
        refine Seq.pure rfl rfl (by intro w; go_simp; try rfl) ?_
        simp only [Act.put, nA, nB, nC]
        refine Seq.storeAt (v := .agg (VC (minQ m0 z0) (minQ m1 z1))) rfl rfl rfl rfl rfl (by repeat (first | exact rS | refine rN (by assumption) ?_)) (Nat.le_of_ble_eq_true rfl) (by show _ = some 6; kernel_rfl) (VC_one _ _) (cs' := BC (minQ m0 z0) (minQ m1 z1) m2 m3) rfl ?_
        simp only [Act.put, nA, nB, nC]
        refine Seq.done fun ws75 hws => ?_
        have HS75 := hws.list1 (p := bk5) (by repeat (first | exact rS | refine rN (by assumption) ?_))
        clear HS74 hws HPbk5
        go_upto_region 9 with (fail)
        refine wp_seq [4, 18] (by kernel_rfl) (by kernel_rfl) (Reg.fin.put Reg.fin_no _ _) (StR.move (StR.no HS75)) ?_
        iterate 2 (refine Seq.pure rfl rfl (by intro w; go_simp; try rfl) ?_; simp only [Act.put, nA, nB, nC])
        refine Seq.getAt rfl rfl rfl rfl (by repeat (first | exact rS | refine rN (by assumption) ?_)) (n := 3) (cs' := RC m2) (Nat.le_of_ble_eq_true rfl) (by kernel_rfl) rfl ?_
        simp only [Act.put, nA, nB, nC]
        iterate 2 (refine Seq.pure rfl rfl (by intro w; go_simp; try rfl) ?_; simp only [Act.put, nA, nB, nC])
        refine Seq.loadAt rfl rfl rfl rfl (by repeat (first | exact mC | apply mT)) (n := 3) (cs' := RC z2) (Nat.le_of_ble_eq_true rfl) (by kernel_rfl) rfl ?_
        simp only [Act.put, nA, nB, nC]
        refine Seq.call rfl rfl rfl rfl (by kernel_rfl) (max_q (k := (74 * k + 100)) HT.out (Z_m2.out.more (by omega)) (Z_z2.out.more (by omega)) rfl (by omega)) ?_
        simp only [Act.put, nA, nB, nC]
        iterate 2 (refine Seq.pure rfl rfl (by intro w; go_simp; try rfl) ?_; simp only [Act.put, nA, nB, nC])
        refine Seq.getAt rfl rfl rfl rfl (by repeat (first | exact rS | refine rN (by assumption) ?_)) (n := 3) (cs' := RC m3) (Nat.le_of_ble_eq_true rfl) (by kernel_rfl) rfl ?_
        simp only [Act.put, nA, nB, nC]
        iterate 2 (refine Seq.pure rfl rfl (by intro w; go_simp; try rfl) ?_; simp only [Act.put, nA, nB, nC])
        refine Seq.loadAt rfl rfl rfl rfl (by repeat (first | exact mC | apply mT)) (n := 3) (cs' := RC z3) (Nat.le_of_ble_eq_true rfl) (by kernel_rfl) rfl ?_
        simp only [Act.put, nA, nB, nC]
        refine Seq.call rfl rfl rfl rfl (by kernel_rfl) (max_q (k := (74 * k + 100)) HT.out (Z_m3.out.more (by omega)) (Z_z3.out.more (by omega)) rfl (by omega)) ?_
        simp only [Act.put, nA, nB, nC]
        refine Seq.pure (v := .agg (VC (maxQ m2 z2) (maxQ m3 z3))) rfl rfl (fun w => bld_Vec rfl rfl rfl w) ?_
        simp only [Act.put, nA, nB, nC]
        refine Seq.pure rfl rfl (by intro w; go_simp; try rfl) ?_
        simp only [Act.put, nA, nB, nC]
        refine Seq.storeAt (v := .agg (VC (maxQ m2 z2) (maxQ m3 z3))) rfl rfl rfl rfl rfl (by repeat (first | exact rS | refine rN (by assumption) ?_)) (Nat.le_of_ble_eq_true rfl) (by show _ = some 6; kernel_rfl) (VC_one _ _) (cs' := BC (minQ m0 z0) (minQ m1 z1) (maxQ m2 z2) (maxQ m3 z3)) rfl ?_
        simp only [Act.put, nA, nB, nC]
        refine Seq.done fun ws76 hws => ?_
        have HS76 := hws.list1 (p := bk5) (by repeat (first | exact rS | refine rN (by assumption) ?_))
        clear HS75 hws
        go_upto_region 10 with (fail)
        refine wp_seq_text [] (StR.no HS76) ?_
        refine Seq.pure (v := .int .i64 ((j + 1 + 1 : Nat) : Int)) rfl rfl (by intro w; go_simp <;> (first | (rw [HJ.out.1]; done) | exact HJ.out.1 | (simp [HJ.out.1]; done) | (trace_state; done))) ?_
        simp only [Act.put, nA, nB, nC]
        refine Seq.pure rfl rfl (by intro w; go_simp; try rfl) ?_
        simp only [Act.put, nA, nB, nC]
        refine Seq.done fun ws77 hws => ?_
        have HS77 := hws.st
        clear HS76 hws
        go_wp2_with fail
        go_roundg (n - (j + 1 + 1))
        case measure => rw [HGK.out]; exact HJ.out.2.1
        case rel => exact .inr ⟨j + 1, _, _, _, _, rfl, rfl, HJ.out.2.2, Lib.hid HE.out, Lib.hid ⟨Z_m0.out.min Z_z0.out, Z_m1.out.min Z_z1.out, Z_m2.out.max Z_z2.out, Z_m3.out.max Z_z3.out⟩, Lib.hid HS77.f1.drop.f1.drop⟩
      · obtain rfl : n = j + 1 := by omega
        have HR := Lib.hid (show Ending.returned (.agg (BC m0 m1 m2 m3)) = .returned (.agg (shR pxl pxh pyl pyh ptl pth vx vy (j + 1))) from by rw [shR_succ hc.out])
        have hb0 : ¬ (((j + 1 : Nat) : Int) < ((j + 1 : Nat) : Int)) := by omega
        go_upto_region 3 with (fail)
        refine wp_seq_text [] (StR.no HS0) ?_
        refine Seq.pure rfl rfl (by intro w; go_simp; try rfl) ?_
        simp only [Act.put, nA, nB, nC]
        refine Seq.done fun ws71 hws => ?_
        have HS71 := hws.st
        clear HS0 hws
        go_upto_region 11 with (fail)
        have HPbk4 := HS71.f2
        refine wp_seq_text [] (StR.move (StR.no HPbk4)) ?_
        refine Seq.load rfl rfl rfl rfl (by repeat (first | exact mC | apply mT)) (n := 12) rfl (by kernel_rfl) ?_
        simp only [Act.put, nA, nB, nC]
        refine Seq.store rfl rfl rfl rfl rfl (by repeat (first | exact rS | refine rN (by assumption) ?_)) (n := 12) rfl rfl (by kernel_rfl) (BC_one _ _ _ _) ?_
        simp only [Act.put, nA, nB, nC]
        refine Seq.done fun ws72 hws => ?_
        have HS72 := hws.list1 (p := bk4) (by repeat (first | exact rS | refine rN (by assumption) ?_))
        clear HS71 hws HPbk4
        go_wp2_with fail
        exact ret_own rfl rfl rfl HS72 (by repeat (first | exact mC | apply mT)) (n := 12) rfl (by kernel_rfl) ⟨HR.out, HS72.below⟩
end Go.Proofs.YtdhhbpnnahdofaaDoor
