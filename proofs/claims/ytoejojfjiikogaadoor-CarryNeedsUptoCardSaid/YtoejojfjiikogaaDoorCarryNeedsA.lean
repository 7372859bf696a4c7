/- CarryNeeds, whatever numbers come in. -/
import Derived.Test.YtoejojfjiikogaaDoorCnD
import Derived.Test.YtoejojfjiikogaaDoorCnC
import Derived.Test.YtoejojfjiikogaaDoorCaE
import Derived.Test.YtoejojfjiikogaaDoorCaF
import Derived.Test.YtoejojfjiikogaaDoorSp9
import Derived.LoopN
import Derived.Deep.LoopGhost

namespace Go.Proofs.YtoejojfjiikogaaDoor
open Go.RowKit
set_option linter.unusedVariables false
set_option linter.unusedSimpArgs false

set_option maxHeartbeats 8000000 in
set_option maxRecDepth 20000 in
theorem carryNeeds_law {k n c : Nat} {pxl pxh pyl pyh ptl pth b s : Rat} {pxg pyg ptg b_g s_g : Bool} {px1 px2 py1 py2 pt1 pt2 b_t s_t : RT} {A : Option Addr} {G H : Nat → F4} {s1 s2 st sw : Rat} {s1_g s2_g st_g sw_g sh : Bool} {s1_t s2_t st_t sw_t : RT} {sn : ByteArray} {W : World} {l : List Own} (hT : Tab W) (Zpx : RawS k pxl pxh pxg px1 px2) (Zpy : RawS k pyl pyh pyg py1 py2) (Zpt : RawS k ptl pth ptg pt1 pt2) (Zb : RawT k b b_g b_t) (Zs : RawT k s s_g s_t) (hwi : WIn W A n c k G H) (Zs1 : RawT k s1 s1_g s1_t) (Zs2 : RawT k s2 s2_g s2_t) (Zst : RawT k st st_g st_t) (Zsw : RawT k sw sw_g sw_t) (hn : n ≤ 40) (hk0 : 2 ≤ k) (hk : k ≤ 42925823) (w : World) (h : St W l w) :
    Calls Tryd.prog 3 #[.agg (PW px1 px2 py1 py2 pt1 pt2), .agg (SLW sn s1_t s2_t sh st_t sw_t), .slice A n c, .agg (RT.c b_t), .agg (RT.c s_t)] w fun e w' => e = .returned (.bool true) ∧ Below w.heap.size w w' := by
  have HWI := Lib.hid (hwi.next h); clear hwi
  have HT := Lib.hid (tabS hT h); clear hT h
  have Z_px := Lib.hid Zpx; clear Zpx
  have Z_py := Lib.hid Zpy; clear Zpy
  have Z_pt := Lib.hid Zpt; clear Zpt
  have Z_b := Lib.hid Zb; clear Zb
  have Z_s := Lib.hid Zs; clear Zs
  have Z_s1 := Lib.hid Zs1; clear Zs1
  have Z_s2 := Lib.hid Zs2; clear Zs2
  have Z_st := Lib.hid Zst; clear Zst
  have Z_sw := Lib.hid Zsw; clear Zsw
  obtain ⟨nd, hnd⟩ : ∃ z, needQ pxl pxh pyl pyh s1 s2 (maxQ sw 0) = z := ⟨_, rfl⟩
  have HND := Lib.hid hnd; clear hnd
  have HN := Lib.hid hn
  have hb40 : ¬ (40 < (n : Int)) := by omega
  have hb41 : ¬ (40 < n) := by omega
  go_enter Tryd.func3, Tryd.ntmps3
  have HS : St w [] w := St.start
  go_upto_region 0 with (fail)
  refine wp_seq_text [] (StR.no HS) ?_
  refine Seq.box rfl rfl rfl (v := .agg (PW px1 px2 py1 py2 pt1 pt2)) (cs := PW px1 px2 py1 py2 pt1 pt2) rfl rfl ?_
  intro bk5 _ _ hbk5_r
  simp only [Act.put, nA, nB, nC]
  refine Seq.box rfl rfl rfl (v := .agg (SLW sn s1_t s2_t sh st_t sw_t)) (cs := SLW sn s1_t s2_t sh st_t sw_t) rfl rfl ?_
  intro bk6 _ _ hbk6_r
  obtain ⟨ne_bk6_bk5, hbk6_r⟩ := Reg.ne_of_put hbk6_r
  have ne_bk5_bk6 := Ne.symm ne_bk6_bk5
  simp only [Act.put, nA, nB, nC]
  refine Seq.box rfl rfl rfl (v := .agg (RT.c b_t)) (cs := RT.c b_t) rfl rfl ?_
  intro bk8 _ _ hbk8_r
  obtain ⟨ne_bk8_bk6, hbk8_r⟩ := Reg.ne_of_put hbk8_r
  have ne_bk6_bk8 := Ne.symm ne_bk8_bk6
  obtain ⟨ne_bk8_bk5, hbk8_r⟩ := Reg.ne_of_put hbk8_r
  have ne_bk5_bk8 := Ne.symm ne_bk8_bk5
  simp only [Act.put, nA, nB, nC]
  refine Seq.box rfl rfl rfl (v := .agg (RT.c s_t)) (cs := RT.c s_t) rfl rfl ?_
  intro bk9 _ _ hbk9_r
  obtain ⟨ne_bk9_bk8, hbk9_r⟩ := Reg.ne_of_put hbk9_r
  have ne_bk8_bk9 := Ne.symm ne_bk9_bk8
  obtain ⟨ne_bk9_bk6, hbk9_r⟩ := Reg.ne_of_put hbk9_r
  have ne_bk6_bk9 := Ne.symm ne_bk9_bk6
  obtain ⟨ne_bk9_bk5, hbk9_r⟩ := Reg.ne_of_put hbk9_r
  have ne_bk5_bk9 := Ne.symm ne_bk9_bk5
  simp only [Act.put, nA, nB, nC]
  refine Seq.pure rfl rfl (by intro w; go_simp; try rfl) ?_
  simp only [Act.put, nA, nB, nC]
  refine Seq.done fun ws1 hws => ?_
  have HS1 : St w [(bk5, 27, PW px1 px2 py1 py2 pt1 pt2), (bk6, 35, SLW sn s1_t s2_t sh st_t sw_t), (bk8, 23, RT.c b_t), (bk9, 23, RT.c s_t)] ws1 := hws.listN [(bk5, 27, PW px1 px2 py1 py2 pt1 pt2), (bk6, 35, SLW sn s1_t s2_t sh st_t sw_t), (bk8, 23, RT.c b_t), (bk9, 23, RT.c s_t)] (by simp [*]) (by intro e he; simp only [List.mem_cons, List.not_mem_nil, or_false] at he; rcases he with rfl | rfl | rfl | rfl <;> first | exact Reg.put_same _ _ _ | (simp [Reg.put, *]; done) | (simp [Reg.put, *]; rfl))
  clear HS hws
  go_upto_region 1 with (fail)
  refine wp_seq_text [] (StR.no HS1) ?_
  refine Seq.load rfl rfl rfl rfl (by repeat (first | exact mC | apply mT)) (n := 18) rfl (by kernel_rfl) ?_
  simp only [Act.put, nA, nB, nC]
  refine Seq.call rfl rfl rfl rfl (by kernel_rfl) (poseOf_w (k := (1 * k + 2)) (px1 := px1) (px2 := px2) (py1 := py1) (py2 := py2) (pt1 := pt1) (pt2 := pt2) HT.out (Z_px.out.more (by omega)) (Z_py.out.more (by omega)) (Z_pt.out.more (by omega))  rfl rfl rfl rfl rfl rfl (by omega) (by omega)) ?_
  simp only [Act.put, nA, nB, nC]
  refine Seq.alloc rfl rfl rfl (z := .agg (PW rz0 rz0 rz0 rz0 rz0 rz0)) (by kernel_rfl) rfl ?_
  intro bk11 _ _ hbk11_r
  simp only [Act.put, nA, nB, nC]
  refine Seq.store rfl rfl rfl rfl rfl (by repeat (first | exact rS | refine rN (by assumption) ?_)) (n := 18) rfl rfl (by kernel_rfl) (PW_one _ _ _ _ _ _) ?_
  simp only [Act.put, nA, nB, nC]
  refine Seq.done fun ws2 hws => ?_
  have HS2 := hws.list1 (p := bk11) (by repeat (first | exact rS | refine rN (by assumption) ?_))
  clear HS1 hws
  go_upto_region 2 with (fail)
  refine wp_seq [] (by kernel_rfl) (by kernel_rfl) Reg.fin_no (StR.no HS2) ?_
  refine Seq.call rfl rfl rfl rfl (by kernel_rfl) (carried_q HT.out) ?_
  simp only [Act.put, nA, nB, nC]
  iterate 2 (refine Seq.pure rfl rfl (by intro w; go_simp; try rfl) ?_; simp only [Act.put, nA, nB, nC])
  refine Seq.load rfl rfl rfl rfl (by repeat (first | exact mC | apply mT)) (n := 18) rfl (by kernel_rfl) ?_
  simp only [Act.put, nA, nB, nC]
  refine Seq.load rfl rfl rfl rfl (by repeat (first | exact mC | apply mT)) (n := 14) rfl (by kernel_rfl) ?_
  simp only [Act.put, nA, nB, nC]
  refine Seq.call rfl rfl rfl rfl (by kernel_rfl) (need_w (k := (1 * k + 2)) (px1 := px1) (px2 := px2) (py1 := py1) (py2 := py2) (pt1 := pt1) (pt2 := pt2) (s1_t := s1_t) (s2_t := s2_t) (st_t := st_t) (sw_t := sw_t) HT.out (Z_px.out.more (by omega)) (Z_py.out.more (by omega)) (Z_pt.out.more (by omega)) (Z_s1.out.more (by omega)) (Z_s2.out.more (by omega)) (Z_st.out.more (by omega)) (Z_sw.out.more (by omega))  HND.out (by omega) (by omega)) ?_
  simp only [Act.put, nA, nB, nC]
  refine Seq.load rfl rfl rfl rfl (by repeat (first | exact mC | apply mT)) (n := 18) rfl (by kernel_rfl) ?_
  simp only [Act.put, nA, nB, nC]
  refine Seq.load rfl rfl rfl rfl (by repeat (first | exact mC | apply mT)) (n := 14) rfl (by kernel_rfl) ?_
  simp only [Act.put, nA, nB, nC]
  refine Seq.call rfl rfl rfl rfl (by kernel_rfl) (needOf_w (k := (1 * k + 2)) (s1_t := s1_t) (s2_t := s2_t) (st_t := st_t) (sw_t := sw_t) HT.out ((Z_px.out.rz (by omega)).1.more (by omega)) ((Z_px.out.rz (by omega)).2.more (by omega)) ((Z_py.out.rz (by omega)).1.more (by omega)) ((Z_py.out.rz (by omega)).2.more (by omega)) ((Z_pt.out.rz (by omega)).1.more (by omega)) ((Z_pt.out.rz (by omega)).2.more (by omega)) (Z_s1.out.more (by omega)) (Z_s2.out.more (by omega)) (Z_st.out.more (by omega)) (Z_sw.out.more (by omega))  HND.out (by omega) (by omega)) ?_
  simp only [Act.put, nA, nB, nC]
  iterate 3 (refine Seq.pure rfl rfl (by intro w; go_simp; try rfl) ?_; simp only [Act.put, nA, nB, nC])
  refine Seq.load rfl rfl rfl rfl (by repeat (first | exact mC | apply mT)) (n := 14) rfl (by kernel_rfl) ?_
  simp only [Act.put, nA, nB, nC]
  refine Seq.call rfl rfl rfl rfl (by kernel_rfl) (looks_w (k := (1 * k + 2)) (s1_t := s1_t) (s2_t := s2_t) (st_t := st_t) (sw_t := sw_t) HT.out (Z_s1.out.more (by omega)) (Z_s2.out.more (by omega)) (Z_st.out.more (by omega)) (Z_sw.out.more (by omega))  rfl (by omega) (by omega)) ?_
  simp only [Act.put, nA, nB, nC]
  refine Seq.load rfl rfl rfl rfl (by repeat (first | exact mC | apply mT)) (n := 14) rfl (by kernel_rfl) ?_
  simp only [Act.put, nA, nB, nC]
  refine Seq.call rfl rfl rfl rfl (by kernel_rfl) (tolerance_w (k := (1 * k + 2)) (s1_t := s1_t) (s2_t := s2_t) (st_t := st_t) (sw_t := sw_t) HT.out (Z_s1.out.more (by omega)) (Z_s2.out.more (by omega)) (Z_st.out.more (by omega)) (Z_sw.out.more (by omega))  rfl (by omega) (by omega)) ?_
  simp only [Act.put, nA, nB, nC]
  refine Seq.call rfl rfl rfl rfl (by kernel_rfl) (cmp_q (k := (1 * k + 2)) HT.out ((Rz.max (k := (1 * k + 2)) (Rz.more Z_sw.out.rz (by omega)) (Rz.zero2.more (by omega))).more (by omega)) ((Rz.max (k := (1 * k + 2)) (Rz.more Z_sw.out.rz (by omega)) (Rz.zero2.more (by omega))).more (by omega)) ((cmpQ_zero _ _).2 rfl) (by omega)) ?_
  simp only [Act.put, nA, nB, nC]
  iterate 2 (refine Seq.pure rfl rfl (by intro w; go_simp; try rfl) ?_; simp only [Act.put, nA, nB, nC])
  refine Seq.done fun ws3 hws => ?_
  have HS3 := hws.st
  clear HS2 hws
  obtain ⟨⟨e, d⟩, hD⟩ : ∃ z, drP b s ⟨pxl, pxh, pyl, pyh, ptl, pth⟩ G H n = z := ⟨_, rfl⟩
  by_cases he : e = 0
  · subst he
    obtain ⟨d1, d2, d3, d4, d5, d6⟩ := d
    have HDN := Lib.hid hD
    have HDV := Lib.hid (show Ending.returned (drV (drP b s ⟨pxl, pxh, pyl, pyh, ptl, pth⟩ G H n)) = .returned (.tuple #[.agg (PW (rt d1) (rt d2) (rt d3) (rt d4) (rt d5) (rt d6)), .int .i64 0]) from by rw [hD]; rfl)
    clear hD
    go_upto_region 4 with (fail)
    refine wp_seq_text [] (StR.no HS3) ?_
    refine Seq.load rfl rfl rfl rfl (by repeat (first | exact mC | apply mT)) (n := 18) rfl (by kernel_rfl) ?_
    simp only [Act.put, nA, nB, nC]
    refine Seq.pure rfl rfl (by intro w; go_simp; try rfl) ?_
    simp only [Act.put, nA, nB, nC]
    refine Seq.load rfl rfl rfl rfl (by repeat (first | exact mC | apply mT)) (n := 3) rfl (by kernel_rfl) ?_
    simp only [Act.put, nA, nB, nC]
    refine Seq.load rfl rfl rfl rfl (by repeat (first | exact mC | apply mT)) (n := 3) rfl (by kernel_rfl) ?_
    simp only [Act.put, nA, nB, nC]
    refine Seq.call rfl rfl rfl rfl (by kernel_rfl) (fun w h => (drift_w (k := k) HT.out Z_px.out Z_py.out Z_pt.out Z_b.out Z_s.out HWI.out HN.out hk0 (by omega) w h).mono (fun e w2 hh => ⟨hh.1.trans HDV.out, hh.2⟩)) ?_
    simp only [Act.put, nA, nB, nC]
    refine Seq.pure rfl rfl (by intro w; go_simp; try rfl) ?_
    simp only [Act.put, nA, nB, nC]
    refine Seq.pure (v := .agg (PW (rt d1) (rt d2) (rt d3) (rt d4) (rt d5) (rt d6))) rfl rfl (fun w => rfl) ?_
    simp only [Act.put, nA, nB, nC]
    refine Seq.pure (v := .int .i64 0) rfl rfl (fun w => rfl) ?_
    simp only [Act.put, nA, nB, nC]
    refine Seq.alloc rfl rfl rfl (z := .agg (PW rz0 rz0 rz0 rz0 rz0 rz0)) (by kernel_rfl) rfl ?_
    intro bk12 _ _ hbk12_r
    simp only [Act.put, nA, nB, nC]
    refine Seq.store rfl rfl rfl rfl rfl (by repeat (first | exact rS | refine rN (by assumption) ?_)) (n := 18) rfl rfl (by kernel_rfl) (PW_one _ _ _ _ _ _) ?_
    simp only [Act.put, nA, nB, nC]
    refine Seq.pure rfl rfl (by intro w; go_simp; try rfl) ?_
    simp only [Act.put, nA, nB, nC]
    refine Seq.done fun ws4 hws => ?_
    have HS4 := hws.list1 (p := bk12) (by repeat (first | exact rS | refine rN (by assumption) ?_))
    clear HS3 hws
    go_upto_region 5 with (fail)
    refine wp_seq_text [] (StR.no HS4) ?_
    refine Seq.pure rfl rfl (by intro w; go_simp; try rfl) ?_
    simp only [Act.put, nA, nB, nC]
    refine Seq.done fun ws5 hws => ?_
    have HS5 := hws.st
    clear HS4 hws
    go_upto_region 6 with (fail)
    refine wp_seq_text [] (StR.no HS5) ?_
    iterate 3 (refine Seq.pure rfl rfl (by intro w; go_simp; try rfl) ?_; simp only [Act.put, nA, nB, nC])
    refine Seq.done fun ws6 hws => ?_
    have HS6 := hws.st
    clear HS5 hws
    go_upto_region 8 with (fail)
    refine wp_seq_text [] (StR.no HS6) ?_
    iterate 3 (refine Seq.pure rfl rfl (by intro w; go_simp; try rfl) ?_; simp only [Act.put, nA, nB, nC])
    refine Seq.done fun ws7 hws => ?_
    have HS7 := hws.st
    clear HS6 hws
    go_wp2_with fail
    go_loopg [51, 14] n (fun kx x y wr => (∃ i : Nat, ∃ q1 q2 q3 q4 q5 q6 : Rat, kx = n - i ∧ x = .int .i64 (i : Int) ∧ y = .int .i64 0 ∧ i ≤ n ∧ Hid (drP b s ⟨pxl, pxh, pyl, pyh, ptl, pth⟩ G H i = (0, ⟨q1, q2, q3, q4, q5, q6⟩)) ∧ Hid (KI k i ⟨q1, q2, q3, q4, q5, q6⟩) ∧ Hid (St w [(bk12, 27, PW (rt d1) (rt d2) (rt d3) (rt d4) (rt d5) (rt d6)), (bk11, 39, PW (rt q1) (rt q2) (rt q3) (rt q4) (rt q5) (rt q6)), (bk5, 27, PW px1 px2 py1 py2 pt1 pt2), (bk6, 35, SLW sn s1_t s2_t sh st_t sw_t), (bk8, 23, RT.c b_t), (bk9, 23, RT.c s_t)] wr)) ∨ (∃ i : Nat, ∃ e' : Int, ∃ q : P6, kx = n - i ∧ x = .int .i64 (i : Int) ∧ y = .int .i64 e' ∧ i ≤ n ∧ Hid (drP b s ⟨pxl, pxh, pyl, pyh, ptl, pth⟩ G H i = (e', q)) ∧ Hid (e' ≠ 0) ∧ Hid (St w [(bk12, 27, PW (rt d1) (rt d2) (rt d3) (rt d4) (rt d5) (rt d6)), (bk11, 39, PW rz0 rz0 rz0 rz0 rz0 rz0), (bk5, 27, PW px1 px2 py1 py2 pt1 pt2), (bk6, 35, SLW sn s1_t s2_t sh st_t sw_t), (bk8, 23, RT.c b_t), (bk9, 23, RT.c s_t)] wr)))
    case atStart => exact .inl ⟨0, pxl, pxh, pyl, pyh, ptl, pth, rfl, rfl, rfl, by omega, Lib.hid rfl, Lib.hid (KI.start (p := ⟨pxl, pxh, pyl, pyh, ptl, pth⟩) (Z_px.out.rz (by omega)).1 (Z_px.out.rz (by omega)).2 (Z_py.out.rz (by omega)).1 (Z_py.out.rz (by omega)).2 (Z_pt.out.rz (by omega)).1 (Z_pt.out.rz (by omega)).2 Z_px.out.le Z_py.out.le Z_pt.out.le), Lib.hid HS7⟩
    case round =>
      rcases hrel with ⟨i, q1, q2, q3, q4, q5, q6, hgk, rfl, rfl, hin, HD, HKI, hS⟩ | ⟨i, e', q, hgk, rfl, rfl, hin, HD, HE0, hS⟩
      · have HS0 := hS.out
        clear hS
        have HGK := Lib.hid hgk; clear hgk
        have HQ6 := Lib.hid (KI.six HKI.out (by have := HN.out; omega))
        have Z_q1 := Lib.hid (show Rz (364 * k + 280) q1 from HQ6.out.1.1)
        have Z_q2 := Lib.hid (show Rz (364 * k + 280) q2 from HQ6.out.1.2.1)
        have Z_q3 := Lib.hid (show Rz (364 * k + 280) q3 from HQ6.out.1.2.2.1)
        have Z_q4 := Lib.hid (show Rz (364 * k + 280) q4 from HQ6.out.1.2.2.2.1)
        have Z_q5 := Lib.hid (show Rz (364 * k + 280) q5 from HQ6.out.1.2.2.2.2.1)
        have Z_q6 := Lib.hid (show Rz (364 * k + 280) q6 from HQ6.out.1.2.2.2.2.2)
        have HLQ := Lib.hid HQ6.out.2
        by_cases hlt : i < n
        · obtain ⟨g, f, g1_t, g2_t, gt_t, h1_t, h2_t, ht_t, g1_g, g2_g, gt_g, h1_g, h2_g, ht_g, hI1, hI2, r1, r2, r3, r4, r5, r6⟩ := HWI.out i hlt
          obtain ⟨⟨g1, g2, gh, gt⟩, hG⟩ : ∃ x, G i = x := ⟨_, rfl⟩
          obtain ⟨⟨h1, h2, hh, ht⟩, hH⟩ : ∃ x, H i = x := ⟨_, rfl⟩
          rw [hG] at r1 r2 r3 hI2
          rw [hH] at r4 r5 r6 hI2
          have HGE := Lib.hid hG; clear hG
          have HHE := Lib.hid hH; clear hH
          have Z_g1 : Hid (RawT k g1 g1_g g1_t) := Lib.hid r1
          have Z_g2 : Hid (RawT k g2 g2_g g2_t) := Lib.hid r2
          have Z_gt : Hid (RawT k gt gt_g gt_t) := Lib.hid r3
          have Z_h1 : Hid (RawT k h1 h1_g h1_t) := Lib.hid r4
          have Z_h2 : Hid (RawT k h2 h2_g h2_t) := Lib.hid r5
          have Z_ht : Hid (RawT k ht ht_g ht_t) := Lib.hid r6
          clear r1 r2 r3 r4 r5 r6
          have HI := Lib.hid (show i < 40 ∧ IntKind.i64.wrap ((i : Int) + 1) = ((i + 1 : Nat) : Int) ∧ n - (i + 1) < n - i ∧ i + 1 ≤ n from ⟨by omega, by rw [IntWalk.i64_in _ (by omega)]; omega, by omega, by omega⟩)
          have hb0 : (i : Int) < (n : Int) := by omega
          have HLT := Lib.hid hlt; clear hlt
          go_upto_region 9 with (fail)
          refine wp_seq_text [] (StR.no HS0) ?_
          refine Seq.pure rfl rfl (by intro w; go_simp; try rfl) ?_
          simp only [Act.put, nA, nB, nC]
          refine Seq.done fun ws81 hws => ?_
          have HS81 := hws.st
          clear HS0 hws
          go_upto_region 10 with (fail)
          refine wp_seq_text [] (StR.no HS81) ?_
          refine Seq.indexI rfl rfl rfl rfl rfl hI1 ?_
          simp only [Act.put, nA, nB, nC]
          refine Seq.loadI rfl rfl rfl rfl hI2 ?_
          simp only [Act.put, nA, nB, nC]
          refine Seq.alloc rfl rfl rfl (z := .agg (F2W rz0 rz0 false rz0 rz0 rz0 false rz0)) (by kernel_rfl) rfl ?_
          intro bk16 _ _ hbk16_r
          simp only [Act.put, nA, nB, nC]
          refine Seq.store rfl rfl rfl rfl rfl (by repeat (first | exact rS | refine rN (by assumption) ?_)) (n := 20) rfl rfl (by kernel_rfl) (F2W_one _ _ _ _ _ _ _ _) ?_
          simp only [Act.put, nA, nB, nC]
          refine Seq.done fun ws82 hws => ?_
          have HS82 := hws.list1 (p := bk16) (by repeat (first | exact rS | refine rN (by assumption) ?_))
          clear HS81 hws
          go_upto_region 11 with (fail)
          refine wp_seq_text [] (StR.no HS82) ?_
          iterate 2 (refine Seq.pure rfl rfl (by intro w; go_simp; try rfl) ?_; simp only [Act.put, nA, nB, nC])
          refine Seq.done fun ws83 hws => ?_
          have HS83 := hws.st
          clear HS82 hws
          cases hgh : gh with
          | true =>
            have HGH := Lib.hid hgh
            go_upto_region 12 with (fail)
            have HPbk11 := HS83.f2
            refine wp_seq_text [0] (StR.move (StR.no HPbk11)) ?_
            refine Seq.get rfl rfl rfl rfl (by repeat (first | exact rS | refine rN (by assumption) ?_)) (n := 18) rfl (by kernel_rfl) ?_
            simp only [Act.put, nA, nB, nC]
            refine Seq.pure rfl rfl (by intro w; go_simp; try rfl) ?_
            simp only [Act.put, nA, nB, nC]
            refine Seq.loadAt rfl rfl rfl rfl (by repeat (first | exact mC | apply mT)) (n := 10) (cs' := FW g1_t g2_t gh gt_t) (Nat.le_of_ble_eq_true rfl) (by kernel_rfl) rfl ?_
            simp only [Act.put, nA, nB, nC]
            refine Seq.call rfl rfl rfl rfl (by kernel_rfl) (gripOf_half (k := (364 * k + 280)) (g1_t := g1_t) (g2_t := g2_t) (gt_t := gt_t) HT.out (Z_q1.out.more (by omega)) (Z_q2.out.more (by omega)) (Z_q3.out.more (by omega)) (Z_q4.out.more (by omega)) (Z_q5.out.more (by omega)) (Z_q6.out.more (by omega)) (Z_g1.out.more (by omega)) (Z_g2.out.more (by omega)) (Z_gt.out.more (by omega)) HGH.out  (by omega) (by omega)) ?_
            simp only [Act.put, nA, nB, nC]
            refine Seq.pure rfl rfl (by intro w; go_simp; try rfl) ?_
            simp only [Act.put, nA, nB, nC]
            refine Seq.pure (v := .agg (PW rz0 rz0 rz0 rz0 rz0 rz0)) rfl rfl (fun w => rfl) ?_
            simp only [Act.put, nA, nB, nC]
            refine Seq.pure (v := .int .i64 3) rfl rfl (fun w => rfl) ?_
            simp only [Act.put, nA, nB, nC]
            refine Seq.store rfl rfl rfl rfl rfl (by repeat (first | exact rS | refine rN (by assumption) ?_)) (n := 18) rfl rfl (by kernel_rfl) (PW_one _ _ _ _ _ _) ?_
            simp only [Act.put, nA, nB, nC]
            refine Seq.pure rfl rfl (by intro w; go_simp; try rfl) ?_
            simp only [Act.put, nA, nB, nC]
            refine Seq.done fun ws84 hws => ?_
            have HS84 := hws.list1 (p := bk11) (by repeat (first | exact rS | refine rN (by assumption) ?_))
            clear HS83 hws HPbk11
            go_upto_region 13 with (fail)
            refine wp_seq_text [] (StR.no HS84) ?_
            iterate 2 (refine Seq.pure rfl rfl (by intro w; go_simp; try rfl) ?_; simp only [Act.put, nA, nB, nC])
            refine Seq.done fun ws85 hws => ?_
            have HS85 := hws.st
            clear HS84 hws
            go_upto_region 15 with (fail)
            refine wp_seq_text [] (StR.no HS85) ?_
            refine Seq.pure (v := .int .i64 ((i + 1 : Nat) : Int)) rfl rfl (by intro w; go_simp <;> (first | (rw [HI.out.2.1]; done) | exact HI.out.2.1 | (simp [HI.out.2.1]; done) | (trace_state; done))) ?_
            simp only [Act.put, nA, nB, nC]
            refine Seq.pure rfl rfl (by intro w; go_simp; try rfl) ?_
            simp only [Act.put, nA, nB, nC]
            refine Seq.done fun ws86 hws => ?_
            have HS86 := hws.st
            clear HS85 hws
            go_wp2_with fail
            go_roundg (n - (i + 1))
            case measure => rw [HGK.out]; exact HI.out.2.2.1
            case rel => exact .inr ⟨i + 1, 3, z6, rfl, rfl, rfl, HI.out.2.2.2, Lib.hid (show drP b s ⟨pxl, pxh, pyl, pyh, ptl, pth⟩ G H (i + 1) = (3, z6) from by rw [drP_succ HD.out, HGE.out, HHE.out]; exact round_ghalf HGH.out), Lib.hid (by decide), Lib.hid HS86.f1.drop.f1⟩
          | false =>
            have HGH := Lib.hid hgh
            cases hokg : tOk (-gt) q5 q6 with
            | true =>
              have HOKG := Lib.hid hokg
              obtain ⟨u0, hu0⟩ : ∃ z, gX0 q1 q2 q3 q4 g1 g2 gt = z := ⟨_, rfl⟩
              obtain ⟨u1, hu1⟩ : ∃ z, gX1 q1 q2 q3 q4 g1 g2 gt = z := ⟨_, rfl⟩
              obtain ⟨u2, hu2⟩ : ∃ z, gY0 q1 q2 q3 q4 g1 g2 gt = z := ⟨_, rfl⟩
              obtain ⟨u3, hu3⟩ : ∃ z, gY1 q1 q2 q3 q4 g1 g2 gt = z := ⟨_, rfl⟩
              obtain ⟨u4, hu4⟩ : ∃ z, tuQ (-gt) q5 = z := ⟨_, rfl⟩
              obtain ⟨u5, hu5⟩ : ∃ z, tuQ (-gt) q6 = z := ⟨_, rfl⟩
              have HU := Lib.hid (show gX0 q1 q2 q3 q4 g1 g2 gt = u0 ∧ gX1 q1 q2 q3 q4 g1 g2 gt = u1 ∧ gY0 q1 q2 q3 q4 g1 g2 gt = u2 ∧ gY1 q1 q2 q3 q4 g1 g2 gt = u3 ∧ tuQ (-gt) q5 = u4 ∧ tuQ (-gt) q6 = u5 from ⟨hu0, hu1, hu2, hu3, hu4, hu5⟩)
              obtain ⟨x0, hx0⟩ : ∃ z, u0 - maxQ b 0 = z := ⟨_, rfl⟩
              obtain ⟨x1, hx1⟩ : ∃ z, u1 + maxQ b 0 = z := ⟨_, rfl⟩
              obtain ⟨x2, hx2⟩ : ∃ z, u2 - maxQ b 0 = z := ⟨_, rfl⟩
              obtain ⟨x3, hx3⟩ : ∃ z, u3 + maxQ b 0 = z := ⟨_, rfl⟩
              obtain ⟨x4, hx4⟩ : ∃ z, u4 - maxQ s 0 = z := ⟨_, rfl⟩
              obtain ⟨x5, hx5⟩ : ∃ z, u5 + maxQ s 0 = z := ⟨_, rfl⟩
              have HX := Lib.hid (show u0 - maxQ b 0 = x0 ∧ u1 + maxQ b 0 = x1 ∧ u2 - maxQ b 0 = x2 ∧ u3 + maxQ b 0 = x3 ∧ u4 - maxQ s 0 = x4 ∧ u5 + maxQ s 0 = x5 from ⟨hx0, hx1, hx2, hx3, hx4, hx5⟩)
              have HUG := Lib.hid (show GripE ⟨q1, q2, q3, q4, q5, q6⟩ ⟨g1, g2, gh, gt⟩ u0 u1 u2 u3 u4 u5 from HU.out)
              have HXG := Lib.hid (show WideE b s u0 u1 u2 u3 u4 u5 x0 x1 x2 x3 x4 x5 from HX.out)
              have HRD := Lib.hid (KI.round (g := ⟨g1, g2, gh, gt⟩) (h := ⟨h1, h2, hh, ht⟩) HKI.out HI.out.1 hk0 Z_g1.out.rz Z_g2.out.rz Z_gt.out.rz HOKG.out HUG.out Z_b.out.rz Z_s.out.rz HXG.out)
              have Z_u0 := Lib.hid (show Rz (364 * k + 280) u0 from HRD.out.1.1)
              have Z_u1 := Lib.hid (show Rz (364 * k + 280) u1 from HRD.out.1.2.1)
              have Z_u2 := Lib.hid (show Rz (364 * k + 280) u2 from HRD.out.1.2.2.1)
              have Z_u3 := Lib.hid (show Rz (364 * k + 280) u3 from HRD.out.1.2.2.2.1)
              have Z_u4 := Lib.hid (show Rz (364 * k + 280) u4 from HRD.out.1.2.2.2.2.1)
              have Z_u5 := Lib.hid (show Rz (364 * k + 280) u5 from HRD.out.1.2.2.2.2.2)
              have HLU := Lib.hid HRD.out.2.1
              have Z_x0 := Lib.hid (show Rz (364 * k + 280) x0 from HRD.out.2.2.1.1)
              have Z_x1 := Lib.hid (show Rz (364 * k + 280) x1 from HRD.out.2.2.1.2.1)
              have Z_x2 := Lib.hid (show Rz (364 * k + 280) x2 from HRD.out.2.2.1.2.2.1)
              have Z_x3 := Lib.hid (show Rz (364 * k + 280) x3 from HRD.out.2.2.1.2.2.2.1)
              have Z_x4 := Lib.hid (show Rz (364 * k + 280) x4 from HRD.out.2.2.1.2.2.2.2.1)
              have Z_x5 := Lib.hid (show Rz (364 * k + 280) x5 from HRD.out.2.2.1.2.2.2.2.2)
              have HLX := Lib.hid HRD.out.2.2.2.1
              clear hu0 hu1 hu2 hu3 hu4 hu5 hx0 hx1 hx2 hx3 hx4 hx5
              go_upto_region 12 with (fail)
              have HPbk11 := HS83.f2
              refine wp_seq_text [0] (StR.move (StR.no HPbk11)) ?_
              refine Seq.get rfl rfl rfl rfl (by repeat (first | exact rS | refine rN (by assumption) ?_)) (n := 18) rfl (by kernel_rfl) ?_
              simp only [Act.put, nA, nB, nC]
              refine Seq.pure rfl rfl (by intro w; go_simp; try rfl) ?_
              simp only [Act.put, nA, nB, nC]
              refine Seq.loadAt rfl rfl rfl rfl (by repeat (first | exact mC | apply mT)) (n := 10) (cs' := FW g1_t g2_t gh gt_t) (Nat.le_of_ble_eq_true rfl) (by kernel_rfl) rfl ?_
              simp only [Act.put, nA, nB, nC]
              refine Seq.call rfl rfl rfl rfl (by kernel_rfl) (gripOf_ok (k := (364 * k + 280)) (g1_t := g1_t) (g2_t := g2_t) (gt_t := gt_t) HT.out (Z_q1.out.more (by omega)) (Z_q2.out.more (by omega)) (Z_q3.out.more (by omega)) (Z_q4.out.more (by omega)) (Z_q5.out.more (by omega)) (Z_q6.out.more (by omega)) (Z_g1.out.more (by omega)) (Z_g2.out.more (by omega)) (Z_gt.out.more (by omega)) HGH.out HOKG.out HU.out.1 HU.out.2.1 HU.out.2.2.1 HU.out.2.2.2.1 HU.out.2.2.2.2.1 HU.out.2.2.2.2.2 (by omega) (by omega)) ?_
              simp only [Act.put, nA, nB, nC]
              refine Seq.pure rfl rfl (by intro w; go_simp; try rfl) ?_
              simp only [Act.put, nA, nB, nC]
              refine Seq.pure (v := .agg (PW (rt u0) (rt u1) (rt u2) (rt u3) (rt u4) (rt u5))) rfl rfl (fun w => rfl) ?_
              simp only [Act.put, nA, nB, nC]
              refine Seq.pure (v := .int .i64 0) rfl rfl (fun w => rfl) ?_
              simp only [Act.put, nA, nB, nC]
              refine Seq.store rfl rfl rfl rfl rfl (by repeat (first | exact rS | refine rN (by assumption) ?_)) (n := 18) rfl rfl (by kernel_rfl) (PW_one _ _ _ _ _ _) ?_
              simp only [Act.put, nA, nB, nC]
              refine Seq.pure rfl rfl (by intro w; go_simp; try rfl) ?_
              simp only [Act.put, nA, nB, nC]
              refine Seq.done fun ws84 hws => ?_
              have HS84 := hws.list1 (p := bk11) (by repeat (first | exact rS | refine rN (by assumption) ?_))
              clear HS83 hws HPbk11
              go_upto_region 13 with (fail)
              refine wp_seq_text [] (StR.no HS84) ?_
              iterate 2 (refine Seq.pure rfl rfl (by intro w; go_simp; try rfl) ?_; simp only [Act.put, nA, nB, nC])
              refine Seq.done fun ws85 hws => ?_
              have HS85 := hws.st
              clear HS84 hws
              cases hhh : hh with
              | true =>
                have HHH := Lib.hid hhh
                go_upto_region 14 with (fail)
                refine wp_seq [0] (by kernel_rfl) (by kernel_rfl) (Reg.fin.put Reg.fin_no _ _) (StR.move (StR.no HS85)) ?_
                refine Seq.get rfl rfl rfl rfl (by repeat (first | exact rS | refine rN (by assumption) ?_)) (n := 18) rfl (by kernel_rfl) ?_
                simp only [Act.put, nA, nB, nC]
                refine Seq.load rfl rfl rfl rfl (by repeat (first | exact mC | apply mT)) (n := 3) rfl (by kernel_rfl) ?_
                simp only [Act.put, nA, nB, nC]
                refine Seq.load rfl rfl rfl rfl (by repeat (first | exact mC | apply mT)) (n := 3) rfl (by kernel_rfl) ?_
                simp only [Act.put, nA, nB, nC]
                refine Seq.call rfl rfl rfl rfl (by kernel_rfl) (wideOf_w (k := (364 * k + 280)) (b_t := b_t) (u_t := s_t) HT.out (Z_u0.out.more (by omega)) (Z_u1.out.more (by omega)) (Z_u2.out.more (by omega)) (Z_u3.out.more (by omega)) (Z_u4.out.more (by omega)) (Z_u5.out.more (by omega)) (Z_b.out.more (by omega)) (Z_s.out.more (by omega))  HX.out.1 HX.out.2.1 HX.out.2.2.1 HX.out.2.2.2.1 HX.out.2.2.2.2.1 HX.out.2.2.2.2.2 (by omega) (by omega)) ?_
                simp only [Act.put, nA, nB, nC]
                refine Seq.pure rfl rfl (by intro w; go_simp; try rfl) ?_
                simp only [Act.put, nA, nB, nC]
                refine Seq.loadAt rfl rfl rfl rfl (by repeat (first | exact mC | apply mT)) (n := 10) (cs' := FW h1_t h2_t hh ht_t) (Nat.le_of_ble_eq_true rfl) (by kernel_rfl) rfl ?_
                simp only [Act.put, nA, nB, nC]
                refine Seq.call rfl rfl rfl rfl (by kernel_rfl) (putOf_half (k := (364 * k + 280)) (g1_t := h1_t) (g2_t := h2_t) (gt_t := ht_t) HT.out (Z_x0.out.more (by omega)) (Z_x1.out.more (by omega)) (Z_x2.out.more (by omega)) (Z_x3.out.more (by omega)) (Z_x4.out.more (by omega)) (Z_x5.out.more (by omega)) (Z_h1.out.more (by omega)) (Z_h2.out.more (by omega)) (Z_ht.out.more (by omega)) HHH.out  (by omega) (by omega)) ?_
                simp only [Act.put, nA, nB, nC]
                refine Seq.pure rfl rfl (by intro w; go_simp; try rfl) ?_
                simp only [Act.put, nA, nB, nC]
                refine Seq.pure (v := .agg (PW rz0 rz0 rz0 rz0 rz0 rz0)) rfl rfl (fun w => rfl) ?_
                simp only [Act.put, nA, nB, nC]
                refine Seq.pure (v := .int .i64 3) rfl rfl (fun w => rfl) ?_
                simp only [Act.put, nA, nB, nC]
                refine Seq.store rfl rfl rfl rfl rfl (by repeat (first | exact rS | refine rN (by assumption) ?_)) (n := 18) rfl rfl (by kernel_rfl) (PW_one _ _ _ _ _ _) ?_
                simp only [Act.put, nA, nB, nC]
                refine Seq.pure rfl rfl (by intro w; go_simp; try rfl) ?_
                simp only [Act.put, nA, nB, nC]
                refine Seq.done fun ws86 hws => ?_
                have HS86 := hws.list1 (p := bk11) (by repeat (first | exact rS | refine rN (by assumption) ?_))
                clear HS85 hws
                go_upto_region 15 with (fail)
                refine wp_seq_text [] (StR.no HS86) ?_
                refine Seq.pure (v := .int .i64 ((i + 1 : Nat) : Int)) rfl rfl (by intro w; go_simp <;> (first | (rw [HI.out.2.1]; done) | exact HI.out.2.1 | (simp [HI.out.2.1]; done) | (trace_state; done))) ?_
                simp only [Act.put, nA, nB, nC]
                refine Seq.pure rfl rfl (by intro w; go_simp; try rfl) ?_
                simp only [Act.put, nA, nB, nC]
                refine Seq.done fun ws87 hws => ?_
                have HS87 := hws.st
                clear HS86 hws
                go_wp2_with fail
                go_roundg (n - (i + 1))
                case measure => rw [HGK.out]; exact HI.out.2.2.1
                case rel => exact .inr ⟨i + 1, 3, z6, rfl, rfl, rfl, HI.out.2.2.2, Lib.hid (show drP b s ⟨pxl, pxh, pyl, pyh, ptl, pth⟩ G H (i + 1) = (3, z6) from by rw [drP_succ HD.out, HGE.out, HHE.out]; rw [round_put HGH.out HOKG.out HUG.out HXG.out]; exact putP_half HHH.out), Lib.hid (by decide), Lib.hid HS87.f1.drop.f1⟩
              | false =>
                have HHH := Lib.hid hhh
                cases hokh : tOk ht x4 x5 with
                | true =>
                  have HOKH := Lib.hid hokh
                  obtain ⟨w0, hw0⟩ : ∃ z, pX0 x0 x1 x2 x3 h1 h2 ht = z := ⟨_, rfl⟩
                  obtain ⟨w1, hw1⟩ : ∃ z, pX1 x0 x1 x2 x3 h1 h2 ht = z := ⟨_, rfl⟩
                  obtain ⟨w2, hw2⟩ : ∃ z, pY0 x0 x1 x2 x3 h1 h2 ht = z := ⟨_, rfl⟩
                  obtain ⟨w3, hw3⟩ : ∃ z, pY1 x0 x1 x2 x3 h1 h2 ht = z := ⟨_, rfl⟩
                  obtain ⟨w4, hw4⟩ : ∃ z, tuQ ht x4 = z := ⟨_, rfl⟩
                  obtain ⟨w5, hw5⟩ : ∃ z, tuQ ht x5 = z := ⟨_, rfl⟩
                  have HW := Lib.hid (show pX0 x0 x1 x2 x3 h1 h2 ht = w0 ∧ pX1 x0 x1 x2 x3 h1 h2 ht = w1 ∧ pY0 x0 x1 x2 x3 h1 h2 ht = w2 ∧ pY1 x0 x1 x2 x3 h1 h2 ht = w3 ∧ tuQ ht x4 = w4 ∧ tuQ ht x5 = w5 from ⟨hw0, hw1, hw2, hw3, hw4, hw5⟩)
                  have HWG := Lib.hid (show PutE x0 x1 x2 x3 x4 x5 ⟨h1, h2, hh, ht⟩ w0 w1 w2 w3 w4 w5 from HW.out)
                  have HRW := Lib.hid (HRD.out.2.2.2.2 w0 w1 w2 w3 w4 w5 Z_h1.out.rz Z_h2.out.rz Z_ht.out.rz HOKH.out HWG.out)
                  have Z_w0 := Lib.hid (show Rz (364 * k + 280) w0 from HRW.out.2.1.1)
                  have Z_w1 := Lib.hid (show Rz (364 * k + 280) w1 from HRW.out.2.1.2.1)
                  have Z_w2 := Lib.hid (show Rz (364 * k + 280) w2 from HRW.out.2.1.2.2.1)
                  have Z_w3 := Lib.hid (show Rz (364 * k + 280) w3 from HRW.out.2.1.2.2.2.1)
                  have Z_w4 := Lib.hid (show Rz (364 * k + 280) w4 from HRW.out.2.1.2.2.2.2.1)
                  have Z_w5 := Lib.hid (show Rz (364 * k + 280) w5 from HRW.out.2.1.2.2.2.2.2)
                  clear hw0 hw1 hw2 hw3 hw4 hw5
                  go_upto_region 14 with (fail)
                  refine wp_seq [0] (by kernel_rfl) (by kernel_rfl) (Reg.fin.put Reg.fin_no _ _) (StR.move (StR.no HS85)) ?_
                  refine Seq.get rfl rfl rfl rfl (by repeat (first | exact rS | refine rN (by assumption) ?_)) (n := 18) rfl (by kernel_rfl) ?_
                  simp only [Act.put, nA, nB, nC]
                  refine Seq.load rfl rfl rfl rfl (by repeat (first | exact mC | apply mT)) (n := 3) rfl (by kernel_rfl) ?_
                  simp only [Act.put, nA, nB, nC]
                  refine Seq.load rfl rfl rfl rfl (by repeat (first | exact mC | apply mT)) (n := 3) rfl (by kernel_rfl) ?_
                  simp only [Act.put, nA, nB, nC]
                  refine Seq.call rfl rfl rfl rfl (by kernel_rfl) (wideOf_w (k := (364 * k + 280)) (b_t := b_t) (u_t := s_t) HT.out (Z_u0.out.more (by omega)) (Z_u1.out.more (by omega)) (Z_u2.out.more (by omega)) (Z_u3.out.more (by omega)) (Z_u4.out.more (by omega)) (Z_u5.out.more (by omega)) (Z_b.out.more (by omega)) (Z_s.out.more (by omega))  HX.out.1 HX.out.2.1 HX.out.2.2.1 HX.out.2.2.2.1 HX.out.2.2.2.2.1 HX.out.2.2.2.2.2 (by omega) (by omega)) ?_
                  simp only [Act.put, nA, nB, nC]
                  refine Seq.pure rfl rfl (by intro w; go_simp; try rfl) ?_
                  simp only [Act.put, nA, nB, nC]
                  refine Seq.loadAt rfl rfl rfl rfl (by repeat (first | exact mC | apply mT)) (n := 10) (cs' := FW h1_t h2_t hh ht_t) (Nat.le_of_ble_eq_true rfl) (by kernel_rfl) rfl ?_
                  simp only [Act.put, nA, nB, nC]
                  refine Seq.call rfl rfl rfl rfl (by kernel_rfl) (putOf_ok (k := (364 * k + 280)) (g1_t := h1_t) (g2_t := h2_t) (gt_t := ht_t) HT.out (Z_x0.out.more (by omega)) (Z_x1.out.more (by omega)) (Z_x2.out.more (by omega)) (Z_x3.out.more (by omega)) (Z_x4.out.more (by omega)) (Z_x5.out.more (by omega)) (Z_h1.out.more (by omega)) (Z_h2.out.more (by omega)) (Z_ht.out.more (by omega)) HHH.out HOKH.out HW.out.1 HW.out.2.1 HW.out.2.2.1 HW.out.2.2.2.1 HW.out.2.2.2.2.1 HW.out.2.2.2.2.2 (by omega) (by omega)) ?_
                  simp only [Act.put, nA, nB, nC]
                  refine Seq.pure rfl rfl (by intro w; go_simp; try rfl) ?_
                  simp only [Act.put, nA, nB, nC]
                  refine Seq.pure (v := .agg (PW (rt w0) (rt w1) (rt w2) (rt w3) (rt w4) (rt w5))) rfl rfl (fun w => rfl) ?_
                  simp only [Act.put, nA, nB, nC]
                  refine Seq.pure (v := .int .i64 0) rfl rfl (fun w => rfl) ?_
                  simp only [Act.put, nA, nB, nC]
                  refine Seq.store rfl rfl rfl rfl rfl (by repeat (first | exact rS | refine rN (by assumption) ?_)) (n := 18) rfl rfl (by kernel_rfl) (PW_one _ _ _ _ _ _) ?_
                  simp only [Act.put, nA, nB, nC]
                  refine Seq.pure rfl rfl (by intro w; go_simp; try rfl) ?_
                  simp only [Act.put, nA, nB, nC]
                  refine Seq.done fun ws86 hws => ?_
                  have HS86 := hws.list1 (p := bk11) (by repeat (first | exact rS | refine rN (by assumption) ?_))
                  clear HS85 hws
                  go_upto_region 15 with (fail)
                  refine wp_seq_text [] (StR.no HS86) ?_
                  refine Seq.pure (v := .int .i64 ((i + 1 : Nat) : Int)) rfl rfl (by intro w; go_simp <;> (first | (rw [HI.out.2.1]; done) | exact HI.out.2.1 | (simp [HI.out.2.1]; done) | (trace_state; done))) ?_
                  simp only [Act.put, nA, nB, nC]
                  refine Seq.pure rfl rfl (by intro w; go_simp; try rfl) ?_
                  simp only [Act.put, nA, nB, nC]
                  refine Seq.done fun ws87 hws => ?_
                  have HS87 := hws.st
                  clear HS86 hws
                  go_wp2_with fail
                  go_roundg (n - (i + 1))
                  case measure => rw [HGK.out]; exact HI.out.2.2.1
                  case rel => exact .inl ⟨i + 1, w0, w1, w2, w3, w4, w5, rfl, rfl, rfl, HI.out.2.2.2, Lib.hid (show drP b s ⟨pxl, pxh, pyl, pyh, ptl, pth⟩ G H (i + 1) = (0, ⟨w0, w1, w2, w3, w4, w5⟩) from by rw [drP_succ HD.out, HGE.out, HHE.out]; rw [round_put HGH.out HOKG.out HUG.out HXG.out]; exact putP_yes HHH.out HOKH.out HWG.out), Lib.hid HRW.out.1, Lib.hid HS87.f1.drop.f1⟩
                | false =>
                  have HOKH := Lib.hid hokh
                  go_upto_region 14 with (fail)
                  refine wp_seq [0] (by kernel_rfl) (by kernel_rfl) (Reg.fin.put Reg.fin_no _ _) (StR.move (StR.no HS85)) ?_
                  refine Seq.get rfl rfl rfl rfl (by repeat (first | exact rS | refine rN (by assumption) ?_)) (n := 18) rfl (by kernel_rfl) ?_
                  simp only [Act.put, nA, nB, nC]
                  refine Seq.load rfl rfl rfl rfl (by repeat (first | exact mC | apply mT)) (n := 3) rfl (by kernel_rfl) ?_
                  simp only [Act.put, nA, nB, nC]
                  refine Seq.load rfl rfl rfl rfl (by repeat (first | exact mC | apply mT)) (n := 3) rfl (by kernel_rfl) ?_
                  simp only [Act.put, nA, nB, nC]
                  refine Seq.call rfl rfl rfl rfl (by kernel_rfl) (wideOf_w (k := (364 * k + 280)) (b_t := b_t) (u_t := s_t) HT.out (Z_u0.out.more (by omega)) (Z_u1.out.more (by omega)) (Z_u2.out.more (by omega)) (Z_u3.out.more (by omega)) (Z_u4.out.more (by omega)) (Z_u5.out.more (by omega)) (Z_b.out.more (by omega)) (Z_s.out.more (by omega))  HX.out.1 HX.out.2.1 HX.out.2.2.1 HX.out.2.2.2.1 HX.out.2.2.2.2.1 HX.out.2.2.2.2.2 (by omega) (by omega)) ?_
                  simp only [Act.put, nA, nB, nC]
                  refine Seq.pure rfl rfl (by intro w; go_simp; try rfl) ?_
                  simp only [Act.put, nA, nB, nC]
                  refine Seq.loadAt rfl rfl rfl rfl (by repeat (first | exact mC | apply mT)) (n := 10) (cs' := FW h1_t h2_t hh ht_t) (Nat.le_of_ble_eq_true rfl) (by kernel_rfl) rfl ?_
                  simp only [Act.put, nA, nB, nC]
                  refine Seq.call rfl rfl rfl rfl (by kernel_rfl) (putOf_no (k := (364 * k + 280)) (g1_t := h1_t) (g2_t := h2_t) (gt_t := ht_t) HT.out (Z_x0.out.more (by omega)) (Z_x1.out.more (by omega)) (Z_x2.out.more (by omega)) (Z_x3.out.more (by omega)) (Z_x4.out.more (by omega)) (Z_x5.out.more (by omega)) (Z_h1.out.more (by omega)) (Z_h2.out.more (by omega)) (Z_ht.out.more (by omega)) HHH.out HOKH.out  (by omega) (by omega)) ?_
                  simp only [Act.put, nA, nB, nC]
                  refine Seq.pure rfl rfl (by intro w; go_simp; try rfl) ?_
                  simp only [Act.put, nA, nB, nC]
                  refine Seq.pure (v := .agg (PW rz0 rz0 rz0 rz0 rz0 rz0)) rfl rfl (fun w => rfl) ?_
                  simp only [Act.put, nA, nB, nC]
                  refine Seq.pure (v := .int .i64 18) rfl rfl (fun w => rfl) ?_
                  simp only [Act.put, nA, nB, nC]
                  refine Seq.store rfl rfl rfl rfl rfl (by repeat (first | exact rS | refine rN (by assumption) ?_)) (n := 18) rfl rfl (by kernel_rfl) (PW_one _ _ _ _ _ _) ?_
                  simp only [Act.put, nA, nB, nC]
                  refine Seq.pure rfl rfl (by intro w; go_simp; try rfl) ?_
                  simp only [Act.put, nA, nB, nC]
                  refine Seq.done fun ws86 hws => ?_
                  have HS86 := hws.list1 (p := bk11) (by repeat (first | exact rS | refine rN (by assumption) ?_))
                  clear HS85 hws
                  go_upto_region 15 with (fail)
                  refine wp_seq_text [] (StR.no HS86) ?_
                  refine Seq.pure (v := .int .i64 ((i + 1 : Nat) : Int)) rfl rfl (by intro w; go_simp <;> (first | (rw [HI.out.2.1]; done) | exact HI.out.2.1 | (simp [HI.out.2.1]; done) | (trace_state; done))) ?_
                  simp only [Act.put, nA, nB, nC]
                  refine Seq.pure rfl rfl (by intro w; go_simp; try rfl) ?_
                  simp only [Act.put, nA, nB, nC]
                  refine Seq.done fun ws87 hws => ?_
                  have HS87 := hws.st
                  clear HS86 hws
                  go_wp2_with fail
                  go_roundg (n - (i + 1))
                  case measure => rw [HGK.out]; exact HI.out.2.2.1
                  case rel => exact .inr ⟨i + 1, 18, z6, rfl, rfl, rfl, HI.out.2.2.2, Lib.hid (show drP b s ⟨pxl, pxh, pyl, pyh, ptl, pth⟩ G H (i + 1) = (18, z6) from by rw [drP_succ HD.out, HGE.out, HHE.out]; rw [round_put HGH.out HOKG.out HUG.out HXG.out]; exact putP_no HHH.out HOKH.out), Lib.hid (by decide), Lib.hid HS87.f1.drop.f1⟩
            | false =>
              have HOKG := Lib.hid hokg
              go_upto_region 12 with (fail)
              have HPbk11 := HS83.f2
              refine wp_seq_text [0] (StR.move (StR.no HPbk11)) ?_
              refine Seq.get rfl rfl rfl rfl (by repeat (first | exact rS | refine rN (by assumption) ?_)) (n := 18) rfl (by kernel_rfl) ?_
              simp only [Act.put, nA, nB, nC]
              refine Seq.pure rfl rfl (by intro w; go_simp; try rfl) ?_
              simp only [Act.put, nA, nB, nC]
              refine Seq.loadAt rfl rfl rfl rfl (by repeat (first | exact mC | apply mT)) (n := 10) (cs' := FW g1_t g2_t gh gt_t) (Nat.le_of_ble_eq_true rfl) (by kernel_rfl) rfl ?_
              simp only [Act.put, nA, nB, nC]
              refine Seq.call rfl rfl rfl rfl (by kernel_rfl) (gripOf_no (k := (364 * k + 280)) (g1_t := g1_t) (g2_t := g2_t) (gt_t := gt_t) HT.out (Z_q1.out.more (by omega)) (Z_q2.out.more (by omega)) (Z_q3.out.more (by omega)) (Z_q4.out.more (by omega)) (Z_q5.out.more (by omega)) (Z_q6.out.more (by omega)) (Z_g1.out.more (by omega)) (Z_g2.out.more (by omega)) (Z_gt.out.more (by omega)) HGH.out HOKG.out  (by omega) (by omega)) ?_
              simp only [Act.put, nA, nB, nC]
              refine Seq.pure rfl rfl (by intro w; go_simp; try rfl) ?_
              simp only [Act.put, nA, nB, nC]
              refine Seq.pure (v := .agg (PW rz0 rz0 rz0 rz0 rz0 rz0)) rfl rfl (fun w => rfl) ?_
              simp only [Act.put, nA, nB, nC]
              refine Seq.pure (v := .int .i64 18) rfl rfl (fun w => rfl) ?_
              simp only [Act.put, nA, nB, nC]
              refine Seq.store rfl rfl rfl rfl rfl (by repeat (first | exact rS | refine rN (by assumption) ?_)) (n := 18) rfl rfl (by kernel_rfl) (PW_one _ _ _ _ _ _) ?_
              simp only [Act.put, nA, nB, nC]
              refine Seq.pure rfl rfl (by intro w; go_simp; try rfl) ?_
              simp only [Act.put, nA, nB, nC]
              refine Seq.done fun ws84 hws => ?_
              have HS84 := hws.list1 (p := bk11) (by repeat (first | exact rS | refine rN (by assumption) ?_))
              clear HS83 hws HPbk11
              go_upto_region 13 with (fail)
              refine wp_seq_text [] (StR.no HS84) ?_
              iterate 2 (refine Seq.pure rfl rfl (by intro w; go_simp; try rfl) ?_; simp only [Act.put, nA, nB, nC])
              refine Seq.done fun ws85 hws => ?_
              have HS85 := hws.st
              clear HS84 hws
              go_upto_region 15 with (fail)
              refine wp_seq_text [] (StR.no HS85) ?_
              refine Seq.pure (v := .int .i64 ((i + 1 : Nat) : Int)) rfl rfl (by intro w; go_simp <;> (first | (rw [HI.out.2.1]; done) | exact HI.out.2.1 | (simp [HI.out.2.1]; done) | (trace_state; done))) ?_
              simp only [Act.put, nA, nB, nC]
              refine Seq.pure rfl rfl (by intro w; go_simp; try rfl) ?_
              simp only [Act.put, nA, nB, nC]
              refine Seq.done fun ws86 hws => ?_
              have HS86 := hws.st
              clear HS85 hws
              go_wp2_with fail
              go_roundg (n - (i + 1))
              case measure => rw [HGK.out]; exact HI.out.2.2.1
              case rel => exact .inr ⟨i + 1, 18, z6, rfl, rfl, rfl, HI.out.2.2.2, Lib.hid (show drP b s ⟨pxl, pxh, pyl, pyh, ptl, pth⟩ G H (i + 1) = (18, z6) from by rw [drP_succ HD.out, HGE.out, HHE.out]; exact round_gno HGH.out HOKG.out), Lib.hid (by decide), Lib.hid HS86.f1.drop.f1⟩
        · obtain rfl : i = n := by omega
          have hb0 : ¬ ((i : Int) < (i : Int)) := by omega
          have HDQ := Lib.hid (show d1 = q1 ∧ d2 = q2 ∧ d3 = q3 ∧ d4 = q4 ∧ d5 = q5 ∧ d6 = q6 from by have := HDN.out.symm.trans HD.out; simp only [Prod.mk.injEq, P6.mk.injEq, true_and] at this; exact this)
          have Z_d1 := Lib.hid (show Rz (364 * k + 280) d1 from HDQ.out.1 ▸ Z_q1.out)
          have Z_d2 := Lib.hid (show Rz (364 * k + 280) d2 from HDQ.out.2.1 ▸ Z_q2.out)
          have Z_d3 := Lib.hid (show Rz (364 * k + 280) d3 from HDQ.out.2.2.1 ▸ Z_q3.out)
          have Z_d4 := Lib.hid (show Rz (364 * k + 280) d4 from HDQ.out.2.2.2.1 ▸ Z_q4.out)
          have Z_d5 := Lib.hid (show Rz (364 * k + 280) d5 from HDQ.out.2.2.2.2.1 ▸ Z_q5.out)
          have Z_d6 := Lib.hid (show Rz (364 * k + 280) d6 from HDQ.out.2.2.2.2.2 ▸ Z_q6.out)
          have HLD := Lib.hid (show d1 ≤ d2 ∧ d3 ≤ d4 ∧ d5 ≤ d6 from by obtain ⟨e1, e2, e3, e4, e5, e6⟩ := HDQ.out; rw [e1, e2, e3, e4, e5, e6]; exact HLQ.out)
          go_upto_region 9 with (fail)
          refine wp_seq_text [] (StR.no HS0) ?_
          refine Seq.pure rfl rfl (by intro w; go_simp; try rfl) ?_
          simp only [Act.put, nA, nB, nC]
          refine Seq.done fun ws81 hws => ?_
          have HS81 := hws.st
          clear HS0 hws
          go_upto_region 16 with (fail)
          refine wp_seq_text [] (StR.no HS81) ?_
          iterate 7 (refine Seq.pure rfl rfl (by intro w; go_simp; try rfl) ?_; simp only [Act.put, nA, nB, nC])
          refine Seq.load rfl rfl rfl rfl (by repeat (first | exact mC | apply mT)) (n := 18) rfl (by kernel_rfl) ?_
          simp only [Act.put, nA, nB, nC]
          refine Seq.load rfl rfl rfl rfl (by repeat (first | exact mC | apply mT)) (n := 18) rfl (by kernel_rfl) ?_
          simp only [Act.put, nA, nB, nC]
          refine Seq.call rfl rfl rfl rfl (by kernel_rfl) (same_e (k := (364 * k + 280)) HT.out (Z_d1.out.more (by omega)) (Z_d2.out.more (by omega)) (Z_d3.out.more (by omega)) (Z_d4.out.more (by omega)) (Z_d5.out.more (by omega)) (Z_d6.out.more (by omega)) (Z_q1.out.more (by omega)) (Z_q2.out.more (by omega)) (Z_q3.out.more (by omega)) (Z_q4.out.more (by omega)) (Z_q5.out.more (by omega)) (Z_q6.out.more (by omega)) HLD.out.1 HLD.out.2.1 HLD.out.2.2 HDQ.out  (by omega) (by omega)) ?_
          simp only [Act.put, nA, nB, nC]
          iterate 3 (refine Seq.pure rfl rfl (by intro w; go_simp; try rfl) ?_; simp only [Act.put, nA, nB, nC])
          refine Seq.done fun ws82 hws => ?_
          have HS82 := hws.st
          clear HS81 hws
          go_wp2_with fail
          go_ret
          exact ⟨rfl, HS82.below⟩
      · have HS0 := hS.out
        clear hS
        have HGK := Lib.hid hgk; clear hgk
        have he0 : (e' == 0) = false := beq_eq_false_iff_ne.2 HE0.out
        have he1 : ¬ (e' = 0) := HE0.out
        by_cases hlt : i < n
        · obtain ⟨g, f, g1_t, g2_t, gt_t, h1_t, h2_t, ht_t, g1_g, g2_g, gt_g, h1_g, h2_g, ht_g, hI1, hI2, r1, r2, r3, r4, r5, r6⟩ := HWI.out i hlt
          obtain ⟨⟨g1, g2, gh, gt⟩, hG⟩ : ∃ x, G i = x := ⟨_, rfl⟩
          obtain ⟨⟨h1, h2, hh, ht⟩, hH⟩ : ∃ x, H i = x := ⟨_, rfl⟩
          rw [hG] at r1 r2 r3 hI2
          rw [hH] at r4 r5 r6 hI2
          have HGE := Lib.hid hG; clear hG
          have HHE := Lib.hid hH; clear hH
          have Z_g1 : Hid (RawT k g1 g1_g g1_t) := Lib.hid r1
          have Z_g2 : Hid (RawT k g2 g2_g g2_t) := Lib.hid r2
          have Z_gt : Hid (RawT k gt gt_g gt_t) := Lib.hid r3
          have Z_h1 : Hid (RawT k h1 h1_g h1_t) := Lib.hid r4
          have Z_h2 : Hid (RawT k h2 h2_g h2_t) := Lib.hid r5
          have Z_ht : Hid (RawT k ht ht_g ht_t) := Lib.hid r6
          clear r1 r2 r3 r4 r5 r6
          have HI := Lib.hid (show i < 40 ∧ IntKind.i64.wrap ((i : Int) + 1) = ((i + 1 : Nat) : Int) ∧ n - (i + 1) < n - i ∧ i + 1 ≤ n from ⟨by omega, by rw [IntWalk.i64_in _ (by omega)]; omega, by omega, by omega⟩)
          have hb0 : (i : Int) < (n : Int) := by omega
          have HLT := Lib.hid hlt; clear hlt
          go_upto_region 9 with (fail)
          refine wp_seq_text [] (StR.no HS0) ?_
          refine Seq.pure rfl rfl (by intro w; go_simp; try rfl) ?_
          simp only [Act.put, nA, nB, nC]
          refine Seq.done fun ws161 hws => ?_
          have HS161 := hws.st
          clear HS0 hws
          go_upto_region 10 with (fail)
          refine wp_seq_text [] (StR.no HS161) ?_
          refine Seq.indexI rfl rfl rfl rfl rfl hI1 ?_
          simp only [Act.put, nA, nB, nC]
          refine Seq.loadI rfl rfl rfl rfl hI2 ?_
          simp only [Act.put, nA, nB, nC]
          refine Seq.alloc rfl rfl rfl (z := .agg (F2W rz0 rz0 false rz0 rz0 rz0 false rz0)) (by kernel_rfl) rfl ?_
          intro bk16 _ _ hbk16_r
          simp only [Act.put, nA, nB, nC]
          refine Seq.store rfl rfl rfl rfl rfl (by repeat (first | exact rS | refine rN (by assumption) ?_)) (n := 20) rfl rfl (by kernel_rfl) (F2W_one _ _ _ _ _ _ _ _) ?_
          simp only [Act.put, nA, nB, nC]
          refine Seq.done fun ws162 hws => ?_
          have HS162 := hws.list1 (p := bk16) (by repeat (first | exact rS | refine rN (by assumption) ?_))
          clear HS161 hws
          go_upto_region 11 with (fail)
          refine wp_seq_text [] (StR.no HS162) ?_
          iterate 2 (refine Seq.pure rfl rfl (by intro w; go_simp; try rfl) ?_; simp only [Act.put, nA, nB, nC])
          refine Seq.done fun ws163 hws => ?_
          have HS163 := hws.st
          clear HS162 hws
          go_upto_region 13 with (fail)
          refine wp_seq_text [] (StR.no HS163) ?_
          iterate 2 (refine Seq.pure rfl rfl (by intro w; go_simp; try rfl) ?_; simp only [Act.put, nA, nB, nC])
          refine Seq.done fun ws164 hws => ?_
          have HS164 := hws.st
          clear HS163 hws
          go_upto_region 15 with (fail)
          refine wp_seq_text [] (StR.no HS164) ?_
          refine Seq.pure (v := .int .i64 ((i + 1 : Nat) : Int)) rfl rfl (by intro w; go_simp <;> (first | (rw [HI.out.2.1]; done) | exact HI.out.2.1 | (simp [HI.out.2.1]; done) | (trace_state; done))) ?_
          simp only [Act.put, nA, nB, nC]
          refine Seq.pure rfl rfl (by intro w; go_simp; try rfl) ?_
          simp only [Act.put, nA, nB, nC]
          refine Seq.done fun ws165 hws => ?_
          have HS165 := hws.st
          clear HS164 hws
          go_wp2_with fail
          go_roundg (n - (i + 1))
          case measure => rw [HGK.out]; exact HI.out.2.2.1
          case rel => exact .inr ⟨i + 1, e', q, rfl, rfl, rfl, HI.out.2.2.2, Lib.hid (drP_stay HD.out HE0.out (by omega)), HE0, Lib.hid HS165.drop⟩
        · obtain rfl : i = n := by omega
          have := HDN.out.symm.trans HD.out
          simp only [Prod.mk.injEq] at this
          exact absurd this.1.symm HE0.out
  · have HDN := Lib.hid hD
    have HNE := Lib.hid he
    have HDV := Lib.hid (show Ending.returned (drV (drP b s ⟨pxl, pxh, pyl, pyh, ptl, pth⟩ G H n)) = .returned (.tuple #[.agg (PW rz0 rz0 rz0 rz0 rz0 rz0), .int .i64 e]) from by rw [hD, drV_no he])
    clear hD
    have hef : (e == 0) = false := beq_eq_false_iff_ne.2 he
    have hef2 : (e != 0) = true := by simp [he]
    go_upto_region 4 with (fail)
    refine wp_seq_text [] (StR.no HS3) ?_
    refine Seq.load rfl rfl rfl rfl (by repeat (first | exact mC | apply mT)) (n := 18) rfl (by kernel_rfl) ?_
    simp only [Act.put, nA, nB, nC]
    refine Seq.pure rfl rfl (by intro w; go_simp; try rfl) ?_
    simp only [Act.put, nA, nB, nC]
    refine Seq.load rfl rfl rfl rfl (by repeat (first | exact mC | apply mT)) (n := 3) rfl (by kernel_rfl) ?_
    simp only [Act.put, nA, nB, nC]
    refine Seq.load rfl rfl rfl rfl (by repeat (first | exact mC | apply mT)) (n := 3) rfl (by kernel_rfl) ?_
    simp only [Act.put, nA, nB, nC]
    refine Seq.call rfl rfl rfl rfl (by kernel_rfl) (fun w h => (drift_w (k := k) HT.out Z_px.out Z_py.out Z_pt.out Z_b.out Z_s.out HWI.out HN.out hk0 (by omega) w h).mono (fun e w2 hh => ⟨hh.1.trans HDV.out, hh.2⟩)) ?_
    simp only [Act.put, nA, nB, nC]
    refine Seq.pure rfl rfl (by intro w; go_simp; try rfl) ?_
    simp only [Act.put, nA, nB, nC]
    refine Seq.pure (v := .agg (PW rz0 rz0 rz0 rz0 rz0 rz0)) rfl rfl (fun w => rfl) ?_
    simp only [Act.put, nA, nB, nC]
    refine Seq.pure (v := .int .i64 e) rfl rfl (fun w => rfl) ?_
    simp only [Act.put, nA, nB, nC]
    refine Seq.alloc rfl rfl rfl (z := .agg (PW rz0 rz0 rz0 rz0 rz0 rz0)) (by kernel_rfl) rfl ?_
    intro bk12 _ _ hbk12_r
    simp only [Act.put, nA, nB, nC]
    refine Seq.store rfl rfl rfl rfl rfl (by repeat (first | exact rS | refine rN (by assumption) ?_)) (n := 18) rfl rfl (by kernel_rfl) (PW_one _ _ _ _ _ _) ?_
    simp only [Act.put, nA, nB, nC]
    refine Seq.pure rfl rfl (by intro w; go_simp; try rfl) ?_
    simp only [Act.put, nA, nB, nC]
    refine Seq.done fun ws4 hws => ?_
    have HS4 := hws.list1 (p := bk12) (by repeat (first | exact rS | refine rN (by assumption) ?_))
    clear HS3 hws
    go_upto_region 5 with (fail)
    refine wp_seq_text [] (StR.no HS4) ?_
    refine Seq.pure rfl rfl (by intro w; go_simp; try rfl) ?_
    simp only [Act.put, nA, nB, nC]
    refine Seq.done fun ws5 hws => ?_
    have HS5 := hws.st
    clear HS4 hws
    go_upto_region 6 with (fail)
    refine wp_seq_text [] (StR.no HS5) ?_
    iterate 3 (refine Seq.pure rfl rfl (by intro w; go_simp; try rfl) ?_; simp only [Act.put, nA, nB, nC])
    refine Seq.done fun ws6 hws => ?_
    have HS6 := hws.st
    clear HS5 hws
    go_upto_region 8 with (fail)
    refine wp_seq_text [] (StR.no HS6) ?_
    iterate 3 (refine Seq.pure rfl rfl (by intro w; go_simp; try rfl) ?_; simp only [Act.put, nA, nB, nC])
    refine Seq.done fun ws7 hws => ?_
    have HS7 := hws.st
    clear HS6 hws
    go_wp2_with fail
    go_loopg [51, 14] n (fun kx x y wr => (∃ i : Nat, ∃ q1 q2 q3 q4 q5 q6 : Rat, kx = n - i ∧ x = .int .i64 (i : Int) ∧ y = .int .i64 0 ∧ i ≤ n ∧ Hid (drP b s ⟨pxl, pxh, pyl, pyh, ptl, pth⟩ G H i = (0, ⟨q1, q2, q3, q4, q5, q6⟩)) ∧ Hid (KI k i ⟨q1, q2, q3, q4, q5, q6⟩) ∧ Hid (St w [(bk12, 27, PW rz0 rz0 rz0 rz0 rz0 rz0), (bk11, 39, PW (rt q1) (rt q2) (rt q3) (rt q4) (rt q5) (rt q6)), (bk5, 27, PW px1 px2 py1 py2 pt1 pt2), (bk6, 35, SLW sn s1_t s2_t sh st_t sw_t), (bk8, 23, RT.c b_t), (bk9, 23, RT.c s_t)] wr)) ∨ (∃ i : Nat, ∃ e' : Int, ∃ q : P6, kx = n - i ∧ x = .int .i64 (i : Int) ∧ y = .int .i64 e' ∧ i ≤ n ∧ Hid (drP b s ⟨pxl, pxh, pyl, pyh, ptl, pth⟩ G H i = (e', q)) ∧ Hid (e' ≠ 0) ∧ Hid (St w [(bk12, 27, PW rz0 rz0 rz0 rz0 rz0 rz0), (bk11, 39, PW rz0 rz0 rz0 rz0 rz0 rz0), (bk5, 27, PW px1 px2 py1 py2 pt1 pt2), (bk6, 35, SLW sn s1_t s2_t sh st_t sw_t), (bk8, 23, RT.c b_t), (bk9, 23, RT.c s_t)] wr)))
    case atStart => exact .inl ⟨0, pxl, pxh, pyl, pyh, ptl, pth, rfl, rfl, rfl, by omega, Lib.hid rfl, Lib.hid (KI.start (p := ⟨pxl, pxh, pyl, pyh, ptl, pth⟩) (Z_px.out.rz (by omega)).1 (Z_px.out.rz (by omega)).2 (Z_py.out.rz (by omega)).1 (Z_py.out.rz (by omega)).2 (Z_pt.out.rz (by omega)).1 (Z_pt.out.rz (by omega)).2 Z_px.out.le Z_py.out.le Z_pt.out.le), Lib.hid HS7⟩
    case round =>
      rcases hrel with ⟨i, q1, q2, q3, q4, q5, q6, hgk, rfl, rfl, hin, HD, HKI, hS⟩ | ⟨i, e', q, hgk, rfl, rfl, hin, HD, HE0, hS⟩
      · have HS0 := hS.out
        clear hS
        have HGK := Lib.hid hgk; clear hgk
        have HQ6 := Lib.hid (KI.six HKI.out (by have := HN.out; omega))
        have Z_q1 := Lib.hid (show Rz (364 * k + 280) q1 from HQ6.out.1.1)
        have Z_q2 := Lib.hid (show Rz (364 * k + 280) q2 from HQ6.out.1.2.1)
        have Z_q3 := Lib.hid (show Rz (364 * k + 280) q3 from HQ6.out.1.2.2.1)
        have Z_q4 := Lib.hid (show Rz (364 * k + 280) q4 from HQ6.out.1.2.2.2.1)
        have Z_q5 := Lib.hid (show Rz (364 * k + 280) q5 from HQ6.out.1.2.2.2.2.1)
        have Z_q6 := Lib.hid (show Rz (364 * k + 280) q6 from HQ6.out.1.2.2.2.2.2)
        have HLQ := Lib.hid HQ6.out.2
        by_cases hlt : i < n
        · obtain ⟨g, f, g1_t, g2_t, gt_t, h1_t, h2_t, ht_t, g1_g, g2_g, gt_g, h1_g, h2_g, ht_g, hI1, hI2, r1, r2, r3, r4, r5, r6⟩ := HWI.out i hlt
          obtain ⟨⟨g1, g2, gh, gt⟩, hG⟩ : ∃ x, G i = x := ⟨_, rfl⟩
          obtain ⟨⟨h1, h2, hh, ht⟩, hH⟩ : ∃ x, H i = x := ⟨_, rfl⟩
          rw [hG] at r1 r2 r3 hI2
          rw [hH] at r4 r5 r6 hI2
          have HGE := Lib.hid hG; clear hG
          have HHE := Lib.hid hH; clear hH
          have Z_g1 : Hid (RawT k g1 g1_g g1_t) := Lib.hid r1
          have Z_g2 : Hid (RawT k g2 g2_g g2_t) := Lib.hid r2
          have Z_gt : Hid (RawT k gt gt_g gt_t) := Lib.hid r3
          have Z_h1 : Hid (RawT k h1 h1_g h1_t) := Lib.hid r4
          have Z_h2 : Hid (RawT k h2 h2_g h2_t) := Lib.hid r5
          have Z_ht : Hid (RawT k ht ht_g ht_t) := Lib.hid r6
          clear r1 r2 r3 r4 r5 r6
          have HI := Lib.hid (show i < 40 ∧ IntKind.i64.wrap ((i : Int) + 1) = ((i + 1 : Nat) : Int) ∧ n - (i + 1) < n - i ∧ i + 1 ≤ n from ⟨by omega, by rw [IntWalk.i64_in _ (by omega)]; omega, by omega, by omega⟩)
          have hb0 : (i : Int) < (n : Int) := by omega
          have HLT := Lib.hid hlt; clear hlt
          go_upto_region 9 with (fail)
          refine wp_seq_text [] (StR.no HS0) ?_
          refine Seq.pure rfl rfl (by intro w; go_simp; try rfl) ?_
          simp only [Act.put, nA, nB, nC]
          refine Seq.done fun ws81 hws => ?_
          have HS81 := hws.st
          clear HS0 hws
          go_upto_region 10 with (fail)
          refine wp_seq_text [] (StR.no HS81) ?_
          refine Seq.indexI rfl rfl rfl rfl rfl hI1 ?_
          simp only [Act.put, nA, nB, nC]
          refine Seq.loadI rfl rfl rfl rfl hI2 ?_
          simp only [Act.put, nA, nB, nC]
          refine Seq.alloc rfl rfl rfl (z := .agg (F2W rz0 rz0 false rz0 rz0 rz0 false rz0)) (by kernel_rfl) rfl ?_
          intro bk16 _ _ hbk16_r
          simp only [Act.put, nA, nB, nC]
          refine Seq.store rfl rfl rfl rfl rfl (by repeat (first | exact rS | refine rN (by assumption) ?_)) (n := 20) rfl rfl (by kernel_rfl) (F2W_one _ _ _ _ _ _ _ _) ?_
          simp only [Act.put, nA, nB, nC]
          refine Seq.done fun ws82 hws => ?_
          have HS82 := hws.list1 (p := bk16) (by repeat (first | exact rS | refine rN (by assumption) ?_))
          clear HS81 hws
          go_upto_region 11 with (fail)
          refine wp_seq_text [] (StR.no HS82) ?_
          iterate 2 (refine Seq.pure rfl rfl (by intro w; go_simp; try rfl) ?_; simp only [Act.put, nA, nB, nC])
          refine Seq.done fun ws83 hws => ?_
          have HS83 := hws.st
          clear HS82 hws
          cases hgh : gh with
          | true =>
            have HGH := Lib.hid hgh
            go_upto_region 12 with (fail)
            have HPbk11 := HS83.f2
            refine wp_seq_text [0] (StR.move (StR.no HPbk11)) ?_
            refine Seq.get rfl rfl rfl rfl (by repeat (first | exact rS | refine rN (by assumption) ?_)) (n := 18) rfl (by kernel_rfl) ?_
            simp only [Act.put, nA, nB, nC]
            refine Seq.pure rfl rfl (by intro w; go_simp; try rfl) ?_
            simp only [Act.put, nA, nB, nC]
            refine Seq.loadAt rfl rfl rfl rfl (by repeat (first | exact mC | apply mT)) (n := 10) (cs' := FW g1_t g2_t gh gt_t) (Nat.le_of_ble_eq_true rfl) (by kernel_rfl) rfl ?_
            simp only [Act.put, nA, nB, nC]
            refine Seq.call rfl rfl rfl rfl (by kernel_rfl) (gripOf_half (k := (364 * k + 280)) (g1_t := g1_t) (g2_t := g2_t) (gt_t := gt_t) HT.out (Z_q1.out.more (by omega)) (Z_q2.out.more (by omega)) (Z_q3.out.more (by omega)) (Z_q4.out.more (by omega)) (Z_q5.out.more (by omega)) (Z_q6.out.more (by omega)) (Z_g1.out.more (by omega)) (Z_g2.out.more (by omega)) (Z_gt.out.more (by omega)) HGH.out  (by omega) (by omega)) ?_
            simp only [Act.put, nA, nB, nC]
            refine Seq.pure rfl rfl (by intro w; go_simp; try rfl) ?_
            simp only [Act.put, nA, nB, nC]
            refine Seq.pure (v := .agg (PW rz0 rz0 rz0 rz0 rz0 rz0)) rfl rfl (fun w => rfl) ?_
            simp only [Act.put, nA, nB, nC]
            refine Seq.pure (v := .int .i64 3) rfl rfl (fun w => rfl) ?_
            simp only [Act.put, nA, nB, nC]
            refine Seq.store rfl rfl rfl rfl rfl (by repeat (first | exact rS | refine rN (by assumption) ?_)) (n := 18) rfl rfl (by kernel_rfl) (PW_one _ _ _ _ _ _) ?_
            simp only [Act.put, nA, nB, nC]
            refine Seq.pure rfl rfl (by intro w; go_simp; try rfl) ?_
            simp only [Act.put, nA, nB, nC]
            refine Seq.done fun ws84 hws => ?_
            have HS84 := hws.list1 (p := bk11) (by repeat (first | exact rS | refine rN (by assumption) ?_))
            clear HS83 hws HPbk11
            go_upto_region 13 with (fail)
            refine wp_seq_text [] (StR.no HS84) ?_
            iterate 2 (refine Seq.pure rfl rfl (by intro w; go_simp; try rfl) ?_; simp only [Act.put, nA, nB, nC])
            refine Seq.done fun ws85 hws => ?_
            have HS85 := hws.st
            clear HS84 hws
            go_upto_region 15 with (fail)
            refine wp_seq_text [] (StR.no HS85) ?_
            refine Seq.pure (v := .int .i64 ((i + 1 : Nat) : Int)) rfl rfl (by intro w; go_simp <;> (first | (rw [HI.out.2.1]; done) | exact HI.out.2.1 | (simp [HI.out.2.1]; done) | (trace_state; done))) ?_
            simp only [Act.put, nA, nB, nC]
            refine Seq.pure rfl rfl (by intro w; go_simp; try rfl) ?_
            simp only [Act.put, nA, nB, nC]
            refine Seq.done fun ws86 hws => ?_
            have HS86 := hws.st
            clear HS85 hws
            go_wp2_with fail
            go_roundg (n - (i + 1))
            case measure => rw [HGK.out]; exact HI.out.2.2.1
            case rel => exact .inr ⟨i + 1, 3, z6, rfl, rfl, rfl, HI.out.2.2.2, Lib.hid (show drP b s ⟨pxl, pxh, pyl, pyh, ptl, pth⟩ G H (i + 1) = (3, z6) from by rw [drP_succ HD.out, HGE.out, HHE.out]; exact round_ghalf HGH.out), Lib.hid (by decide), Lib.hid HS86.f1.drop.f1⟩
          | false =>
            have HGH := Lib.hid hgh
            cases hokg : tOk (-gt) q5 q6 with
            | true =>
              have HOKG := Lib.hid hokg
              obtain ⟨u0, hu0⟩ : ∃ z, gX0 q1 q2 q3 q4 g1 g2 gt = z := ⟨_, rfl⟩
              obtain ⟨u1, hu1⟩ : ∃ z, gX1 q1 q2 q3 q4 g1 g2 gt = z := ⟨_, rfl⟩
              obtain ⟨u2, hu2⟩ : ∃ z, gY0 q1 q2 q3 q4 g1 g2 gt = z := ⟨_, rfl⟩
              obtain ⟨u3, hu3⟩ : ∃ z, gY1 q1 q2 q3 q4 g1 g2 gt = z := ⟨_, rfl⟩
              obtain ⟨u4, hu4⟩ : ∃ z, tuQ (-gt) q5 = z := ⟨_, rfl⟩
              obtain ⟨u5, hu5⟩ : ∃ z, tuQ (-gt) q6 = z := ⟨_, rfl⟩
              have HU := Lib.hid (show gX0 q1 q2 q3 q4 g1 g2 gt = u0 ∧ gX1 q1 q2 q3 q4 g1 g2 gt = u1 ∧ gY0 q1 q2 q3 q4 g1 g2 gt = u2 ∧ gY1 q1 q2 q3 q4 g1 g2 gt = u3 ∧ tuQ (-gt) q5 = u4 ∧ tuQ (-gt) q6 = u5 from ⟨hu0, hu1, hu2, hu3, hu4, hu5⟩)
              obtain ⟨x0, hx0⟩ : ∃ z, u0 - maxQ b 0 = z := ⟨_, rfl⟩
              obtain ⟨x1, hx1⟩ : ∃ z, u1 + maxQ b 0 = z := ⟨_, rfl⟩
              obtain ⟨x2, hx2⟩ : ∃ z, u2 - maxQ b 0 = z := ⟨_, rfl⟩
              obtain ⟨x3, hx3⟩ : ∃ z, u3 + maxQ b 0 = z := ⟨_, rfl⟩
              obtain ⟨x4, hx4⟩ : ∃ z, u4 - maxQ s 0 = z := ⟨_, rfl⟩
              obtain ⟨x5, hx5⟩ : ∃ z, u5 + maxQ s 0 = z := ⟨_, rfl⟩
              have HX := Lib.hid (show u0 - maxQ b 0 = x0 ∧ u1 + maxQ b 0 = x1 ∧ u2 - maxQ b 0 = x2 ∧ u3 + maxQ b 0 = x3 ∧ u4 - maxQ s 0 = x4 ∧ u5 + maxQ s 0 = x5 from ⟨hx0, hx1, hx2, hx3, hx4, hx5⟩)
              have HUG := Lib.hid (show GripE ⟨q1, q2, q3, q4, q5, q6⟩ ⟨g1, g2, gh, gt⟩ u0 u1 u2 u3 u4 u5 from HU.out)
              have HXG := Lib.hid (show WideE b s u0 u1 u2 u3 u4 u5 x0 x1 x2 x3 x4 x5 from HX.out)
              have HRD := Lib.hid (KI.round (g := ⟨g1, g2, gh, gt⟩) (h := ⟨h1, h2, hh, ht⟩) HKI.out HI.out.1 hk0 Z_g1.out.rz Z_g2.out.rz Z_gt.out.rz HOKG.out HUG.out Z_b.out.rz Z_s.out.rz HXG.out)
              have Z_u0 := Lib.hid (show Rz (364 * k + 280) u0 from HRD.out.1.1)
              have Z_u1 := Lib.hid (show Rz (364 * k + 280) u1 from HRD.out.1.2.1)
              have Z_u2 := Lib.hid (show Rz (364 * k + 280) u2 from HRD.out.1.2.2.1)
              have Z_u3 := Lib.hid (show Rz (364 * k + 280) u3 from HRD.out.1.2.2.2.1)
              have Z_u4 := Lib.hid (show Rz (364 * k + 280) u4 from HRD.out.1.2.2.2.2.1)
              have Z_u5 := Lib.hid (show Rz (364 * k + 280) u5 from HRD.out.1.2.2.2.2.2)
              have HLU := Lib.hid HRD.out.2.1
              have Z_x0 := Lib.hid (show Rz (364 * k + 280) x0 from HRD.out.2.2.1.1)
              have Z_x1 := Lib.hid (show Rz (364 * k + 280) x1 from HRD.out.2.2.1.2.1)
              have Z_x2 := Lib.hid (show Rz (364 * k + 280) x2 from HRD.out.2.2.1.2.2.1)
              have Z_x3 := Lib.hid (show Rz (364 * k + 280) x3 from HRD.out.2.2.1.2.2.2.1)
              have Z_x4 := Lib.hid (show Rz (364 * k + 280) x4 from HRD.out.2.2.1.2.2.2.2.1)
              have Z_x5 := Lib.hid (show Rz (364 * k + 280) x5 from HRD.out.2.2.1.2.2.2.2.2)
              have HLX := Lib.hid HRD.out.2.2.2.1
              clear hu0 hu1 hu2 hu3 hu4 hu5 hx0 hx1 hx2 hx3 hx4 hx5
              go_upto_region 12 with (fail)
              have HPbk11 := HS83.f2
              refine wp_seq_text [0] (StR.move (StR.no HPbk11)) ?_
              refine Seq.get rfl rfl rfl rfl (by repeat (first | exact rS | refine rN (by assumption) ?_)) (n := 18) rfl (by kernel_rfl) ?_
              simp only [Act.put, nA, nB, nC]
              refine Seq.pure rfl rfl (by intro w; go_simp; try rfl) ?_
              simp only [Act.put, nA, nB, nC]
              refine Seq.loadAt rfl rfl rfl rfl (by repeat (first | exact mC | apply mT)) (n := 10) (cs' := FW g1_t g2_t gh gt_t) (Nat.le_of_ble_eq_true rfl) (by kernel_rfl) rfl ?_
              simp only [Act.put, nA, nB, nC]
              refine Seq.call rfl rfl rfl rfl (by kernel_rfl) (gripOf_ok (k := (364 * k + 280)) (g1_t := g1_t) (g2_t := g2_t) (gt_t := gt_t) HT.out (Z_q1.out.more (by omega)) (Z_q2.out.more (by omega)) (Z_q3.out.more (by omega)) (Z_q4.out.more (by omega)) (Z_q5.out.more (by omega)) (Z_q6.out.more (by omega)) (Z_g1.out.more (by omega)) (Z_g2.out.more (by omega)) (Z_gt.out.more (by omega)) HGH.out HOKG.out HU.out.1 HU.out.2.1 HU.out.2.2.1 HU.out.2.2.2.1 HU.out.2.2.2.2.1 HU.out.2.2.2.2.2 (by omega) (by omega)) ?_
              simp only [Act.put, nA, nB, nC]
              refine Seq.pure rfl rfl (by intro w; go_simp; try rfl) ?_
              simp only [Act.put, nA, nB, nC]
              refine Seq.pure (v := .agg (PW (rt u0) (rt u1) (rt u2) (rt u3) (rt u4) (rt u5))) rfl rfl (fun w => rfl) ?_
              simp only [Act.put, nA, nB, nC]
              refine Seq.pure (v := .int .i64 0) rfl rfl (fun w => rfl) ?_
              simp only [Act.put, nA, nB, nC]
              refine Seq.store rfl rfl rfl rfl rfl (by repeat (first | exact rS | refine rN (by assumption) ?_)) (n := 18) rfl rfl (by kernel_rfl) (PW_one _ _ _ _ _ _) ?_
              simp only [Act.put, nA, nB, nC]
              refine Seq.pure rfl rfl (by intro w; go_simp; try rfl) ?_
              simp only [Act.put, nA, nB, nC]
              refine Seq.done fun ws84 hws => ?_
              have HS84 := hws.list1 (p := bk11) (by repeat (first | exact rS | refine rN (by assumption) ?_))
              clear HS83 hws HPbk11
              go_upto_region 13 with (fail)
              refine wp_seq_text [] (StR.no HS84) ?_
              iterate 2 (refine Seq.pure rfl rfl (by intro w; go_simp; try rfl) ?_; simp only [Act.put, nA, nB, nC])
              refine Seq.done fun ws85 hws => ?_
              have HS85 := hws.st
              clear HS84 hws
              cases hhh : hh with
              | true =>
                have HHH := Lib.hid hhh
                go_upto_region 14 with (fail)
                refine wp_seq [0] (by kernel_rfl) (by kernel_rfl) (Reg.fin.put Reg.fin_no _ _) (StR.move (StR.no HS85)) ?_
                refine Seq.get rfl rfl rfl rfl (by repeat (first | exact rS | refine rN (by assumption) ?_)) (n := 18) rfl (by kernel_rfl) ?_
                simp only [Act.put, nA, nB, nC]
                refine Seq.load rfl rfl rfl rfl (by repeat (first | exact mC | apply mT)) (n := 3) rfl (by kernel_rfl) ?_
                simp only [Act.put, nA, nB, nC]
                refine Seq.load rfl rfl rfl rfl (by repeat (first | exact mC | apply mT)) (n := 3) rfl (by kernel_rfl) ?_
                simp only [Act.put, nA, nB, nC]
                refine Seq.call rfl rfl rfl rfl (by kernel_rfl) (wideOf_w (k := (364 * k + 280)) (b_t := b_t) (u_t := s_t) HT.out (Z_u0.out.more (by omega)) (Z_u1.out.more (by omega)) (Z_u2.out.more (by omega)) (Z_u3.out.more (by omega)) (Z_u4.out.more (by omega)) (Z_u5.out.more (by omega)) (Z_b.out.more (by omega)) (Z_s.out.more (by omega))  HX.out.1 HX.out.2.1 HX.out.2.2.1 HX.out.2.2.2.1 HX.out.2.2.2.2.1 HX.out.2.2.2.2.2 (by omega) (by omega)) ?_
                simp only [Act.put, nA, nB, nC]
                refine Seq.pure rfl rfl (by intro w; go_simp; try rfl) ?_
                simp only [Act.put, nA, nB, nC]
                refine Seq.loadAt rfl rfl rfl rfl (by repeat (first | exact mC | apply mT)) (n := 10) (cs' := FW h1_t h2_t hh ht_t) (Nat.le_of_ble_eq_true rfl) (by kernel_rfl) rfl ?_
                simp only [Act.put, nA, nB, nC]
                refine Seq.call rfl rfl rfl rfl (by kernel_rfl) (putOf_half (k := (364 * k + 280)) (g1_t := h1_t) (g2_t := h2_t) (gt_t := ht_t) HT.out (Z_x0.out.more (by omega)) (Z_x1.out.more (by omega)) (Z_x2.out.more (by omega)) (Z_x3.out.more (by omega)) (Z_x4.out.more (by omega)) (Z_x5.out.more (by omega)) (Z_h1.out.more (by omega)) (Z_h2.out.more (by omega)) (Z_ht.out.more (by omega)) HHH.out  (by omega) (by omega)) ?_
                simp only [Act.put, nA, nB, nC]
                refine Seq.pure rfl rfl (by intro w; go_simp; try rfl) ?_
                simp only [Act.put, nA, nB, nC]
                refine Seq.pure (v := .agg (PW rz0 rz0 rz0 rz0 rz0 rz0)) rfl rfl (fun w => rfl) ?_
                simp only [Act.put, nA, nB, nC]
                refine Seq.pure (v := .int .i64 3) rfl rfl (fun w => rfl) ?_
                simp only [Act.put, nA, nB, nC]
                refine Seq.store rfl rfl rfl rfl rfl (by repeat (first | exact rS | refine rN (by assumption) ?_)) (n := 18) rfl rfl (by kernel_rfl) (PW_one _ _ _ _ _ _) ?_
                simp only [Act.put, nA, nB, nC]
                refine Seq.pure rfl rfl (by intro w; go_simp; try rfl) ?_
                simp only [Act.put, nA, nB, nC]
                refine Seq.done fun ws86 hws => ?_
                have HS86 := hws.list1 (p := bk11) (by repeat (first | exact rS | refine rN (by assumption) ?_))
                clear HS85 hws
                go_upto_region 15 with (fail)
                refine wp_seq_text [] (StR.no HS86) ?_
                refine Seq.pure (v := .int .i64 ((i + 1 : Nat) : Int)) rfl rfl (by intro w; go_simp <;> (first | (rw [HI.out.2.1]; done) | exact HI.out.2.1 | (simp [HI.out.2.1]; done) | (trace_state; done))) ?_
                simp only [Act.put, nA, nB, nC]
                refine Seq.pure rfl rfl (by intro w; go_simp; try rfl) ?_
                simp only [Act.put, nA, nB, nC]
                refine Seq.done fun ws87 hws => ?_
                have HS87 := hws.st
                clear HS86 hws
                go_wp2_with fail
                go_roundg (n - (i + 1))
                case measure => rw [HGK.out]; exact HI.out.2.2.1
                case rel => exact .inr ⟨i + 1, 3, z6, rfl, rfl, rfl, HI.out.2.2.2, Lib.hid (show drP b s ⟨pxl, pxh, pyl, pyh, ptl, pth⟩ G H (i + 1) = (3, z6) from by rw [drP_succ HD.out, HGE.out, HHE.out]; rw [round_put HGH.out HOKG.out HUG.out HXG.out]; exact putP_half HHH.out), Lib.hid (by decide), Lib.hid HS87.f1.drop.f1⟩
              | false =>
                have HHH := Lib.hid hhh
                cases hokh : tOk ht x4 x5 with
                | true =>
                  have HOKH := Lib.hid hokh
                  obtain ⟨w0, hw0⟩ : ∃ z, pX0 x0 x1 x2 x3 h1 h2 ht = z := ⟨_, rfl⟩
                  obtain ⟨w1, hw1⟩ : ∃ z, pX1 x0 x1 x2 x3 h1 h2 ht = z := ⟨_, rfl⟩
                  obtain ⟨w2, hw2⟩ : ∃ z, pY0 x0 x1 x2 x3 h1 h2 ht = z := ⟨_, rfl⟩
                  obtain ⟨w3, hw3⟩ : ∃ z, pY1 x0 x1 x2 x3 h1 h2 ht = z := ⟨_, rfl⟩
                  obtain ⟨w4, hw4⟩ : ∃ z, tuQ ht x4 = z := ⟨_, rfl⟩
                  obtain ⟨w5, hw5⟩ : ∃ z, tuQ ht x5 = z := ⟨_, rfl⟩
                  have HW := Lib.hid (show pX0 x0 x1 x2 x3 h1 h2 ht = w0 ∧ pX1 x0 x1 x2 x3 h1 h2 ht = w1 ∧ pY0 x0 x1 x2 x3 h1 h2 ht = w2 ∧ pY1 x0 x1 x2 x3 h1 h2 ht = w3 ∧ tuQ ht x4 = w4 ∧ tuQ ht x5 = w5 from ⟨hw0, hw1, hw2, hw3, hw4, hw5⟩)
                  have HWG := Lib.hid (show PutE x0 x1 x2 x3 x4 x5 ⟨h1, h2, hh, ht⟩ w0 w1 w2 w3 w4 w5 from HW.out)
                  have HRW := Lib.hid (HRD.out.2.2.2.2 w0 w1 w2 w3 w4 w5 Z_h1.out.rz Z_h2.out.rz Z_ht.out.rz HOKH.out HWG.out)
                  have Z_w0 := Lib.hid (show Rz (364 * k + 280) w0 from HRW.out.2.1.1)
                  have Z_w1 := Lib.hid (show Rz (364 * k + 280) w1 from HRW.out.2.1.2.1)
                  have Z_w2 := Lib.hid (show Rz (364 * k + 280) w2 from HRW.out.2.1.2.2.1)
                  have Z_w3 := Lib.hid (show Rz (364 * k + 280) w3 from HRW.out.2.1.2.2.2.1)
                  have Z_w4 := Lib.hid (show Rz (364 * k + 280) w4 from HRW.out.2.1.2.2.2.2.1)
                  have Z_w5 := Lib.hid (show Rz (364 * k + 280) w5 from HRW.out.2.1.2.2.2.2.2)
                  clear hw0 hw1 hw2 hw3 hw4 hw5
                  go_upto_region 14 with (fail)
                  refine wp_seq [0] (by kernel_rfl) (by kernel_rfl) (Reg.fin.put Reg.fin_no _ _) (StR.move (StR.no HS85)) ?_
                  refine Seq.get rfl rfl rfl rfl (by repeat (first | exact rS | refine rN (by assumption) ?_)) (n := 18) rfl (by kernel_rfl) ?_
                  simp only [Act.put, nA, nB, nC]
                  refine Seq.load rfl rfl rfl rfl (by repeat (first | exact mC | apply mT)) (n := 3) rfl (by kernel_rfl) ?_
                  simp only [Act.put, nA, nB, nC]
                  refine Seq.load rfl rfl rfl rfl (by repeat (first | exact mC | apply mT)) (n := 3) rfl (by kernel_rfl) ?_
                  simp only [Act.put, nA, nB, nC]
                  refine Seq.call rfl rfl rfl rfl (by kernel_rfl) (wideOf_w (k := (364 * k + 280)) (b_t := b_t) (u_t := s_t) HT.out (Z_u0.out.more (by omega)) (Z_u1.out.more (by omega)) (Z_u2.out.more (by omega)) (Z_u3.out.more (by omega)) (Z_u4.out.more (by omega)) (Z_u5.out.more (by omega)) (Z_b.out.more (by omega)) (Z_s.out.more (by omega))  HX.out.1 HX.out.2.1 HX.out.2.2.1 HX.out.2.2.2.1 HX.out.2.2.2.2.1 HX.out.2.2.2.2.2 (by omega) (by omega)) ?_
                  simp only [Act.put, nA, nB, nC]
                  refine Seq.pure rfl rfl (by intro w; go_simp; try rfl) ?_
                  simp only [Act.put, nA, nB, nC]
                  refine Seq.loadAt rfl rfl rfl rfl (by repeat (first | exact mC | apply mT)) (n := 10) (cs' := FW h1_t h2_t hh ht_t) (Nat.le_of_ble_eq_true rfl) (by kernel_rfl) rfl ?_
                  simp only [Act.put, nA, nB, nC]
                  refine Seq.call rfl rfl rfl rfl (by kernel_rfl) (putOf_ok (k := (364 * k + 280)) (g1_t := h1_t) (g2_t := h2_t) (gt_t := ht_t) HT.out (Z_x0.out.more (by omega)) (Z_x1.out.more (by omega)) (Z_x2.out.more (by omega)) (Z_x3.out.more (by omega)) (Z_x4.out.more (by omega)) (Z_x5.out.more (by omega)) (Z_h1.out.more (by omega)) (Z_h2.out.more (by omega)) (Z_ht.out.more (by omega)) HHH.out HOKH.out HW.out.1 HW.out.2.1 HW.out.2.2.1 HW.out.2.2.2.1 HW.out.2.2.2.2.1 HW.out.2.2.2.2.2 (by omega) (by omega)) ?_
                  simp only [Act.put, nA, nB, nC]
                  refine Seq.pure rfl rfl (by intro w; go_simp; try rfl) ?_
                  simp only [Act.put, nA, nB, nC]
                  refine Seq.pure (v := .agg (PW (rt w0) (rt w1) (rt w2) (rt w3) (rt w4) (rt w5))) rfl rfl (fun w => rfl) ?_
                  simp only [Act.put, nA, nB, nC]
                  refine Seq.pure (v := .int .i64 0) rfl rfl (fun w => rfl) ?_
                  simp only [Act.put, nA, nB, nC]
                  refine Seq.store rfl rfl rfl rfl rfl (by repeat (first | exact rS | refine rN (by assumption) ?_)) (n := 18) rfl rfl (by kernel_rfl) (PW_one _ _ _ _ _ _) ?_
                  simp only [Act.put, nA, nB, nC]
                  refine Seq.pure rfl rfl (by intro w; go_simp; try rfl) ?_
                  simp only [Act.put, nA, nB, nC]
                  refine Seq.done fun ws86 hws => ?_
                  have HS86 := hws.list1 (p := bk11) (by repeat (first | exact rS | refine rN (by assumption) ?_))
                  clear HS85 hws
                  go_upto_region 15 with (fail)
                  refine wp_seq_text [] (StR.no HS86) ?_
                  refine Seq.pure (v := .int .i64 ((i + 1 : Nat) : Int)) rfl rfl (by intro w; go_simp <;> (first | (rw [HI.out.2.1]; done) | exact HI.out.2.1 | (simp [HI.out.2.1]; done) | (trace_state; done))) ?_
                  simp only [Act.put, nA, nB, nC]
                  refine Seq.pure rfl rfl (by intro w; go_simp; try rfl) ?_
                  simp only [Act.put, nA, nB, nC]
                  refine Seq.done fun ws87 hws => ?_
                  have HS87 := hws.st
                  clear HS86 hws
                  go_wp2_with fail
                  go_roundg (n - (i + 1))
                  case measure => rw [HGK.out]; exact HI.out.2.2.1
                  case rel => exact .inl ⟨i + 1, w0, w1, w2, w3, w4, w5, rfl, rfl, rfl, HI.out.2.2.2, Lib.hid (show drP b s ⟨pxl, pxh, pyl, pyh, ptl, pth⟩ G H (i + 1) = (0, ⟨w0, w1, w2, w3, w4, w5⟩) from by rw [drP_succ HD.out, HGE.out, HHE.out]; rw [round_put HGH.out HOKG.out HUG.out HXG.out]; exact putP_yes HHH.out HOKH.out HWG.out), Lib.hid HRW.out.1, Lib.hid HS87.f1.drop.f1⟩
                | false =>
                  have HOKH := Lib.hid hokh
                  go_upto_region 14 with (fail)
                  refine wp_seq [0] (by kernel_rfl) (by kernel_rfl) (Reg.fin.put Reg.fin_no _ _) (StR.move (StR.no HS85)) ?_
                  refine Seq.get rfl rfl rfl rfl (by repeat (first | exact rS | refine rN (by assumption) ?_)) (n := 18) rfl (by kernel_rfl) ?_
                  simp only [Act.put, nA, nB, nC]
                  refine Seq.load rfl rfl rfl rfl (by repeat (first | exact mC | apply mT)) (n := 3) rfl (by kernel_rfl) ?_
                  simp only [Act.put, nA, nB, nC]
                  refine Seq.load rfl rfl rfl rfl (by repeat (first | exact mC | apply mT)) (n := 3) rfl (by kernel_rfl) ?_
                  simp only [Act.put, nA, nB, nC]
                  refine Seq.call rfl rfl rfl rfl (by kernel_rfl) (wideOf_w (k := (364 * k + 280)) (b_t := b_t) (u_t := s_t) HT.out (Z_u0.out.more (by omega)) (Z_u1.out.more (by omega)) (Z_u2.out.more (by omega)) (Z_u3.out.more (by omega)) (Z_u4.out.more (by omega)) (Z_u5.out.more (by omega)) (Z_b.out.more (by omega)) (Z_s.out.more (by omega))  HX.out.1 HX.out.2.1 HX.out.2.2.1 HX.out.2.2.2.1 HX.out.2.2.2.2.1 HX.out.2.2.2.2.2 (by omega) (by omega)) ?_
                  simp only [Act.put, nA, nB, nC]
                  refine Seq.pure rfl rfl (by intro w; go_simp; try rfl) ?_
                  simp only [Act.put, nA, nB, nC]
                  refine Seq.loadAt rfl rfl rfl rfl (by repeat (first | exact mC | apply mT)) (n := 10) (cs' := FW h1_t h2_t hh ht_t) (Nat.le_of_ble_eq_true rfl) (by kernel_rfl) rfl ?_
                  simp only [Act.put, nA, nB, nC]
                  refine Seq.call rfl rfl rfl rfl (by kernel_rfl) (putOf_no (k := (364 * k + 280)) (g1_t := h1_t) (g2_t := h2_t) (gt_t := ht_t) HT.out (Z_x0.out.more (by omega)) (Z_x1.out.more (by omega)) (Z_x2.out.more (by omega)) (Z_x3.out.more (by omega)) (Z_x4.out.more (by omega)) (Z_x5.out.more (by omega)) (Z_h1.out.more (by omega)) (Z_h2.out.more (by omega)) (Z_ht.out.more (by omega)) HHH.out HOKH.out  (by omega) (by omega)) ?_
                  simp only [Act.put, nA, nB, nC]
                  refine Seq.pure rfl rfl (by intro w; go_simp; try rfl) ?_
                  simp only [Act.put, nA, nB, nC]
                  refine Seq.pure (v := .agg (PW rz0 rz0 rz0 rz0 rz0 rz0)) rfl rfl (fun w => rfl) ?_
                  simp only [Act.put, nA, nB, nC]
                  refine Seq.pure (v := .int .i64 18) rfl rfl (fun w => rfl) ?_
                  simp only [Act.put, nA, nB, nC]
                  refine Seq.store rfl rfl rfl rfl rfl (by repeat (first | exact rS | refine rN (by assumption) ?_)) (n := 18) rfl rfl (by kernel_rfl) (PW_one _ _ _ _ _ _) ?_
                  simp only [Act.put, nA, nB, nC]
                  refine Seq.pure rfl rfl (by intro w; go_simp; try rfl) ?_
                  simp only [Act.put, nA, nB, nC]
                  refine Seq.done fun ws86 hws => ?_
                  have HS86 := hws.list1 (p := bk11) (by repeat (first | exact rS | refine rN (by assumption) ?_))
                  clear HS85 hws
                  go_upto_region 15 with (fail)
                  refine wp_seq_text [] (StR.no HS86) ?_
                  refine Seq.pure (v := .int .i64 ((i + 1 : Nat) : Int)) rfl rfl (by intro w; go_simp <;> (first | (rw [HI.out.2.1]; done) | exact HI.out.2.1 | (simp [HI.out.2.1]; done) | (trace_state; done))) ?_
                  simp only [Act.put, nA, nB, nC]
                  refine Seq.pure rfl rfl (by intro w; go_simp; try rfl) ?_
                  simp only [Act.put, nA, nB, nC]
                  refine Seq.done fun ws87 hws => ?_
                  have HS87 := hws.st
                  clear HS86 hws
                  go_wp2_with fail
                  go_roundg (n - (i + 1))
                  case measure => rw [HGK.out]; exact HI.out.2.2.1
                  case rel => exact .inr ⟨i + 1, 18, z6, rfl, rfl, rfl, HI.out.2.2.2, Lib.hid (show drP b s ⟨pxl, pxh, pyl, pyh, ptl, pth⟩ G H (i + 1) = (18, z6) from by rw [drP_succ HD.out, HGE.out, HHE.out]; rw [round_put HGH.out HOKG.out HUG.out HXG.out]; exact putP_no HHH.out HOKH.out), Lib.hid (by decide), Lib.hid HS87.f1.drop.f1⟩
            | false =>
              have HOKG := Lib.hid hokg
              go_upto_region 12 with (fail)
              have HPbk11 := HS83.f2
              refine wp_seq_text [0] (StR.move (StR.no HPbk11)) ?_
              refine Seq.get rfl rfl rfl rfl (by repeat (first | exact rS | refine rN (by assumption) ?_)) (n := 18) rfl (by kernel_rfl) ?_
              simp only [Act.put, nA, nB, nC]
              refine Seq.pure rfl rfl (by intro w; go_simp; try rfl) ?_
              simp only [Act.put, nA, nB, nC]
              refine Seq.loadAt rfl rfl rfl rfl (by repeat (first | exact mC | apply mT)) (n := 10) (cs' := FW g1_t g2_t gh gt_t) (Nat.le_of_ble_eq_true rfl) (by kernel_rfl) rfl ?_
              simp only [Act.put, nA, nB, nC]
              refine Seq.call rfl rfl rfl rfl (by kernel_rfl) (gripOf_no (k := (364 * k + 280)) (g1_t := g1_t) (g2_t := g2_t) (gt_t := gt_t) HT.out (Z_q1.out.more (by omega)) (Z_q2.out.more (by omega)) (Z_q3.out.more (by omega)) (Z_q4.out.more (by omega)) (Z_q5.out.more (by omega)) (Z_q6.out.more (by omega)) (Z_g1.out.more (by omega)) (Z_g2.out.more (by omega)) (Z_gt.out.more (by omega)) HGH.out HOKG.out  (by omega) (by omega)) ?_
              simp only [Act.put, nA, nB, nC]
              refine Seq.pure rfl rfl (by intro w; go_simp; try rfl) ?_
              simp only [Act.put, nA, nB, nC]
              refine Seq.pure (v := .agg (PW rz0 rz0 rz0 rz0 rz0 rz0)) rfl rfl (fun w => rfl) ?_
              simp only [Act.put, nA, nB, nC]
              refine Seq.pure (v := .int .i64 18) rfl rfl (fun w => rfl) ?_
              simp only [Act.put, nA, nB, nC]
              refine Seq.store rfl rfl rfl rfl rfl (by repeat (first | exact rS | refine rN (by assumption) ?_)) (n := 18) rfl rfl (by kernel_rfl) (PW_one _ _ _ _ _ _) ?_
              simp only [Act.put, nA, nB, nC]
              refine Seq.pure rfl rfl (by intro w; go_simp; try rfl) ?_
              simp only [Act.put, nA, nB, nC]
              refine Seq.done fun ws84 hws => ?_
              have HS84 := hws.list1 (p := bk11) (by repeat (first | exact rS | refine rN (by assumption) ?_))
              clear HS83 hws HPbk11
              go_upto_region 13 with (fail)
              refine wp_seq_text [] (StR.no HS84) ?_
              iterate 2 (refine Seq.pure rfl rfl (by intro w; go_simp; try rfl) ?_; simp only [Act.put, nA, nB, nC])
              refine Seq.done fun ws85 hws => ?_
              have HS85 := hws.st
              clear HS84 hws
              go_upto_region 15 with (fail)
              refine wp_seq_text [] (StR.no HS85) ?_
              refine Seq.pure (v := .int .i64 ((i + 1 : Nat) : Int)) rfl rfl (by intro w; go_simp <;> (first | (rw [HI.out.2.1]; done) | exact HI.out.2.1 | (simp [HI.out.2.1]; done) | (trace_state; done))) ?_
              simp only [Act.put, nA, nB, nC]
              refine Seq.pure rfl rfl (by intro w; go_simp; try rfl) ?_
              simp only [Act.put, nA, nB, nC]
              refine Seq.done fun ws86 hws => ?_
              have HS86 := hws.st
              clear HS85 hws
              go_wp2_with fail
              go_roundg (n - (i + 1))
              case measure => rw [HGK.out]; exact HI.out.2.2.1
              case rel => exact .inr ⟨i + 1, 18, z6, rfl, rfl, rfl, HI.out.2.2.2, Lib.hid (show drP b s ⟨pxl, pxh, pyl, pyh, ptl, pth⟩ G H (i + 1) = (18, z6) from by rw [drP_succ HD.out, HGE.out, HHE.out]; exact round_gno HGH.out HOKG.out), Lib.hid (by decide), Lib.hid HS86.f1.drop.f1⟩
        · obtain rfl : i = n := by omega
          have := HDN.out.symm.trans HD.out
          simp only [Prod.mk.injEq] at this
          exact absurd this.1 HNE.out
      · have HS0 := hS.out
        clear hS
        have HGK := Lib.hid hgk; clear hgk
        have he0 : (e' == 0) = false := beq_eq_false_iff_ne.2 HE0.out
        have he1 : ¬ (e' = 0) := HE0.out
        by_cases hlt : i < n
        · obtain ⟨g, f, g1_t, g2_t, gt_t, h1_t, h2_t, ht_t, g1_g, g2_g, gt_g, h1_g, h2_g, ht_g, hI1, hI2, r1, r2, r3, r4, r5, r6⟩ := HWI.out i hlt
          obtain ⟨⟨g1, g2, gh, gt⟩, hG⟩ : ∃ x, G i = x := ⟨_, rfl⟩
          obtain ⟨⟨h1, h2, hh, ht⟩, hH⟩ : ∃ x, H i = x := ⟨_, rfl⟩
          rw [hG] at r1 r2 r3 hI2
          rw [hH] at r4 r5 r6 hI2
          have HGE := Lib.hid hG; clear hG
          have HHE := Lib.hid hH; clear hH
          have Z_g1 : Hid (RawT k g1 g1_g g1_t) := Lib.hid r1
          have Z_g2 : Hid (RawT k g2 g2_g g2_t) := Lib.hid r2
          have Z_gt : Hid (RawT k gt gt_g gt_t) := Lib.hid r3
          have Z_h1 : Hid (RawT k h1 h1_g h1_t) := Lib.hid r4
          have Z_h2 : Hid (RawT k h2 h2_g h2_t) := Lib.hid r5
          have Z_ht : Hid (RawT k ht ht_g ht_t) := Lib.hid r6
          clear r1 r2 r3 r4 r5 r6
          have HI := Lib.hid (show i < 40 ∧ IntKind.i64.wrap ((i : Int) + 1) = ((i + 1 : Nat) : Int) ∧ n - (i + 1) < n - i ∧ i + 1 ≤ n from ⟨by omega, by rw [IntWalk.i64_in _ (by omega)]; omega, by omega, by omega⟩)
          have hb0 : (i : Int) < (n : Int) := by omega
          have HLT := Lib.hid hlt; clear hlt
          go_upto_region 9 with (fail)
          refine wp_seq_text [] (StR.no HS0) ?_
          refine Seq.pure rfl rfl (by intro w; go_simp; try rfl) ?_
          simp only [Act.put, nA, nB, nC]
          refine Seq.done fun ws161 hws => ?_
          have HS161 := hws.st
          clear HS0 hws
          go_upto_region 10 with (fail)
          refine wp_seq_text [] (StR.no HS161) ?_
          refine Seq.indexI rfl rfl rfl rfl rfl hI1 ?_
          simp only [Act.put, nA, nB, nC]
          refine Seq.loadI rfl rfl rfl rfl hI2 ?_
          simp only [Act.put, nA, nB, nC]
          refine Seq.alloc rfl rfl rfl (z := .agg (F2W rz0 rz0 false rz0 rz0 rz0 false rz0)) (by kernel_rfl) rfl ?_
          intro bk16 _ _ hbk16_r
          simp only [Act.put, nA, nB, nC]
          refine Seq.store rfl rfl rfl rfl rfl (by repeat (first | exact rS | refine rN (by assumption) ?_)) (n := 20) rfl rfl (by kernel_rfl) (F2W_one _ _ _ _ _ _ _ _) ?_
          simp only [Act.put, nA, nB, nC]
          refine Seq.done fun ws162 hws => ?_
          have HS162 := hws.list1 (p := bk16) (by repeat (first | exact rS | refine rN (by assumption) ?_))
          clear HS161 hws
          go_upto_region 11 with (fail)
          refine wp_seq_text [] (StR.no HS162) ?_
          iterate 2 (refine Seq.pure rfl rfl (by intro w; go_simp; try rfl) ?_; simp only [Act.put, nA, nB, nC])
          refine Seq.done fun ws163 hws => ?_
          have HS163 := hws.st
          clear HS162 hws
          go_upto_region 13 with (fail)
          refine wp_seq_text [] (StR.no HS163) ?_
          iterate 2 (refine Seq.pure rfl rfl (by intro w; go_simp; try rfl) ?_; simp only [Act.put, nA, nB, nC])
          refine Seq.done fun ws164 hws => ?_
          have HS164 := hws.st
          clear HS163 hws
          go_upto_region 15 with (fail)
          refine wp_seq_text [] (StR.no HS164) ?_
          refine Seq.pure (v := .int .i64 ((i + 1 : Nat) : Int)) rfl rfl (by intro w; go_simp <;> (first | (rw [HI.out.2.1]; done) | exact HI.out.2.1 | (simp [HI.out.2.1]; done) | (trace_state; done))) ?_
          simp only [Act.put, nA, nB, nC]
          refine Seq.pure rfl rfl (by intro w; go_simp; try rfl) ?_
          simp only [Act.put, nA, nB, nC]
          refine Seq.done fun ws165 hws => ?_
          have HS165 := hws.st
          clear HS164 hws
          go_wp2_with fail
          go_roundg (n - (i + 1))
          case measure => rw [HGK.out]; exact HI.out.2.2.1
          case rel => exact .inr ⟨i + 1, e', q, rfl, rfl, rfl, HI.out.2.2.2, Lib.hid (drP_stay HD.out HE0.out (by omega)), HE0, Lib.hid HS165.drop⟩
        · obtain rfl : i = n := by omega
          have hb0 : ¬ ((i : Int) < (i : Int)) := by omega
          have hee : e = e' := by have := HDN.out.symm.trans HD.out; simp only [Prod.mk.injEq] at this; exact this.1
          subst hee
          go_upto_region 9 with (fail)
          refine wp_seq_text [] (StR.no HS0) ?_
          refine Seq.pure rfl rfl (by intro w; go_simp; try rfl) ?_
          simp only [Act.put, nA, nB, nC]
          refine Seq.done fun ws161 hws => ?_
          have HS161 := hws.st
          clear HS0 hws
          go_upto_region 16 with (fail)
          refine wp_seq_text [] (StR.no HS161) ?_
          iterate 7 (refine Seq.pure rfl rfl (by intro w; go_simp; try rfl) ?_; simp only [Act.put, nA, nB, nC])
          iterate 3 (refine Seq.nw rfl ?_; simp only [Act.put, nA, nB, nC])
          iterate 3 (refine Seq.pure rfl rfl (by intro w; go_simp; try rfl) ?_; simp only [Act.put, nA, nB, nC])
          refine Seq.done fun ws162 hws => ?_
          have HS162 := hws.st
          clear HS161 hws
          go_wp2_with fail
          go_ret
          exact ⟨rfl, HS162.below⟩
set_option maxHeartbeats 8000000 in
set_option maxRecDepth 20000 in
theorem carryNeeds_big {k n c : Nat} {pxl pxh pyl pyh ptl pth b s : Rat} {pxg pyg ptg b_g s_g : Bool} {px1 px2 py1 py2 pt1 pt2 b_t s_t : RT} {A : Option Addr} {G H : Nat → F4} {s1 s2 st sw : Rat} {s1_g s2_g st_g sw_g sh : Bool} {s1_t s2_t st_t sw_t : RT} {sn : ByteArray} {W : World} {l : List Own} (hT : Tab W) (Zpx : RawS k pxl pxh pxg px1 px2) (Zpy : RawS k pyl pyh pyg py1 py2) (Zpt : RawS k ptl pth ptg pt1 pt2) (Zb : RawT k b b_g b_t) (Zs : RawT k s s_g s_t) (hwi : WIn W A n c k G H) (Zs1 : RawT k s1 s1_g s1_t) (Zs2 : RawT k s2 s2_g s2_t) (Zst : RawT k st st_g st_t) (Zsw : RawT k sw sw_g sw_t) (hn : 40 < n) (hn2 : n ≤ 1000000000) (hk0 : 2 ≤ k) (hk : k ≤ 42925823) (w : World) (h : St W l w) :
    Calls Tryd.prog 3 #[.agg (PW px1 px2 py1 py2 pt1 pt2), .agg (SLW sn s1_t s2_t sh st_t sw_t), .slice A n c, .agg (RT.c b_t), .agg (RT.c s_t)] w fun e w' => e = .returned (.bool true) ∧ Below w.heap.size w w' := by
  have HWI := Lib.hid (hwi.next h); clear hwi
  have HT := Lib.hid (tabS hT h); clear hT h
  have Z_px := Lib.hid Zpx; clear Zpx
  have Z_py := Lib.hid Zpy; clear Zpy
  have Z_pt := Lib.hid Zpt; clear Zpt
  have Z_b := Lib.hid Zb; clear Zb
  have Z_s := Lib.hid Zs; clear Zs
  have Z_s1 := Lib.hid Zs1; clear Zs1
  have Z_s2 := Lib.hid Zs2; clear Zs2
  have Z_st := Lib.hid Zst; clear Zst
  have Z_sw := Lib.hid Zsw; clear Zsw
  obtain ⟨nd, hnd⟩ : ∃ z, needQ pxl pxh pyl pyh s1 s2 (maxQ sw 0) = z := ⟨_, rfl⟩
  have HND := Lib.hid hnd; clear hnd
  have hb40 : (40 < (n : Int)) := by omega
  have hb41 : (40 < n) := hn
  go_enter Tryd.func3, Tryd.ntmps3
  have HS : St w [] w := St.start
  go_upto_region 0 with (fail)
  refine wp_seq_text [] (StR.no HS) ?_
  refine Seq.box rfl rfl rfl (v := .agg (PW px1 px2 py1 py2 pt1 pt2)) (cs := PW px1 px2 py1 py2 pt1 pt2) rfl rfl ?_
  intro bk5 _ _ hbk5_r
  simp only [Act.put, nA, nB, nC]
  refine Seq.box rfl rfl rfl (v := .agg (SLW sn s1_t s2_t sh st_t sw_t)) (cs := SLW sn s1_t s2_t sh st_t sw_t) rfl rfl ?_
  intro bk6 _ _ hbk6_r
  obtain ⟨ne_bk6_bk5, hbk6_r⟩ := Reg.ne_of_put hbk6_r
  have ne_bk5_bk6 := Ne.symm ne_bk6_bk5
  simp only [Act.put, nA, nB, nC]
  refine Seq.box rfl rfl rfl (v := .agg (RT.c b_t)) (cs := RT.c b_t) rfl rfl ?_
  intro bk8 _ _ hbk8_r
  obtain ⟨ne_bk8_bk6, hbk8_r⟩ := Reg.ne_of_put hbk8_r
  have ne_bk6_bk8 := Ne.symm ne_bk8_bk6
  obtain ⟨ne_bk8_bk5, hbk8_r⟩ := Reg.ne_of_put hbk8_r
  have ne_bk5_bk8 := Ne.symm ne_bk8_bk5
  simp only [Act.put, nA, nB, nC]
  refine Seq.box rfl rfl rfl (v := .agg (RT.c s_t)) (cs := RT.c s_t) rfl rfl ?_
  intro bk9 _ _ hbk9_r
  obtain ⟨ne_bk9_bk8, hbk9_r⟩ := Reg.ne_of_put hbk9_r
  have ne_bk8_bk9 := Ne.symm ne_bk9_bk8
  obtain ⟨ne_bk9_bk6, hbk9_r⟩ := Reg.ne_of_put hbk9_r
  have ne_bk6_bk9 := Ne.symm ne_bk9_bk6
  obtain ⟨ne_bk9_bk5, hbk9_r⟩ := Reg.ne_of_put hbk9_r
  have ne_bk5_bk9 := Ne.symm ne_bk9_bk5
  simp only [Act.put, nA, nB, nC]
  refine Seq.pure rfl rfl (by intro w; go_simp; try rfl) ?_
  simp only [Act.put, nA, nB, nC]
  refine Seq.done fun ws1 hws => ?_
  have HS1 : St w [(bk5, 27, PW px1 px2 py1 py2 pt1 pt2), (bk6, 35, SLW sn s1_t s2_t sh st_t sw_t), (bk8, 23, RT.c b_t), (bk9, 23, RT.c s_t)] ws1 := hws.listN [(bk5, 27, PW px1 px2 py1 py2 pt1 pt2), (bk6, 35, SLW sn s1_t s2_t sh st_t sw_t), (bk8, 23, RT.c b_t), (bk9, 23, RT.c s_t)] (by simp [*]) (by intro e he; simp only [List.mem_cons, List.not_mem_nil, or_false] at he; rcases he with rfl | rfl | rfl | rfl <;> first | exact Reg.put_same _ _ _ | (simp [Reg.put, *]; done) | (simp [Reg.put, *]; rfl))
  clear HS hws
  go_upto_region 1 with (fail)
  refine wp_seq_text [] (StR.no HS1) ?_
  refine Seq.load rfl rfl rfl rfl (by repeat (first | exact mC | apply mT)) (n := 18) rfl (by kernel_rfl) ?_
  simp only [Act.put, nA, nB, nC]
  refine Seq.call rfl rfl rfl rfl (by kernel_rfl) (poseOf_w (k := (1 * k + 2)) (px1 := px1) (px2 := px2) (py1 := py1) (py2 := py2) (pt1 := pt1) (pt2 := pt2) HT.out (Z_px.out.more (by omega)) (Z_py.out.more (by omega)) (Z_pt.out.more (by omega))  rfl rfl rfl rfl rfl rfl (by omega) (by omega)) ?_
  simp only [Act.put, nA, nB, nC]
  refine Seq.alloc rfl rfl rfl (z := .agg (PW rz0 rz0 rz0 rz0 rz0 rz0)) (by kernel_rfl) rfl ?_
  intro bk11 _ _ hbk11_r
  simp only [Act.put, nA, nB, nC]
  refine Seq.store rfl rfl rfl rfl rfl (by repeat (first | exact rS | refine rN (by assumption) ?_)) (n := 18) rfl rfl (by kernel_rfl) (PW_one _ _ _ _ _ _) ?_
  simp only [Act.put, nA, nB, nC]
  refine Seq.done fun ws2 hws => ?_
  have HS2 := hws.list1 (p := bk11) (by repeat (first | exact rS | refine rN (by assumption) ?_))
  clear HS1 hws
  go_upto_region 2 with (fail)
  refine wp_seq [] (by kernel_rfl) (by kernel_rfl) Reg.fin_no (StR.no HS2) ?_
  refine Seq.call rfl rfl rfl rfl (by kernel_rfl) (carried_q HT.out) ?_
  simp only [Act.put, nA, nB, nC]
  iterate 2 (refine Seq.pure rfl rfl (by intro w; go_simp; try rfl) ?_; simp only [Act.put, nA, nB, nC])
  refine Seq.load rfl rfl rfl rfl (by repeat (first | exact mC | apply mT)) (n := 18) rfl (by kernel_rfl) ?_
  simp only [Act.put, nA, nB, nC]
  refine Seq.load rfl rfl rfl rfl (by repeat (first | exact mC | apply mT)) (n := 14) rfl (by kernel_rfl) ?_
  simp only [Act.put, nA, nB, nC]
  refine Seq.call rfl rfl rfl rfl (by kernel_rfl) (need_w (k := (1 * k + 2)) (px1 := px1) (px2 := px2) (py1 := py1) (py2 := py2) (pt1 := pt1) (pt2 := pt2) (s1_t := s1_t) (s2_t := s2_t) (st_t := st_t) (sw_t := sw_t) HT.out (Z_px.out.more (by omega)) (Z_py.out.more (by omega)) (Z_pt.out.more (by omega)) (Z_s1.out.more (by omega)) (Z_s2.out.more (by omega)) (Z_st.out.more (by omega)) (Z_sw.out.more (by omega))  HND.out (by omega) (by omega)) ?_
  simp only [Act.put, nA, nB, nC]
  refine Seq.load rfl rfl rfl rfl (by repeat (first | exact mC | apply mT)) (n := 18) rfl (by kernel_rfl) ?_
  simp only [Act.put, nA, nB, nC]
  refine Seq.load rfl rfl rfl rfl (by repeat (first | exact mC | apply mT)) (n := 14) rfl (by kernel_rfl) ?_
  simp only [Act.put, nA, nB, nC]
  refine Seq.call rfl rfl rfl rfl (by kernel_rfl) (needOf_w (k := (1 * k + 2)) (s1_t := s1_t) (s2_t := s2_t) (st_t := st_t) (sw_t := sw_t) HT.out ((Z_px.out.rz (by omega)).1.more (by omega)) ((Z_px.out.rz (by omega)).2.more (by omega)) ((Z_py.out.rz (by omega)).1.more (by omega)) ((Z_py.out.rz (by omega)).2.more (by omega)) ((Z_pt.out.rz (by omega)).1.more (by omega)) ((Z_pt.out.rz (by omega)).2.more (by omega)) (Z_s1.out.more (by omega)) (Z_s2.out.more (by omega)) (Z_st.out.more (by omega)) (Z_sw.out.more (by omega))  HND.out (by omega) (by omega)) ?_
  simp only [Act.put, nA, nB, nC]
  iterate 3 (refine Seq.pure rfl rfl (by intro w; go_simp; try rfl) ?_; simp only [Act.put, nA, nB, nC])
  refine Seq.load rfl rfl rfl rfl (by repeat (first | exact mC | apply mT)) (n := 14) rfl (by kernel_rfl) ?_
  simp only [Act.put, nA, nB, nC]
  refine Seq.call rfl rfl rfl rfl (by kernel_rfl) (looks_w (k := (1 * k + 2)) (s1_t := s1_t) (s2_t := s2_t) (st_t := st_t) (sw_t := sw_t) HT.out (Z_s1.out.more (by omega)) (Z_s2.out.more (by omega)) (Z_st.out.more (by omega)) (Z_sw.out.more (by omega))  rfl (by omega) (by omega)) ?_
  simp only [Act.put, nA, nB, nC]
  refine Seq.load rfl rfl rfl rfl (by repeat (first | exact mC | apply mT)) (n := 14) rfl (by kernel_rfl) ?_
  simp only [Act.put, nA, nB, nC]
  refine Seq.call rfl rfl rfl rfl (by kernel_rfl) (tolerance_w (k := (1 * k + 2)) (s1_t := s1_t) (s2_t := s2_t) (st_t := st_t) (sw_t := sw_t) HT.out (Z_s1.out.more (by omega)) (Z_s2.out.more (by omega)) (Z_st.out.more (by omega)) (Z_sw.out.more (by omega))  rfl (by omega) (by omega)) ?_
  simp only [Act.put, nA, nB, nC]
  refine Seq.call rfl rfl rfl rfl (by kernel_rfl) (cmp_q (k := (1 * k + 2)) HT.out ((Rz.max (k := (1 * k + 2)) (Rz.more Z_sw.out.rz (by omega)) (Rz.zero2.more (by omega))).more (by omega)) ((Rz.max (k := (1 * k + 2)) (Rz.more Z_sw.out.rz (by omega)) (Rz.zero2.more (by omega))).more (by omega)) ((cmpQ_zero _ _).2 rfl) (by omega)) ?_
  simp only [Act.put, nA, nB, nC]
  iterate 2 (refine Seq.pure rfl rfl (by intro w; go_simp; try rfl) ?_; simp only [Act.put, nA, nB, nC])
  refine Seq.done fun ws3 hws => ?_
  have HS3 := hws.st
  clear HS2 hws
  go_upto_region 4 with (fail)
  refine wp_seq_text [] (StR.no HS3) ?_
  refine Seq.load rfl rfl rfl rfl (by repeat (first | exact mC | apply mT)) (n := 18) rfl (by kernel_rfl) ?_
  simp only [Act.put, nA, nB, nC]
  refine Seq.pure rfl rfl (by intro w; go_simp; try rfl) ?_
  simp only [Act.put, nA, nB, nC]
  refine Seq.load rfl rfl rfl rfl (by repeat (first | exact mC | apply mT)) (n := 3) rfl (by kernel_rfl) ?_
  simp only [Act.put, nA, nB, nC]
  refine Seq.load rfl rfl rfl rfl (by repeat (first | exact mC | apply mT)) (n := 3) rfl (by kernel_rfl) ?_
  simp only [Act.put, nA, nB, nC]
  refine Seq.call rfl rfl rfl rfl (by kernel_rfl) (drift_big HT.out hb41) ?_
  simp only [Act.put, nA, nB, nC]
  refine Seq.pure rfl rfl (by intro w; go_simp; try rfl) ?_
  simp only [Act.put, nA, nB, nC]
  refine Seq.pure (v := .agg (PW rz0 rz0 rz0 rz0 rz0 rz0)) rfl rfl (fun w => rfl) ?_
  simp only [Act.put, nA, nB, nC]
  refine Seq.pure (v := .int .i64 2) rfl rfl (fun w => rfl) ?_
  simp only [Act.put, nA, nB, nC]
  refine Seq.alloc rfl rfl rfl (z := .agg (PW rz0 rz0 rz0 rz0 rz0 rz0)) (by kernel_rfl) rfl ?_
  intro bk12 _ _ hbk12_r
  simp only [Act.put, nA, nB, nC]
  refine Seq.store rfl rfl rfl rfl rfl (by repeat (first | exact rS | refine rN (by assumption) ?_)) (n := 18) rfl rfl (by kernel_rfl) (PW_one _ _ _ _ _ _) ?_
  simp only [Act.put, nA, nB, nC]
  refine Seq.pure rfl rfl (by intro w; go_simp; try rfl) ?_
  simp only [Act.put, nA, nB, nC]
  refine Seq.done fun ws4 hws => ?_
  have HS4 := hws.list1 (p := bk12) (by repeat (first | exact rS | refine rN (by assumption) ?_))
  clear HS3 hws
  go_upto_region 5 with (fail)
  refine wp_seq_text [] (StR.no HS4) ?_
  refine Seq.pure rfl rfl (by intro w; go_simp; try rfl) ?_
  simp only [Act.put, nA, nB, nC]
  refine Seq.done fun ws5 hws => ?_
  have HS5 := hws.st
  clear HS4 hws
  go_upto_region 6 with (fail)
  refine wp_seq_text [] (StR.no HS5) ?_
  iterate 3 (refine Seq.pure rfl rfl (by intro w; go_simp; try rfl) ?_; simp only [Act.put, nA, nB, nC])
  refine Seq.done fun ws6 hws => ?_
  have HS6 := hws.st
  clear HS5 hws
  go_upto_region 7 with (fail)
  refine wp_seq_text [] (StR.no HS6) ?_
  refine Seq.pure rfl rfl (by intro w; go_simp; try rfl) ?_
  simp only [Act.put, nA, nB, nC]
  refine Seq.done fun ws7 hws => ?_
  have HS7 := hws.st
  clear HS6 hws
  go_upto_region 8 with (fail)
  refine wp_seq_text [] (StR.no HS7) ?_
  iterate 3 (refine Seq.pure rfl rfl (by intro w; go_simp; try rfl) ?_; simp only [Act.put, nA, nB, nC])
  refine Seq.done fun ws8 hws => ?_
  have HS8 := hws.st
  clear HS7 hws
  go_wp2_with fail
  go_loopg [51, 14] n (fun kx x y wr => ∃ i : Nat, kx = n - i ∧ x = .int .i64 (i : Int) ∧ y = .int .i64 2 ∧ i ≤ n ∧ Hid (St w [(bk12, 27, PW rz0 rz0 rz0 rz0 rz0 rz0), (bk11, 39, PW (rt pxl) (rt pxh) (rt pyl) (rt pyh) (rt ptl) (rt pth)), (bk5, 27, PW px1 px2 py1 py2 pt1 pt2), (bk6, 35, SLW sn s1_t s2_t sh st_t sw_t), (bk8, 23, RT.c b_t), (bk9, 23, RT.c s_t)] wr))
  case atStart => exact ⟨0, rfl, rfl, rfl, by omega, Lib.hid HS8⟩
  case round =>
    obtain ⟨i, hgk, rfl, rfl, hin, hS⟩ := hrel
    have HS0 := hS.out
    clear hS
    have HGK := Lib.hid hgk; clear hgk
    by_cases hlt : i < n
    · obtain ⟨g, f, g1_t, g2_t, gt_t, h1_t, h2_t, ht_t, g1_g, g2_g, gt_g, h1_g, h2_g, ht_g, hI1, hI2, r1, r2, r3, r4, r5, r6⟩ := HWI.out i hlt
      obtain ⟨⟨g1, g2, gh, gt⟩, hG⟩ : ∃ x, G i = x := ⟨_, rfl⟩
      obtain ⟨⟨h1, h2, hh, ht⟩, hH⟩ : ∃ x, H i = x := ⟨_, rfl⟩
      rw [hG] at r1 r2 r3 hI2
      rw [hH] at r4 r5 r6 hI2
      have HGE := Lib.hid hG; clear hG
      have HHE := Lib.hid hH; clear hH
      have Z_g1 : Hid (RawT k g1 g1_g g1_t) := Lib.hid r1
      have Z_g2 : Hid (RawT k g2 g2_g g2_t) := Lib.hid r2
      have Z_gt : Hid (RawT k gt gt_g gt_t) := Lib.hid r3
      have Z_h1 : Hid (RawT k h1 h1_g h1_t) := Lib.hid r4
      have Z_h2 : Hid (RawT k h2 h2_g h2_t) := Lib.hid r5
      have Z_ht : Hid (RawT k ht ht_g ht_t) := Lib.hid r6
      clear r1 r2 r3 r4 r5 r6
      have HI := Lib.hid (show IntKind.i64.wrap ((i : Int) + 1) = ((i + 1 : Nat) : Int) ∧ n - (i + 1) < n - i ∧ i + 1 ≤ n from ⟨by rw [IntWalk.i64_in _ (by omega)]; omega, by omega, by omega⟩)
      have hb0 : (i : Int) < (n : Int) := by omega
      have HLT := Lib.hid hlt; clear hlt
      go_upto_region 9 with (fail)
      refine wp_seq_text [] (StR.no HS0) ?_
      refine Seq.pure rfl rfl (by intro w; go_simp; try rfl) ?_
      simp only [Act.put, nA, nB, nC]
      refine Seq.done fun ws51 hws => ?_
      have HS51 := hws.st
      clear HS0 hws
      go_upto_region 10 with (fail)
      refine wp_seq_text [] (StR.no HS51) ?_
      refine Seq.indexI rfl rfl rfl rfl rfl hI1 ?_
      simp only [Act.put, nA, nB, nC]
      refine Seq.loadI rfl rfl rfl rfl hI2 ?_
      simp only [Act.put, nA, nB, nC]
      refine Seq.alloc rfl rfl rfl (z := .agg (F2W rz0 rz0 false rz0 rz0 rz0 false rz0)) (by kernel_rfl) rfl ?_
      intro bk16 _ _ hbk16_r
      simp only [Act.put, nA, nB, nC]
      refine Seq.store rfl rfl rfl rfl rfl (by repeat (first | exact rS | refine rN (by assumption) ?_)) (n := 20) rfl rfl (by kernel_rfl) (F2W_one _ _ _ _ _ _ _ _) ?_
      simp only [Act.put, nA, nB, nC]
      refine Seq.done fun ws52 hws => ?_
      have HS52 := hws.list1 (p := bk16) (by repeat (first | exact rS | refine rN (by assumption) ?_))
      clear HS51 hws
      go_upto_region 11 with (fail)
      refine wp_seq_text [] (StR.no HS52) ?_
      iterate 2 (refine Seq.pure rfl rfl (by intro w; go_simp; try rfl) ?_; simp only [Act.put, nA, nB, nC])
      refine Seq.done fun ws53 hws => ?_
      have HS53 := hws.st
      clear HS52 hws
      go_upto_region 13 with (fail)
      refine wp_seq_text [] (StR.no HS53) ?_
      iterate 2 (refine Seq.pure rfl rfl (by intro w; go_simp; try rfl) ?_; simp only [Act.put, nA, nB, nC])
      refine Seq.done fun ws54 hws => ?_
      have HS54 := hws.st
      clear HS53 hws
      go_upto_region 15 with (fail)
      refine wp_seq_text [] (StR.no HS54) ?_
      refine Seq.pure (v := .int .i64 ((i + 1 : Nat) : Int)) rfl rfl (by intro w; go_simp <;> (first | (rw [HI.out.1]; done) | exact HI.out.1 | (simp [HI.out.1]; done) | (trace_state; done))) ?_
      simp only [Act.put, nA, nB, nC]
      refine Seq.pure rfl rfl (by intro w; go_simp; try rfl) ?_
      simp only [Act.put, nA, nB, nC]
      refine Seq.done fun ws55 hws => ?_
      have HS55 := hws.st
      clear HS54 hws
      go_wp2_with fail
      go_roundg (n - (i + 1))
      case measure => rw [HGK.out]; exact HI.out.2.1
      case rel => exact ⟨i + 1, rfl, rfl, rfl, HI.out.2.2, Lib.hid HS55.drop⟩
    · obtain rfl : i = n := by omega
      have hb0 : ¬ ((i : Int) < (i : Int)) := by omega
      go_upto_region 9 with (fail)
      refine wp_seq_text [] (StR.no HS0) ?_
      refine Seq.pure rfl rfl (by intro w; go_simp; try rfl) ?_
      simp only [Act.put, nA, nB, nC]
      refine Seq.done fun ws51 hws => ?_
      have HS51 := hws.st
      clear HS0 hws
      go_upto_region 16 with (fail)
      refine wp_seq_text [] (StR.no HS51) ?_
      iterate 7 (refine Seq.pure rfl rfl (by intro w; go_simp; try rfl) ?_; simp only [Act.put, nA, nB, nC])
      iterate 3 (refine Seq.nw rfl ?_; simp only [Act.put, nA, nB, nC])
      iterate 3 (refine Seq.pure rfl rfl (by intro w; go_simp; try rfl) ?_; simp only [Act.put, nA, nB, nC])
      refine Seq.done fun ws52 hws => ?_
      have HS52 := hws.st
      clear HS51 hws
      go_wp2_with fail
      go_ret
      exact ⟨rfl, HS52.below⟩
end Go.Proofs.YtoejojfjiikogaaDoor
