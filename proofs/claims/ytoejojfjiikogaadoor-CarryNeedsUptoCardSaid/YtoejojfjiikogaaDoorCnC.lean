/- gantref4.NeedOf. -/
import Derived.Test.YtoejojfjiikogaaDoorCnB
import Derived.LoopN
import Derived.Deep.LoopGhost

namespace Go.Proofs.YtoejojfjiikogaaDoor
open Go.RowKit
set_option linter.unusedVariables false
set_option linter.unusedSimpArgs false

set_option maxHeartbeats 4000000 in
set_option maxRecDepth 20000 in
theorem needOf_w {k : Nat} {sn : ByteArray} {p1 : Rat} {p2 : Rat} {p3 : Rat} {p4 : Rat} {p5 : Rat} {p6 : Rat} {s1 : Rat} {s1_g : Bool} {s1_t : RT} {s2 : Rat} {s2_g : Bool} {s2_t : RT} {sh : Bool} {st : Rat} {st_g : Bool} {st_t : RT} {sw : Rat} {sw_g : Bool} {sw_t : RT} {z0 : Int} {W : World} {l : List Own} (hT : Tab W) (Zp1 : Rz k p1) (Zp2 : Rz k p2) (Zp3 : Rz k p3) (Zp4 : Rz k p4) (Zp5 : Rz k p5) (Zp6 : Rz k p6) (Zs1 : RawT k s1 s1_g s1_t) (Zs2 : RawT k s2 s2_g s2_t) (Zst : RawT k st st_g st_t) (Zsw : RawT k sw sw_g sw_t) (hz0 : needQ p1 p2 p3 p4 s1 s2 (maxQ sw 0) = z0) (hk0 : 2 ≤ k) (hk : k ≤ 999999999998) (w : World) (h : St W l w) :
    Calls Tryd.prog 8 #[.agg (PW (rt p1) (rt p2) (rt p3) (rt p4) (rt p5) (rt p6)), .agg (SLW sn s1_t s2_t sh st_t sw_t)] w fun e w' => e = .returned (.int .i64 z0) ∧ Below w.heap.size w w' := by
  subst hz0
  have HT := Lib.hid (tabS hT h); clear hT h
  have Z_p1 := Lib.hid Zp1; clear Zp1
  have Z_p2 := Lib.hid Zp2; clear Zp2
  have Z_p3 := Lib.hid Zp3; clear Zp3
  have Z_p4 := Lib.hid Zp4; clear Zp4
  have Z_p5 := Lib.hid Zp5; clear Zp5
  have Z_p6 := Lib.hid Zp6; clear Zp6
  have Z_s1 := Lib.hid Zs1; clear Zs1
  have Z_s2 := Lib.hid Zs2; clear Zs2
  have Z_st := Lib.hid Zst; clear Zst
  have Z_sw := Lib.hid Zsw; clear Zsw
  obtain ⟨m, hm⟩ : ∃ m, maxQ sw 0 = m := ⟨_, rfl⟩
  have Z_m := Lib.hid (show Rz (1 * k + 2) m from hm ▸ Rz.max (Z_sw.out.rz.more (by omega)) (Rz.zero2.more (by omega)))
  have HM := Lib.hid hm; clear hm
  go_enter Tryd.func8, Tryd.ntmps8
  have HS : St w [] w := St.start
  go_upto_region 0 with (fail)
  refine wp_seq_text [] (StR.no HS) ?_
  refine Seq.box rfl rfl rfl (v := .agg (PW (rt p1) (rt p2) (rt p3) (rt p4) (rt p5) (rt p6))) (cs := PW (rt p1) (rt p2) (rt p3) (rt p4) (rt p5) (rt p6)) rfl rfl ?_
  intro bk2 _ _ hbk2_r
  simp only [Act.put, nA, nB, nC]
  refine Seq.box rfl rfl rfl (v := .agg (SLW sn s1_t s2_t sh st_t sw_t)) (cs := SLW sn s1_t s2_t sh st_t sw_t) rfl rfl ?_
  intro bk3 _ _ hbk3_r
  obtain ⟨ne_bk3_bk2, hbk3_r⟩ := Reg.ne_of_put hbk3_r
  have ne_bk2_bk3 := Ne.symm ne_bk3_bk2
  simp only [Act.put, nA, nB, nC]
  refine Seq.pure rfl rfl (by intro w; go_simp; try rfl) ?_
  simp only [Act.put, nA, nB, nC]
  refine Seq.done fun ws1 hws => ?_
  have HS1 := hws.list2 (p := bk2) (q := bk3) (by repeat (first | exact rS | refine rN (by assumption) ?_)) (by repeat (first | exact rS | refine rN (by assumption) ?_)) (by assumption)
  clear HS hws
  go_upto_region 1 with (fail)
  refine wp_seq_text [] (StR.no HS1) ?_
  refine Seq.load rfl rfl rfl rfl (by repeat (first | exact mC | apply mT)) (n := 14) rfl (by kernel_rfl) ?_
  simp only [Act.put, nA, nB, nC]
  refine Seq.call rfl rfl rfl rfl (by kernel_rfl) (tolerance_w (k := (1 * k + 2)) (s1_t := s1_t) (s2_t := s2_t) (st_t := st_t) (sw_t := sw_t) HT.out (Z_s1.out.more (by omega)) (Z_s2.out.more (by omega)) (Z_st.out.more (by omega)) (Z_sw.out.more (by omega))  HM.out (by omega) (by omega)) ?_
  simp only [Act.put, nA, nB, nC]
  refine Seq.alloc rfl rfl rfl (z := .agg (RT.c rz0)) (by kernel_rfl) rfl ?_
  intro bk5 _ _ hbk5_r
  simp only [Act.put, nA, nB, nC]
  refine Seq.store rfl rfl rfl rfl rfl (by repeat (first | exact rS | refine rN (by assumption) ?_)) (n := 3) rfl rfl (by kernel_rfl) (RC_one _) ?_
  simp only [Act.put, nA, nB, nC]
  refine Seq.done fun ws2 hws => ?_
  have HS2 := hws.list1 (p := bk5) (by repeat (first | exact rS | refine rN (by assumption) ?_))
  clear HS1 hws
  go_upto_region 2 with (fail)
  refine wp_seq_text [] (StR.no HS2) ?_
  refine Seq.pure rfl rfl (by intro w; go_simp; try rfl) ?_
  simp only [Act.put, nA, nB, nC]
  refine Seq.done fun ws3 hws => ?_
  have HS3 := hws.st
  clear HS2 hws
  go_upto_region 3 with (fail)
  refine wp_seq_text [] (StR.no HS3) ?_
  iterate 3 (refine Seq.pure rfl rfl (by intro w; go_simp; try rfl) ?_; simp only [Act.put, nA, nB, nC])
  refine Seq.loadAt rfl rfl rfl rfl (by repeat (first | exact mC | apply mT)) (n := 3) (cs' := RT.c s1_t) (Nat.le_of_ble_eq_true rfl) (by kernel_rfl) rfl ?_
  simp only [Act.put, nA, nB, nC]
  iterate 3 (refine Seq.pure rfl rfl (by intro w; go_simp; try rfl) ?_; simp only [Act.put, nA, nB, nC])
  refine Seq.loadAt rfl rfl rfl rfl (by repeat (first | exact mC | apply mT)) (n := 3) (cs' := RT.c s2_t) (Nat.le_of_ble_eq_true rfl) (by kernel_rfl) rfl ?_
  simp only [Act.put, nA, nB, nC]
  refine Seq.slice (n := 2) (e := 23) (cs := SW s1_t s2_t) rfl rfl (fun w => slc_W2 rfl rfl rfl w) ?_
  intro bk21 _ _ hbk21_r
  simp only [Act.put, nA, nB, nC]
  iterate 2 (refine Seq.pure rfl rfl (by intro w; go_simp; try rfl) ?_; simp only [Act.put, nA, nB, nC])
  refine Seq.done fun ws4 hws => ?_
  have HS4 := hws.list1 (p := bk21) (by repeat (first | exact rS | refine rN (by assumption) ?_))
  clear HS3 hws
  go_wp2_with fail
  go_loopg [23, 6] 2 (fun kx i q wr => (kx = 2 ∧ i = .int .i64 0 ∧ q = .int .i64 0 ∧ Hid (St w [(bk21, 23, SW s1_t s2_t), (bk5, 23, RC m), (bk2, 39, PW (rt p1) (rt p2) (rt p3) (rt p4) (rt p5) (rt p6)), (bk3, 35, SLW sn s1_t s2_t sh st_t sw_t)] wr)) ∨ (∃ o : Int, kx = 1 ∧ i = .int .i64 1 ∧ q = .int .i64 o ∧ Hid (mtQ p1 p2 (s1 - m) (s1 + m) = true ∧ o = if wiQ p1 p2 (s1 - m) (s1 + m) = true then 0 else 18) ∧ Hid (St w [(bk21, 23, SW s1_t s2_t), (bk5, 23, RC m), (bk2, 39, PW (rt p1) (rt p2) (rt p3) (rt p4) (rt p5) (rt p6)), (bk3, 35, SLW sn s1_t s2_t sh st_t sw_t)] wr)) ∨ (∃ o : Int, kx = 0 ∧ i = .int .i64 2 ∧ q = .int .i64 o ∧ Hid (mtQ p1 p2 (s1 - m) (s1 + m) = true ∧ mtQ p3 p4 (s2 - m) (s2 + m) = true ∧ o = if wiQ p1 p2 (s1 - m) (s1 + m) = true ∧ wiQ p3 p4 (s2 - m) (s2 + m) = true then 0 else 18) ∧ Hid (St w [(bk21, 23, SW s1_t s2_t), (bk5, 23, RC m), (bk2, 39, PW (rt p1) (rt p2) (rt p3) (rt p4) (rt p5) (rt p6)), (bk3, 35, SLW sn s1_t s2_t sh st_t sw_t)] wr)))
  case atStart => exact .inl ⟨rfl, rfl, rfl, Lib.hid HS4⟩
  case round =>
    rcases hrel with ⟨hgk, rfl, rfl, hS⟩ | ⟨o, hgk, rfl, rfl, hO, hS⟩ | ⟨o, hgk, rfl, rfl, hO, hS⟩
    · have HS0 := hS.out
      clear hS
      go_upto_region 4 with (fail)
      refine wp_seq_text [] (StR.no HS0) ?_
      refine Seq.pure rfl rfl (by intro w; go_simp; try rfl) ?_
      simp only [Act.put, nA, nB, nC]
      refine Seq.done fun ws51 hws => ?_
      have HS51 := hws.st
      clear HS0 hws
      go_upto_region 5 with (fail)
      refine wp_seq_text [] (StR.no HS51) ?_
      iterate 2 (refine Seq.pure rfl rfl (by intro w; go_simp; try rfl) ?_; simp only [Act.put, nA, nB, nC])
      refine Seq.loadAt rfl rfl rfl rfl (by repeat (first | exact mC | apply mT)) (n := 3) (cs' := RT.c s1_t) (Nat.le_of_ble_eq_true rfl) (by kernel_rfl) rfl ?_
      simp only [Act.put, nA, nB, nC]
      refine Seq.alloc rfl rfl rfl (z := .agg (RT.c rz0)) (by kernel_rfl) rfl ?_
      intro bk8 _ _ hbk8_r
      simp only [Act.put, nA, nB, nC]
      refine Seq.pure rfl rfl (by intro w; go_simp; try rfl) ?_
      simp only [Act.put, nA, nB, nC]
      refine Seq.store rfl rfl rfl rfl rfl (by repeat (first | exact rS | refine rN (by assumption) ?_)) (n := 3) rfl rfl (by kernel_rfl) (RT_one _) ?_
      simp only [Act.put, nA, nB, nC]
      refine Seq.done fun ws52 hws => ?_
      have HS52 := hws.list1 (p := bk8) (by repeat (first | exact rS | refine rN (by assumption) ?_))
      clear HS51 hws
      go_upto_region 6 with (fail)
      refine wp_seq [] (by kernel_rfl) (by kernel_rfl) Reg.fin_no (StR.no HS52) ?_
      refine Seq.load rfl rfl rfl rfl (by repeat (first | exact mC | apply mT)) (n := 3) rfl (by kernel_rfl) ?_
      simp only [Act.put, nA, nB, nC]
      refine Seq.load rfl rfl rfl rfl (by repeat (first | exact mC | apply mT)) (n := 3) rfl (by kernel_rfl) ?_
      simp only [Act.put, nA, nB, nC]
      refine Seq.call rfl rfl rfl rfl (by kernel_rfl) (sub_wq (k := (1 * k + 2)) HT.out (Z_s1.out.more (by omega)) (Z_m.out.more (by omega)) rfl (by omega)) ?_
      simp only [Act.put, nA, nB, nC]
      refine Seq.load rfl rfl rfl rfl (by repeat (first | exact mC | apply mT)) (n := 3) rfl (by kernel_rfl) ?_
      simp only [Act.put, nA, nB, nC]
      refine Seq.load rfl rfl rfl rfl (by repeat (first | exact mC | apply mT)) (n := 3) rfl (by kernel_rfl) ?_
      simp only [Act.put, nA, nB, nC]
      refine Seq.call rfl rfl rfl rfl (by kernel_rfl) (add_wq (k := (1 * k + 2)) HT.out (Z_s1.out.more (by omega)) (Z_m.out.more (by omega)) rfl (by omega)) ?_
      simp only [Act.put, nA, nB, nC]
      refine Seq.alloc rfl rfl rfl (z := .agg (RT.c rz0)) (by kernel_rfl) rfl ?_
      intro bk9 _ _ hbk9_r
      simp only [Act.put, nA, nB, nC]
      refine Seq.alloc rfl rfl rfl (z := .agg (RT.c rz0)) (by kernel_rfl) rfl ?_
      intro bk10 _ _ hbk10_r
      obtain ⟨ne_bk10_bk9, hbk10_r⟩ := Reg.ne_of_put hbk10_r
      have ne_bk9_bk10 := Ne.symm ne_bk10_bk9
      simp only [Act.put, nA, nB, nC]
      refine Seq.store rfl rfl rfl rfl rfl (by repeat (first | exact rS | refine rN (by assumption) ?_)) (n := 3) rfl rfl (by kernel_rfl) (RC_one _) ?_
      simp only [Act.put, nA, nB, nC]
      refine Seq.store rfl rfl rfl rfl rfl (by repeat (first | exact rS | refine rN (by assumption) ?_)) (n := 3) rfl rfl (by kernel_rfl) (RC_one _) ?_
      simp only [Act.put, nA, nB, nC]
      refine Seq.done fun ws53 hws => ?_
      have HS53 := hws.list2 (p := bk9) (q := bk10) (by repeat (first | exact rS | refine rN (by assumption) ?_)) (by repeat (first | exact rS | refine rN (by assumption) ?_)) (by assumption)
      clear HS52 hws
      by_cases h1 : p2 < (s1 - m)
      · obtain ⟨va, hva, ra⟩ : ∃ v, cmpQ p2 (s1 - m) = v ∧ decide (v < 0) = true := ⟨_, rfl, decide_eq_true ((cmpQ_lt _ _).2 (by grind))⟩
        have Ca := Lib.hid hva; clear hva
        have HR := Lib.hid (show (17 : Int) = needQ p1 p2 p3 p4 s1 s2 (maxQ sw 0) from by rw [HM.out]; unfold needQ; rw [if_neg]; intro hh; have h1 := of_decide_eq_true hh.1; grind)
        go_upto_region 7 with (fail)
        refine wp_seq [] (by kernel_rfl) (by kernel_rfl) Reg.fin_no (StR.no HS53) ?_
        iterate 3 (refine Seq.pure rfl rfl (by intro w; go_simp; try rfl) ?_; simp only [Act.put, nA, nB, nC])
        refine Seq.loadAt rfl rfl rfl rfl (by repeat (first | exact mC | apply mT)) (n := 3) (cs' := RC p2) (Nat.le_of_ble_eq_true rfl) (by kernel_rfl) rfl ?_
        simp only [Act.put, nA, nB, nC]
        refine Seq.load rfl rfl rfl rfl (by repeat (first | exact mC | apply mT)) (n := 3) rfl (by kernel_rfl) ?_
        simp only [Act.put, nA, nB, nC]
        refine Seq.call rfl rfl rfl rfl (by kernel_rfl) (cmp_q (k := (4 * k + 5)) HT.out (Z_p2.out.more (by omega)) ((Rz.sub Z_s1.out.rz Z_m.out).more (by omega)) Ca.out (by omega)) ?_
        simp only [Act.put, nA, nB, nC]
        iterate 2 (refine Seq.pure rfl rfl (by intro w; go_simp; try rfl) ?_; simp only [Act.put, nA, nB, nC])
        iterate 7 (refine Seq.nw rfl ?_; simp only [Act.put, nA, nB, nC])
        refine Seq.pure rfl rfl (by intro w; go_simp; try rfl) ?_
        simp only [Act.put, nA, nB, nC]
        refine Seq.done fun ws54 hws => ?_
        have HS54 := hws.st
        clear HS53 hws
        go_upto_region 8 with (fail)
        refine wp_seq_text [] (StR.no HS54) ?_
        refine Seq.pure rfl rfl (by intro w; go_simp; try rfl) ?_
        simp only [Act.put, nA, nB, nC]
        refine Seq.done fun ws55 hws => ?_
        have HS55 := hws.st
        clear HS54 hws
        go_wp2_with fail
        go_ret
        exact ⟨congrArg (fun z => Ending.returned (.int .i64 z)) HR.out, HS55.below⟩
      · by_cases h2 : (s1 + m) < p1
        · obtain ⟨va, hva, ra⟩ : ∃ v, cmpQ p2 (s1 - m) = v ∧ decide (v < 0) = false := ⟨_, rfl, decide_eq_false (fun h => absurd ((cmpQ_lt _ _).1 h) (by grind))⟩
          have Ca := Lib.hid hva; clear hva
          obtain ⟨vb, hvb, rb, rb'⟩ : ∃ v, cmpQ p1 (s1 + m) = v ∧ decide (v > 0) = true ∧ decide (0 < v) = true := ⟨_, rfl, decide_eq_true ((cmpQ_gt _ _).2 (by grind)), decide_eq_true ((cmpQ_gt _ _).2 (by grind))⟩
          have Cb := Lib.hid hvb; clear hvb
          have HR := Lib.hid (show (17 : Int) = needQ p1 p2 p3 p4 s1 s2 (maxQ sw 0) from by rw [HM.out]; unfold needQ; rw [if_neg]; intro hh; have h1 := of_decide_eq_true hh.1; grind)
          go_upto_region 7 with (fail)
          refine wp_seq [] (by kernel_rfl) (by kernel_rfl) Reg.fin_no (StR.no HS53) ?_
          iterate 3 (refine Seq.pure rfl rfl (by intro w; go_simp; try rfl) ?_; simp only [Act.put, nA, nB, nC])
          refine Seq.loadAt rfl rfl rfl rfl (by repeat (first | exact mC | apply mT)) (n := 3) (cs' := RC p2) (Nat.le_of_ble_eq_true rfl) (by kernel_rfl) rfl ?_
          simp only [Act.put, nA, nB, nC]
          refine Seq.load rfl rfl rfl rfl (by repeat (first | exact mC | apply mT)) (n := 3) rfl (by kernel_rfl) ?_
          simp only [Act.put, nA, nB, nC]
          refine Seq.call rfl rfl rfl rfl (by kernel_rfl) (cmp_q (k := (4 * k + 5)) HT.out (Z_p2.out.more (by omega)) ((Rz.sub Z_s1.out.rz Z_m.out).more (by omega)) Ca.out (by omega)) ?_
          simp only [Act.put, nA, nB, nC]
          iterate 5 (refine Seq.pure rfl rfl (by intro w; go_simp; try rfl) ?_; simp only [Act.put, nA, nB, nC])
          refine Seq.loadAt rfl rfl rfl rfl (by repeat (first | exact mC | apply mT)) (n := 3) (cs' := RC p1) (Nat.le_of_ble_eq_true rfl) (by kernel_rfl) rfl ?_
          simp only [Act.put, nA, nB, nC]
          refine Seq.load rfl rfl rfl rfl (by repeat (first | exact mC | apply mT)) (n := 3) rfl (by kernel_rfl) ?_
          simp only [Act.put, nA, nB, nC]
          refine Seq.call rfl rfl rfl rfl (by kernel_rfl) (cmp_q (k := (4 * k + 5)) HT.out (Z_p1.out.more (by omega)) ((Rz.add Z_s1.out.rz Z_m.out).more (by omega)) Cb.out (by omega)) ?_
          simp only [Act.put, nA, nB, nC]
          iterate 2 (refine Seq.pure rfl rfl (by intro w; go_simp; try rfl) ?_; simp only [Act.put, nA, nB, nC])
          refine Seq.done fun ws54 hws => ?_
          have HS54 := hws.st
          clear HS53 hws
          go_upto_region 8 with (fail)
          refine wp_seq_text [] (StR.no HS54) ?_
          refine Seq.pure rfl rfl (by intro w; go_simp; try rfl) ?_
          simp only [Act.put, nA, nB, nC]
          refine Seq.done fun ws55 hws => ?_
          have HS55 := hws.st
          clear HS54 hws
          go_wp2_with fail
          go_ret
          exact ⟨congrArg (fun z => Ending.returned (.int .i64 z)) HR.out, HS55.below⟩
        · obtain ⟨va, hva, ra⟩ : ∃ v, cmpQ p2 (s1 - m) = v ∧ decide (v < 0) = false := ⟨_, rfl, decide_eq_false (fun h => absurd ((cmpQ_lt _ _).1 h) (by grind))⟩
          have Ca := Lib.hid hva; clear hva
          obtain ⟨vb, hvb, rb, rb'⟩ : ∃ v, cmpQ p1 (s1 + m) = v ∧ decide (v > 0) = false ∧ decide (0 < v) = false := ⟨_, rfl, decide_eq_false (fun h => absurd ((cmpQ_gt _ _).1 h) (by grind)), decide_eq_false (fun h => absurd ((cmpQ_gt _ _).1 h) (by grind))⟩
          have Cb := Lib.hid hvb; clear hvb
          have HF := Lib.hid (show mtQ p1 p2 (s1 - m) (s1 + m) = true from decide_eq_true ⟨by grind, by grind⟩)
          go_upto_region 7 with (fail)
          refine wp_seq [] (by kernel_rfl) (by kernel_rfl) Reg.fin_no (StR.no HS53) ?_
          iterate 3 (refine Seq.pure rfl rfl (by intro w; go_simp; try rfl) ?_; simp only [Act.put, nA, nB, nC])
          refine Seq.loadAt rfl rfl rfl rfl (by repeat (first | exact mC | apply mT)) (n := 3) (cs' := RC p2) (Nat.le_of_ble_eq_true rfl) (by kernel_rfl) rfl ?_
          simp only [Act.put, nA, nB, nC]
          refine Seq.load rfl rfl rfl rfl (by repeat (first | exact mC | apply mT)) (n := 3) rfl (by kernel_rfl) ?_
          simp only [Act.put, nA, nB, nC]
          refine Seq.call rfl rfl rfl rfl (by kernel_rfl) (cmp_q (k := (4 * k + 5)) HT.out (Z_p2.out.more (by omega)) ((Rz.sub Z_s1.out.rz Z_m.out).more (by omega)) Ca.out (by omega)) ?_
          simp only [Act.put, nA, nB, nC]
          iterate 5 (refine Seq.pure rfl rfl (by intro w; go_simp; try rfl) ?_; simp only [Act.put, nA, nB, nC])
          refine Seq.loadAt rfl rfl rfl rfl (by repeat (first | exact mC | apply mT)) (n := 3) (cs' := RC p1) (Nat.le_of_ble_eq_true rfl) (by kernel_rfl) rfl ?_
          simp only [Act.put, nA, nB, nC]
          refine Seq.load rfl rfl rfl rfl (by repeat (first | exact mC | apply mT)) (n := 3) rfl (by kernel_rfl) ?_
          simp only [Act.put, nA, nB, nC]
          refine Seq.call rfl rfl rfl rfl (by kernel_rfl) (cmp_q (k := (4 * k + 5)) HT.out (Z_p1.out.more (by omega)) ((Rz.add Z_s1.out.rz Z_m.out).more (by omega)) Cb.out (by omega)) ?_
          simp only [Act.put, nA, nB, nC]
          iterate 2 (refine Seq.pure rfl rfl (by intro w; go_simp; try rfl) ?_; simp only [Act.put, nA, nB, nC])
          refine Seq.done fun ws54 hws => ?_
          have HS54 := hws.st
          clear HS53 hws
          by_cases h3 : p1 < (s1 - m)
          · obtain ⟨vc, hvc, rc⟩ : ∃ v, cmpQ p1 (s1 - m) = v ∧ decide (v < 0) = true := ⟨_, rfl, decide_eq_true ((cmpQ_lt _ _).2 (by grind))⟩
            have Cc := Lib.hid hvc; clear hvc
            have HW := Lib.hid (show wiQ p1 p2 (s1 - m) (s1 + m) = false from decide_eq_false (by grind))
            go_upto_region 9 with (fail)
            refine wp_seq [] (by kernel_rfl) (by kernel_rfl) Reg.fin_no (StR.no HS54) ?_
            iterate 3 (refine Seq.pure rfl rfl (by intro w; go_simp; try rfl) ?_; simp only [Act.put, nA, nB, nC])
            refine Seq.loadAt rfl rfl rfl rfl (by repeat (first | exact mC | apply mT)) (n := 3) (cs' := RC p1) (Nat.le_of_ble_eq_true rfl) (by kernel_rfl) rfl ?_
            simp only [Act.put, nA, nB, nC]
            refine Seq.load rfl rfl rfl rfl (by repeat (first | exact mC | apply mT)) (n := 3) rfl (by kernel_rfl) ?_
            simp only [Act.put, nA, nB, nC]
            refine Seq.call rfl rfl rfl rfl (by kernel_rfl) (cmp_q (k := (4 * k + 5)) HT.out (Z_p1.out.more (by omega)) ((Rz.sub Z_s1.out.rz Z_m.out).more (by omega)) Cc.out (by omega)) ?_
            simp only [Act.put, nA, nB, nC]
            iterate 2 (refine Seq.pure rfl rfl (by intro w; go_simp; try rfl) ?_; simp only [Act.put, nA, nB, nC])
            iterate 7 (refine Seq.nw rfl ?_; simp only [Act.put, nA, nB, nC])
            refine Seq.pure rfl rfl (by intro w; go_simp; try rfl) ?_
            simp only [Act.put, nA, nB, nC]
            refine Seq.done fun ws55 hws => ?_
            have HS55 := hws.st
            clear HS54 hws
            go_upto_region 10 with (fail)
            refine wp_seq_text [] (StR.no HS55) ?_
            refine Seq.pure rfl rfl (by intro w; go_simp; try rfl) ?_
            simp only [Act.put, nA, nB, nC]
            refine Seq.done fun ws56 hws => ?_
            have HS56 := hws.st
            clear HS55 hws
            go_upto_region 11 with (fail)
            refine wp_seq_text [] (StR.no HS56) ?_
            refine Seq.pure (v := .int .i64 1) rfl rfl (by intro w; go_simp; try rfl) ?_
            simp only [Act.put, nA, nB, nC]
            refine Seq.pure rfl rfl (by intro w; go_simp; try rfl) ?_
            simp only [Act.put, nA, nB, nC]
            refine Seq.done fun ws57 hws => ?_
            have HS57 := hws.st
            clear HS56 hws
            go_wp2_with fail
            go_roundg 1
            case measure => rw [hgk]; decide
            case rel => exact .inr (.inl ⟨18, rfl, rfl, rfl, Lib.hid ⟨HF.out, by rw [if_neg (by rw [HW.out]; decide)]⟩, Lib.hid HS57.drop.drop.drop⟩)
          · by_cases h4 : (s1 + m) < p2
            · obtain ⟨vc, hvc, rc⟩ : ∃ v, cmpQ p1 (s1 - m) = v ∧ decide (v < 0) = false := ⟨_, rfl, decide_eq_false (fun h => absurd ((cmpQ_lt _ _).1 h) (by grind))⟩
              have Cc := Lib.hid hvc; clear hvc
              obtain ⟨vd, hvd, rd, rd'⟩ : ∃ v, cmpQ p2 (s1 + m) = v ∧ decide (v > 0) = true ∧ decide (0 < v) = true := ⟨_, rfl, decide_eq_true ((cmpQ_gt _ _).2 (by grind)), decide_eq_true ((cmpQ_gt _ _).2 (by grind))⟩
              have Cd := Lib.hid hvd; clear hvd
              have HW := Lib.hid (show wiQ p1 p2 (s1 - m) (s1 + m) = false from decide_eq_false (by grind))
              go_upto_region 9 with (fail)
              refine wp_seq [] (by kernel_rfl) (by kernel_rfl) Reg.fin_no (StR.no HS54) ?_
              iterate 3 (refine Seq.pure rfl rfl (by intro w; go_simp; try rfl) ?_; simp only [Act.put, nA, nB, nC])
              refine Seq.loadAt rfl rfl rfl rfl (by repeat (first | exact mC | apply mT)) (n := 3) (cs' := RC p1) (Nat.le_of_ble_eq_true rfl) (by kernel_rfl) rfl ?_
              simp only [Act.put, nA, nB, nC]
              refine Seq.load rfl rfl rfl rfl (by repeat (first | exact mC | apply mT)) (n := 3) rfl (by kernel_rfl) ?_
              simp only [Act.put, nA, nB, nC]
              refine Seq.call rfl rfl rfl rfl (by kernel_rfl) (cmp_q (k := (4 * k + 5)) HT.out (Z_p1.out.more (by omega)) ((Rz.sub Z_s1.out.rz Z_m.out).more (by omega)) Cc.out (by omega)) ?_
              simp only [Act.put, nA, nB, nC]
              iterate 5 (refine Seq.pure rfl rfl (by intro w; go_simp; try rfl) ?_; simp only [Act.put, nA, nB, nC])
              refine Seq.loadAt rfl rfl rfl rfl (by repeat (first | exact mC | apply mT)) (n := 3) (cs' := RC p2) (Nat.le_of_ble_eq_true rfl) (by kernel_rfl) rfl ?_
              simp only [Act.put, nA, nB, nC]
              refine Seq.load rfl rfl rfl rfl (by repeat (first | exact mC | apply mT)) (n := 3) rfl (by kernel_rfl) ?_
              simp only [Act.put, nA, nB, nC]
              refine Seq.call rfl rfl rfl rfl (by kernel_rfl) (cmp_q (k := (4 * k + 5)) HT.out (Z_p2.out.more (by omega)) ((Rz.add Z_s1.out.rz Z_m.out).more (by omega)) Cd.out (by omega)) ?_
              simp only [Act.put, nA, nB, nC]
              iterate 2 (refine Seq.pure rfl rfl (by intro w; go_simp; try rfl) ?_; simp only [Act.put, nA, nB, nC])
              refine Seq.done fun ws55 hws => ?_
              have HS55 := hws.st
              clear HS54 hws
              go_upto_region 10 with (fail)
              refine wp_seq_text [] (StR.no HS55) ?_
              refine Seq.pure rfl rfl (by intro w; go_simp; try rfl) ?_
              simp only [Act.put, nA, nB, nC]
              refine Seq.done fun ws56 hws => ?_
              have HS56 := hws.st
              clear HS55 hws
              go_upto_region 11 with (fail)
              refine wp_seq_text [] (StR.no HS56) ?_
              refine Seq.pure (v := .int .i64 1) rfl rfl (by intro w; go_simp; try rfl) ?_
              simp only [Act.put, nA, nB, nC]
              refine Seq.pure rfl rfl (by intro w; go_simp; try rfl) ?_
              simp only [Act.put, nA, nB, nC]
              refine Seq.done fun ws57 hws => ?_
              have HS57 := hws.st
              clear HS56 hws
              go_wp2_with fail
              go_roundg 1
              case measure => rw [hgk]; decide
              case rel => exact .inr (.inl ⟨18, rfl, rfl, rfl, Lib.hid ⟨HF.out, by rw [if_neg (by rw [HW.out]; decide)]⟩, Lib.hid HS57.drop.drop.drop⟩)
            · obtain ⟨vc, hvc, rc⟩ : ∃ v, cmpQ p1 (s1 - m) = v ∧ decide (v < 0) = false := ⟨_, rfl, decide_eq_false (fun h => absurd ((cmpQ_lt _ _).1 h) (by grind))⟩
              have Cc := Lib.hid hvc; clear hvc
              obtain ⟨vd, hvd, rd, rd'⟩ : ∃ v, cmpQ p2 (s1 + m) = v ∧ decide (v > 0) = false ∧ decide (0 < v) = false := ⟨_, rfl, decide_eq_false (fun h => absurd ((cmpQ_gt _ _).1 h) (by grind)), decide_eq_false (fun h => absurd ((cmpQ_gt _ _).1 h) (by grind))⟩
              have Cd := Lib.hid hvd; clear hvd
              have HW := Lib.hid (show wiQ p1 p2 (s1 - m) (s1 + m) = true from decide_eq_true (by grind))
              go_upto_region 9 with (fail)
              refine wp_seq [] (by kernel_rfl) (by kernel_rfl) Reg.fin_no (StR.no HS54) ?_
              iterate 3 (refine Seq.pure rfl rfl (by intro w; go_simp; try rfl) ?_; simp only [Act.put, nA, nB, nC])
              refine Seq.loadAt rfl rfl rfl rfl (by repeat (first | exact mC | apply mT)) (n := 3) (cs' := RC p1) (Nat.le_of_ble_eq_true rfl) (by kernel_rfl) rfl ?_
              simp only [Act.put, nA, nB, nC]
              refine Seq.load rfl rfl rfl rfl (by repeat (first | exact mC | apply mT)) (n := 3) rfl (by kernel_rfl) ?_
              simp only [Act.put, nA, nB, nC]
              refine Seq.call rfl rfl rfl rfl (by kernel_rfl) (cmp_q (k := (4 * k + 5)) HT.out (Z_p1.out.more (by omega)) ((Rz.sub Z_s1.out.rz Z_m.out).more (by omega)) Cc.out (by omega)) ?_
              simp only [Act.put, nA, nB, nC]
              iterate 5 (refine Seq.pure rfl rfl (by intro w; go_simp; try rfl) ?_; simp only [Act.put, nA, nB, nC])
              refine Seq.loadAt rfl rfl rfl rfl (by repeat (first | exact mC | apply mT)) (n := 3) (cs' := RC p2) (Nat.le_of_ble_eq_true rfl) (by kernel_rfl) rfl ?_
              simp only [Act.put, nA, nB, nC]
              refine Seq.load rfl rfl rfl rfl (by repeat (first | exact mC | apply mT)) (n := 3) rfl (by kernel_rfl) ?_
              simp only [Act.put, nA, nB, nC]
              refine Seq.call rfl rfl rfl rfl (by kernel_rfl) (cmp_q (k := (4 * k + 5)) HT.out (Z_p2.out.more (by omega)) ((Rz.add Z_s1.out.rz Z_m.out).more (by omega)) Cd.out (by omega)) ?_
              simp only [Act.put, nA, nB, nC]
              iterate 2 (refine Seq.pure rfl rfl (by intro w; go_simp; try rfl) ?_; simp only [Act.put, nA, nB, nC])
              refine Seq.done fun ws55 hws => ?_
              have HS55 := hws.st
              clear HS54 hws
              go_upto_region 11 with (fail)
              refine wp_seq_text [] (StR.no HS55) ?_
              refine Seq.pure (v := .int .i64 1) rfl rfl (by intro w; go_simp; try rfl) ?_
              simp only [Act.put, nA, nB, nC]
              refine Seq.pure rfl rfl (by intro w; go_simp; try rfl) ?_
              simp only [Act.put, nA, nB, nC]
              refine Seq.done fun ws56 hws => ?_
              have HS56 := hws.st
              clear HS55 hws
              go_wp2_with fail
              go_roundg 1
              case measure => rw [hgk]; decide
              case rel => exact .inr (.inl ⟨0, rfl, rfl, rfl, Lib.hid ⟨HF.out, by rw [if_pos HW.out]⟩, Lib.hid HS56.drop.drop.drop⟩)
    · have HS0 := hS.out
      clear hS
      go_upto_region 4 with (fail)
      refine wp_seq_text [] (StR.no HS0) ?_
      refine Seq.pure rfl rfl (by intro w; go_simp; try rfl) ?_
      simp only [Act.put, nA, nB, nC]
      refine Seq.done fun ws101 hws => ?_
      have HS101 := hws.st
      clear HS0 hws
      go_upto_region 5 with (fail)
      refine wp_seq_text [] (StR.no HS101) ?_
      iterate 2 (refine Seq.pure rfl rfl (by intro w; go_simp; try rfl) ?_; simp only [Act.put, nA, nB, nC])
      refine Seq.loadAt rfl rfl rfl rfl (by repeat (first | exact mC | apply mT)) (n := 3) (cs' := RT.c s2_t) (Nat.le_of_ble_eq_true rfl) (by kernel_rfl) rfl ?_
      simp only [Act.put, nA, nB, nC]
      refine Seq.alloc rfl rfl rfl (z := .agg (RT.c rz0)) (by kernel_rfl) rfl ?_
      intro bk8 _ _ hbk8_r
      simp only [Act.put, nA, nB, nC]
      refine Seq.pure rfl rfl (by intro w; go_simp; try rfl) ?_
      simp only [Act.put, nA, nB, nC]
      refine Seq.store rfl rfl rfl rfl rfl (by repeat (first | exact rS | refine rN (by assumption) ?_)) (n := 3) rfl rfl (by kernel_rfl) (RT_one _) ?_
      simp only [Act.put, nA, nB, nC]
      refine Seq.done fun ws102 hws => ?_
      have HS102 := hws.list1 (p := bk8) (by repeat (first | exact rS | refine rN (by assumption) ?_))
      clear HS101 hws
      go_upto_region 6 with (fail)
      refine wp_seq [] (by kernel_rfl) (by kernel_rfl) Reg.fin_no (StR.no HS102) ?_
      refine Seq.load rfl rfl rfl rfl (by repeat (first | exact mC | apply mT)) (n := 3) rfl (by kernel_rfl) ?_
      simp only [Act.put, nA, nB, nC]
      refine Seq.load rfl rfl rfl rfl (by repeat (first | exact mC | apply mT)) (n := 3) rfl (by kernel_rfl) ?_
      simp only [Act.put, nA, nB, nC]
      refine Seq.call rfl rfl rfl rfl (by kernel_rfl) (sub_wq (k := (1 * k + 2)) HT.out (Z_s2.out.more (by omega)) (Z_m.out.more (by omega)) rfl (by omega)) ?_
      simp only [Act.put, nA, nB, nC]
      refine Seq.load rfl rfl rfl rfl (by repeat (first | exact mC | apply mT)) (n := 3) rfl (by kernel_rfl) ?_
      simp only [Act.put, nA, nB, nC]
      refine Seq.load rfl rfl rfl rfl (by repeat (first | exact mC | apply mT)) (n := 3) rfl (by kernel_rfl) ?_
      simp only [Act.put, nA, nB, nC]
      refine Seq.call rfl rfl rfl rfl (by kernel_rfl) (add_wq (k := (1 * k + 2)) HT.out (Z_s2.out.more (by omega)) (Z_m.out.more (by omega)) rfl (by omega)) ?_
      simp only [Act.put, nA, nB, nC]
      refine Seq.alloc rfl rfl rfl (z := .agg (RT.c rz0)) (by kernel_rfl) rfl ?_
      intro bk9 _ _ hbk9_r
      simp only [Act.put, nA, nB, nC]
      refine Seq.alloc rfl rfl rfl (z := .agg (RT.c rz0)) (by kernel_rfl) rfl ?_
      intro bk10 _ _ hbk10_r
      obtain ⟨ne_bk10_bk9, hbk10_r⟩ := Reg.ne_of_put hbk10_r
      have ne_bk9_bk10 := Ne.symm ne_bk10_bk9
      simp only [Act.put, nA, nB, nC]
      refine Seq.store rfl rfl rfl rfl rfl (by repeat (first | exact rS | refine rN (by assumption) ?_)) (n := 3) rfl rfl (by kernel_rfl) (RC_one _) ?_
      simp only [Act.put, nA, nB, nC]
      refine Seq.store rfl rfl rfl rfl rfl (by repeat (first | exact rS | refine rN (by assumption) ?_)) (n := 3) rfl rfl (by kernel_rfl) (RC_one _) ?_
      simp only [Act.put, nA, nB, nC]
      refine Seq.done fun ws103 hws => ?_
      have HS103 := hws.list2 (p := bk9) (q := bk10) (by repeat (first | exact rS | refine rN (by assumption) ?_)) (by repeat (first | exact rS | refine rN (by assumption) ?_)) (by assumption)
      clear HS102 hws
      by_cases h1 : p4 < (s2 - m)
      · obtain ⟨va, hva, ra⟩ : ∃ v, cmpQ p4 (s2 - m) = v ∧ decide (v < 0) = true := ⟨_, rfl, decide_eq_true ((cmpQ_lt _ _).2 (by grind))⟩
        have Ca := Lib.hid hva; clear hva
        have HR := Lib.hid (show (17 : Int) = needQ p1 p2 p3 p4 s1 s2 (maxQ sw 0) from by rw [HM.out]; unfold needQ; rw [if_neg]; intro hh; have h1 := of_decide_eq_true hh.2; grind)
        go_upto_region 7 with (fail)
        refine wp_seq [] (by kernel_rfl) (by kernel_rfl) Reg.fin_no (StR.no HS103) ?_
        iterate 3 (refine Seq.pure rfl rfl (by intro w; go_simp; try rfl) ?_; simp only [Act.put, nA, nB, nC])
        refine Seq.loadAt rfl rfl rfl rfl (by repeat (first | exact mC | apply mT)) (n := 3) (cs' := RC p4) (Nat.le_of_ble_eq_true rfl) (by kernel_rfl) rfl ?_
        simp only [Act.put, nA, nB, nC]
        refine Seq.load rfl rfl rfl rfl (by repeat (first | exact mC | apply mT)) (n := 3) rfl (by kernel_rfl) ?_
        simp only [Act.put, nA, nB, nC]
        refine Seq.call rfl rfl rfl rfl (by kernel_rfl) (cmp_q (k := (4 * k + 5)) HT.out (Z_p4.out.more (by omega)) ((Rz.sub Z_s2.out.rz Z_m.out).more (by omega)) Ca.out (by omega)) ?_
        simp only [Act.put, nA, nB, nC]
        iterate 2 (refine Seq.pure rfl rfl (by intro w; go_simp; try rfl) ?_; simp only [Act.put, nA, nB, nC])
        iterate 7 (refine Seq.nw rfl ?_; simp only [Act.put, nA, nB, nC])
        refine Seq.pure rfl rfl (by intro w; go_simp; try rfl) ?_
        simp only [Act.put, nA, nB, nC]
        refine Seq.done fun ws104 hws => ?_
        have HS104 := hws.st
        clear HS103 hws
        go_upto_region 8 with (fail)
        refine wp_seq_text [] (StR.no HS104) ?_
        refine Seq.pure rfl rfl (by intro w; go_simp; try rfl) ?_
        simp only [Act.put, nA, nB, nC]
        refine Seq.done fun ws105 hws => ?_
        have HS105 := hws.st
        clear HS104 hws
        go_wp2_with fail
        go_ret
        exact ⟨congrArg (fun z => Ending.returned (.int .i64 z)) HR.out, HS105.below⟩
      · by_cases h2 : (s2 + m) < p3
        · obtain ⟨va, hva, ra⟩ : ∃ v, cmpQ p4 (s2 - m) = v ∧ decide (v < 0) = false := ⟨_, rfl, decide_eq_false (fun h => absurd ((cmpQ_lt _ _).1 h) (by grind))⟩
          have Ca := Lib.hid hva; clear hva
          obtain ⟨vb, hvb, rb, rb'⟩ : ∃ v, cmpQ p3 (s2 + m) = v ∧ decide (v > 0) = true ∧ decide (0 < v) = true := ⟨_, rfl, decide_eq_true ((cmpQ_gt _ _).2 (by grind)), decide_eq_true ((cmpQ_gt _ _).2 (by grind))⟩
          have Cb := Lib.hid hvb; clear hvb
          have HR := Lib.hid (show (17 : Int) = needQ p1 p2 p3 p4 s1 s2 (maxQ sw 0) from by rw [HM.out]; unfold needQ; rw [if_neg]; intro hh; have h1 := of_decide_eq_true hh.2; grind)
          go_upto_region 7 with (fail)
          refine wp_seq [] (by kernel_rfl) (by kernel_rfl) Reg.fin_no (StR.no HS103) ?_
          iterate 3 (refine Seq.pure rfl rfl (by intro w; go_simp; try rfl) ?_; simp only [Act.put, nA, nB, nC])
          refine Seq.loadAt rfl rfl rfl rfl (by repeat (first | exact mC | apply mT)) (n := 3) (cs' := RC p4) (Nat.le_of_ble_eq_true rfl) (by kernel_rfl) rfl ?_
          simp only [Act.put, nA, nB, nC]
          refine Seq.load rfl rfl rfl rfl (by repeat (first | exact mC | apply mT)) (n := 3) rfl (by kernel_rfl) ?_
          simp only [Act.put, nA, nB, nC]
          refine Seq.call rfl rfl rfl rfl (by kernel_rfl) (cmp_q (k := (4 * k + 5)) HT.out (Z_p4.out.more (by omega)) ((Rz.sub Z_s2.out.rz Z_m.out).more (by omega)) Ca.out (by omega)) ?_
          simp only [Act.put, nA, nB, nC]
          iterate 5 (refine Seq.pure rfl rfl (by intro w; go_simp; try rfl) ?_; simp only [Act.put, nA, nB, nC])
          refine Seq.loadAt rfl rfl rfl rfl (by repeat (first | exact mC | apply mT)) (n := 3) (cs' := RC p3) (Nat.le_of_ble_eq_true rfl) (by kernel_rfl) rfl ?_
          simp only [Act.put, nA, nB, nC]
          refine Seq.load rfl rfl rfl rfl (by repeat (first | exact mC | apply mT)) (n := 3) rfl (by kernel_rfl) ?_
          simp only [Act.put, nA, nB, nC]
          refine Seq.call rfl rfl rfl rfl (by kernel_rfl) (cmp_q (k := (4 * k + 5)) HT.out (Z_p3.out.more (by omega)) ((Rz.add Z_s2.out.rz Z_m.out).more (by omega)) Cb.out (by omega)) ?_
          simp only [Act.put, nA, nB, nC]
          iterate 2 (refine Seq.pure rfl rfl (by intro w; go_simp; try rfl) ?_; simp only [Act.put, nA, nB, nC])
          refine Seq.done fun ws104 hws => ?_
          have HS104 := hws.st
          clear HS103 hws
          go_upto_region 8 with (fail)
          refine wp_seq_text [] (StR.no HS104) ?_
          refine Seq.pure rfl rfl (by intro w; go_simp; try rfl) ?_
          simp only [Act.put, nA, nB, nC]
          refine Seq.done fun ws105 hws => ?_
          have HS105 := hws.st
          clear HS104 hws
          go_wp2_with fail
          go_ret
          exact ⟨congrArg (fun z => Ending.returned (.int .i64 z)) HR.out, HS105.below⟩
        · obtain ⟨va, hva, ra⟩ : ∃ v, cmpQ p4 (s2 - m) = v ∧ decide (v < 0) = false := ⟨_, rfl, decide_eq_false (fun h => absurd ((cmpQ_lt _ _).1 h) (by grind))⟩
          have Ca := Lib.hid hva; clear hva
          obtain ⟨vb, hvb, rb, rb'⟩ : ∃ v, cmpQ p3 (s2 + m) = v ∧ decide (v > 0) = false ∧ decide (0 < v) = false := ⟨_, rfl, decide_eq_false (fun h => absurd ((cmpQ_gt _ _).1 h) (by grind)), decide_eq_false (fun h => absurd ((cmpQ_gt _ _).1 h) (by grind))⟩
          have Cb := Lib.hid hvb; clear hvb
          have HF := Lib.hid (show mtQ p3 p4 (s2 - m) (s2 + m) = true from decide_eq_true ⟨by grind, by grind⟩)
          go_upto_region 7 with (fail)
          refine wp_seq [] (by kernel_rfl) (by kernel_rfl) Reg.fin_no (StR.no HS103) ?_
          iterate 3 (refine Seq.pure rfl rfl (by intro w; go_simp; try rfl) ?_; simp only [Act.put, nA, nB, nC])
          refine Seq.loadAt rfl rfl rfl rfl (by repeat (first | exact mC | apply mT)) (n := 3) (cs' := RC p4) (Nat.le_of_ble_eq_true rfl) (by kernel_rfl) rfl ?_
          simp only [Act.put, nA, nB, nC]
          refine Seq.load rfl rfl rfl rfl (by repeat (first | exact mC | apply mT)) (n := 3) rfl (by kernel_rfl) ?_
          simp only [Act.put, nA, nB, nC]
          refine Seq.call rfl rfl rfl rfl (by kernel_rfl) (cmp_q (k := (4 * k + 5)) HT.out (Z_p4.out.more (by omega)) ((Rz.sub Z_s2.out.rz Z_m.out).more (by omega)) Ca.out (by omega)) ?_
          simp only [Act.put, nA, nB, nC]
          iterate 5 (refine Seq.pure rfl rfl (by intro w; go_simp; try rfl) ?_; simp only [Act.put, nA, nB, nC])
          refine Seq.loadAt rfl rfl rfl rfl (by repeat (first | exact mC | apply mT)) (n := 3) (cs' := RC p3) (Nat.le_of_ble_eq_true rfl) (by kernel_rfl) rfl ?_
          simp only [Act.put, nA, nB, nC]
          refine Seq.load rfl rfl rfl rfl (by repeat (first | exact mC | apply mT)) (n := 3) rfl (by kernel_rfl) ?_
          simp only [Act.put, nA, nB, nC]
          refine Seq.call rfl rfl rfl rfl (by kernel_rfl) (cmp_q (k := (4 * k + 5)) HT.out (Z_p3.out.more (by omega)) ((Rz.add Z_s2.out.rz Z_m.out).more (by omega)) Cb.out (by omega)) ?_
          simp only [Act.put, nA, nB, nC]
          iterate 2 (refine Seq.pure rfl rfl (by intro w; go_simp; try rfl) ?_; simp only [Act.put, nA, nB, nC])
          refine Seq.done fun ws104 hws => ?_
          have HS104 := hws.st
          clear HS103 hws
          by_cases h3 : p3 < (s2 - m)
          · obtain ⟨vc, hvc, rc⟩ : ∃ v, cmpQ p3 (s2 - m) = v ∧ decide (v < 0) = true := ⟨_, rfl, decide_eq_true ((cmpQ_lt _ _).2 (by grind))⟩
            have Cc := Lib.hid hvc; clear hvc
            have HW := Lib.hid (show wiQ p3 p4 (s2 - m) (s2 + m) = false from decide_eq_false (by grind))
            go_upto_region 9 with (fail)
            refine wp_seq [] (by kernel_rfl) (by kernel_rfl) Reg.fin_no (StR.no HS104) ?_
            iterate 3 (refine Seq.pure rfl rfl (by intro w; go_simp; try rfl) ?_; simp only [Act.put, nA, nB, nC])
            refine Seq.loadAt rfl rfl rfl rfl (by repeat (first | exact mC | apply mT)) (n := 3) (cs' := RC p3) (Nat.le_of_ble_eq_true rfl) (by kernel_rfl) rfl ?_
            simp only [Act.put, nA, nB, nC]
            refine Seq.load rfl rfl rfl rfl (by repeat (first | exact mC | apply mT)) (n := 3) rfl (by kernel_rfl) ?_
            simp only [Act.put, nA, nB, nC]
            refine Seq.call rfl rfl rfl rfl (by kernel_rfl) (cmp_q (k := (4 * k + 5)) HT.out (Z_p3.out.more (by omega)) ((Rz.sub Z_s2.out.rz Z_m.out).more (by omega)) Cc.out (by omega)) ?_
            simp only [Act.put, nA, nB, nC]
            iterate 2 (refine Seq.pure rfl rfl (by intro w; go_simp; try rfl) ?_; simp only [Act.put, nA, nB, nC])
            iterate 7 (refine Seq.nw rfl ?_; simp only [Act.put, nA, nB, nC])
            refine Seq.pure rfl rfl (by intro w; go_simp; try rfl) ?_
            simp only [Act.put, nA, nB, nC]
            refine Seq.done fun ws105 hws => ?_
            have HS105 := hws.st
            clear HS104 hws
            go_upto_region 10 with (fail)
            refine wp_seq_text [] (StR.no HS105) ?_
            refine Seq.pure rfl rfl (by intro w; go_simp; try rfl) ?_
            simp only [Act.put, nA, nB, nC]
            refine Seq.done fun ws106 hws => ?_
            have HS106 := hws.st
            clear HS105 hws
            go_upto_region 11 with (fail)
            refine wp_seq_text [] (StR.no HS106) ?_
            refine Seq.pure (v := .int .i64 2) rfl rfl (by intro w; go_simp; try rfl) ?_
            simp only [Act.put, nA, nB, nC]
            refine Seq.pure rfl rfl (by intro w; go_simp; try rfl) ?_
            simp only [Act.put, nA, nB, nC]
            refine Seq.done fun ws107 hws => ?_
            have HS107 := hws.st
            clear HS106 hws
            go_wp2_with fail
            go_roundg 0
            case measure => rw [hgk]; decide
            case rel => exact .inr (.inr ⟨18, rfl, rfl, rfl, Lib.hid ⟨hO.out.1, HF.out, by rw [if_neg (fun hh => by rw [HW.out] at hh; exact absurd hh.2 (by decide))]⟩, Lib.hid HS107.drop.drop.drop⟩)
          · by_cases h4 : (s2 + m) < p4
            · obtain ⟨vc, hvc, rc⟩ : ∃ v, cmpQ p3 (s2 - m) = v ∧ decide (v < 0) = false := ⟨_, rfl, decide_eq_false (fun h => absurd ((cmpQ_lt _ _).1 h) (by grind))⟩
              have Cc := Lib.hid hvc; clear hvc
              obtain ⟨vd, hvd, rd, rd'⟩ : ∃ v, cmpQ p4 (s2 + m) = v ∧ decide (v > 0) = true ∧ decide (0 < v) = true := ⟨_, rfl, decide_eq_true ((cmpQ_gt _ _).2 (by grind)), decide_eq_true ((cmpQ_gt _ _).2 (by grind))⟩
              have Cd := Lib.hid hvd; clear hvd
              have HW := Lib.hid (show wiQ p3 p4 (s2 - m) (s2 + m) = false from decide_eq_false (by grind))
              go_upto_region 9 with (fail)
              refine wp_seq [] (by kernel_rfl) (by kernel_rfl) Reg.fin_no (StR.no HS104) ?_
              iterate 3 (refine Seq.pure rfl rfl (by intro w; go_simp; try rfl) ?_; simp only [Act.put, nA, nB, nC])
              refine Seq.loadAt rfl rfl rfl rfl (by repeat (first | exact mC | apply mT)) (n := 3) (cs' := RC p3) (Nat.le_of_ble_eq_true rfl) (by kernel_rfl) rfl ?_
              simp only [Act.put, nA, nB, nC]
              refine Seq.load rfl rfl rfl rfl (by repeat (first | exact mC | apply mT)) (n := 3) rfl (by kernel_rfl) ?_
              simp only [Act.put, nA, nB, nC]
              refine Seq.call rfl rfl rfl rfl (by kernel_rfl) (cmp_q (k := (4 * k + 5)) HT.out (Z_p3.out.more (by omega)) ((Rz.sub Z_s2.out.rz Z_m.out).more (by omega)) Cc.out (by omega)) ?_
              simp only [Act.put, nA, nB, nC]
              iterate 5 (refine Seq.pure rfl rfl (by intro w; go_simp; try rfl) ?_; simp only [Act.put, nA, nB, nC])
              refine Seq.loadAt rfl rfl rfl rfl (by repeat (first | exact mC | apply mT)) (n := 3) (cs' := RC p4) (Nat.le_of_ble_eq_true rfl) (by kernel_rfl) rfl ?_
              simp only [Act.put, nA, nB, nC]
              refine Seq.load rfl rfl rfl rfl (by repeat (first | exact mC | apply mT)) (n := 3) rfl (by kernel_rfl) ?_
              simp only [Act.put, nA, nB, nC]
              refine Seq.call rfl rfl rfl rfl (by kernel_rfl) (cmp_q (k := (4 * k + 5)) HT.out (Z_p4.out.more (by omega)) ((Rz.add Z_s2.out.rz Z_m.out).more (by omega)) Cd.out (by omega)) ?_
              simp only [Act.put, nA, nB, nC]
              iterate 2 (refine Seq.pure rfl rfl (by intro w; go_simp; try rfl) ?_; simp only [Act.put, nA, nB, nC])
              refine Seq.done fun ws105 hws => ?_
              have HS105 := hws.st
              clear HS104 hws
              go_upto_region 10 with (fail)
              refine wp_seq_text [] (StR.no HS105) ?_
              refine Seq.pure rfl rfl (by intro w; go_simp; try rfl) ?_
              simp only [Act.put, nA, nB, nC]
              refine Seq.done fun ws106 hws => ?_
              have HS106 := hws.st
              clear HS105 hws
              go_upto_region 11 with (fail)
              refine wp_seq_text [] (StR.no HS106) ?_
              refine Seq.pure (v := .int .i64 2) rfl rfl (by intro w; go_simp; try rfl) ?_
              simp only [Act.put, nA, nB, nC]
              refine Seq.pure rfl rfl (by intro w; go_simp; try rfl) ?_
              simp only [Act.put, nA, nB, nC]
              refine Seq.done fun ws107 hws => ?_
              have HS107 := hws.st
              clear HS106 hws
              go_wp2_with fail
              go_roundg 0
              case measure => rw [hgk]; decide
              case rel => exact .inr (.inr ⟨18, rfl, rfl, rfl, Lib.hid ⟨hO.out.1, HF.out, by rw [if_neg (fun hh => by rw [HW.out] at hh; exact absurd hh.2 (by decide))]⟩, Lib.hid HS107.drop.drop.drop⟩)
            · obtain ⟨vc, hvc, rc⟩ : ∃ v, cmpQ p3 (s2 - m) = v ∧ decide (v < 0) = false := ⟨_, rfl, decide_eq_false (fun h => absurd ((cmpQ_lt _ _).1 h) (by grind))⟩
              have Cc := Lib.hid hvc; clear hvc
              obtain ⟨vd, hvd, rd, rd'⟩ : ∃ v, cmpQ p4 (s2 + m) = v ∧ decide (v > 0) = false ∧ decide (0 < v) = false := ⟨_, rfl, decide_eq_false (fun h => absurd ((cmpQ_gt _ _).1 h) (by grind)), decide_eq_false (fun h => absurd ((cmpQ_gt _ _).1 h) (by grind))⟩
              have Cd := Lib.hid hvd; clear hvd
              have HW := Lib.hid (show wiQ p3 p4 (s2 - m) (s2 + m) = true from decide_eq_true (by grind))
              go_upto_region 9 with (fail)
              refine wp_seq [] (by kernel_rfl) (by kernel_rfl) Reg.fin_no (StR.no HS104) ?_
              iterate 3 (refine Seq.pure rfl rfl (by intro w; go_simp; try rfl) ?_; simp only [Act.put, nA, nB, nC])
              refine Seq.loadAt rfl rfl rfl rfl (by repeat (first | exact mC | apply mT)) (n := 3) (cs' := RC p3) (Nat.le_of_ble_eq_true rfl) (by kernel_rfl) rfl ?_
              simp only [Act.put, nA, nB, nC]
              refine Seq.load rfl rfl rfl rfl (by repeat (first | exact mC | apply mT)) (n := 3) rfl (by kernel_rfl) ?_
              simp only [Act.put, nA, nB, nC]
              refine Seq.call rfl rfl rfl rfl (by kernel_rfl) (cmp_q (k := (4 * k + 5)) HT.out (Z_p3.out.more (by omega)) ((Rz.sub Z_s2.out.rz Z_m.out).more (by omega)) Cc.out (by omega)) ?_
              simp only [Act.put, nA, nB, nC]
              iterate 5 (refine Seq.pure rfl rfl (by intro w; go_simp; try rfl) ?_; simp only [Act.put, nA, nB, nC])
              refine Seq.loadAt rfl rfl rfl rfl (by repeat (first | exact mC | apply mT)) (n := 3) (cs' := RC p4) (Nat.le_of_ble_eq_true rfl) (by kernel_rfl) rfl ?_
              simp only [Act.put, nA, nB, nC]
              refine Seq.load rfl rfl rfl rfl (by repeat (first | exact mC | apply mT)) (n := 3) rfl (by kernel_rfl) ?_
              simp only [Act.put, nA, nB, nC]
              refine Seq.call rfl rfl rfl rfl (by kernel_rfl) (cmp_q (k := (4 * k + 5)) HT.out (Z_p4.out.more (by omega)) ((Rz.add Z_s2.out.rz Z_m.out).more (by omega)) Cd.out (by omega)) ?_
              simp only [Act.put, nA, nB, nC]
              iterate 2 (refine Seq.pure rfl rfl (by intro w; go_simp; try rfl) ?_; simp only [Act.put, nA, nB, nC])
              refine Seq.done fun ws105 hws => ?_
              have HS105 := hws.st
              clear HS104 hws
              go_upto_region 11 with (fail)
              refine wp_seq_text [] (StR.no HS105) ?_
              refine Seq.pure (v := .int .i64 2) rfl rfl (by intro w; go_simp; try rfl) ?_
              simp only [Act.put, nA, nB, nC]
              refine Seq.pure rfl rfl (by intro w; go_simp; try rfl) ?_
              simp only [Act.put, nA, nB, nC]
              refine Seq.done fun ws106 hws => ?_
              have HS106 := hws.st
              clear HS105 hws
              go_wp2_with fail
              go_roundg 0
              case measure => rw [hgk]; decide
              case rel => exact .inr (.inr ⟨o, rfl, rfl, rfl, Lib.hid ⟨hO.out.1, HF.out, by rw [hO.out.2]; by_cases hh : wiQ p1 p2 (s1 - m) (s1 + m) = true <;> simp [hh, HW.out]⟩, Lib.hid HS106.drop.drop.drop⟩)
    · have HS0 := hS.out
      clear hS
      have HR := Lib.hid (show o = needQ p1 p2 p3 p4 s1 s2 (maxQ sw 0) from by rw [HM.out]; unfold needQ; rw [if_pos ⟨hO.out.1, hO.out.2.1⟩]; exact hO.out.2.2)
      go_upto_region 4 with (fail)
      refine wp_seq_text [] (StR.no HS0) ?_
      refine Seq.pure rfl rfl (by intro w; go_simp; try rfl) ?_
      simp only [Act.put, nA, nB, nC]
      refine Seq.done fun ws201 hws => ?_
      have HS201 := hws.st
      clear HS0 hws
      go_upto_region 12 with (fail)
      refine wp_seq_text [] (StR.no HS201) ?_
      iterate 2 (refine Seq.pure rfl rfl (by intro w; go_simp; try rfl) ?_; simp only [Act.put, nA, nB, nC])
      refine Seq.done fun ws202 hws => ?_
      have HS202 := hws.st
      clear HS201 hws
      go_wp2_with fail
      go_ret
      exact ⟨congrArg (fun z => Ending.returned (.int .i64 z)) HR.out, HS202.below⟩
end Go.Proofs.YtoejojfjiikogaaDoor
