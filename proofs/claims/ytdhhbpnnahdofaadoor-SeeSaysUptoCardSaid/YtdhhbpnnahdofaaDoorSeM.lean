/- MeetOf. -/
import Derived.Test.YtdhhbpnnahdofaaDoorSe4
import Derived.LoopN

namespace Go.Proofs.YtdhhbpnnahdofaaDoor
open Go.RowKit
set_option linter.unusedVariables false
set_option linter.unusedSimpArgs false

set_option maxHeartbeats 8000000 in
set_option maxRecDepth 20000 in
theorem meetOf_any {k : Nat} {p1 p2 p3 p4 p5 p6 q1 q2 q3 q4 q5 q6 : Rat} {W : World} {l : List Own} (hT : Tab W) (Zp1 : Rz k p1) (Zp2 : Rz k p2) (Zp3 : Rz k p3) (Zp4 : Rz k p4) (Zp5 : Rz k p5) (Zp6 : Rz k p6) (Zq1 : Rz k q1) (Zq2 : Rz k q2) (Zq3 : Rz k q3) (Zq4 : Rz k q4) (Zq5 : Rz k q5) (Zq6 : Rz k q6) (hk : k ≤ 1000000000000) (w : World) (h : St W l w) :
    Calls Tryd.prog 20 #[.agg (PW (rt p1) (rt p2) (rt p3) (rt p4) (rt p5) (rt p6)), .agg (PW (rt q1) (rt q2) (rt q3) (rt q4) (rt q5) (rt q6))] w fun e w' => e = .returned (mRQ p1 p2 p3 p4 p5 p6 q1 q2 q3 q4 q5 q6) ∧ Below w.heap.size w w' := by
  have HT := Lib.hid (tabS hT h); clear hT h
  have Z_p1 := Lib.hid Zp1; clear Zp1
  have Z_p2 := Lib.hid Zp2; clear Zp2
  have Z_p3 := Lib.hid Zp3; clear Zp3
  have Z_p4 := Lib.hid Zp4; clear Zp4
  have Z_p5 := Lib.hid Zp5; clear Zp5
  have Z_p6 := Lib.hid Zp6; clear Zp6
  have Z_q1 := Lib.hid Zq1; clear Zq1
  have Z_q2 := Lib.hid Zq2; clear Zq2
  have Z_q3 := Lib.hid Zq3; clear Zq3
  have Z_q4 := Lib.hid Zq4; clear Zq4
  have Z_q5 := Lib.hid Zq5; clear Zq5
  have Z_q6 := Lib.hid Zq6; clear Zq6
  go_enter Tryd.func20, Tryd.ntmps20
  have HS : St w [] w := St.start
  go_upto_region 0 with (fail)
  refine wp_seq_text [] (StR.no HS) ?_
  refine Seq.box rfl rfl rfl (v := .agg (PW (rt p1) (rt p2) (rt p3) (rt p4) (rt p5) (rt p6))) (cs := PW (rt p1) (rt p2) (rt p3) (rt p4) (rt p5) (rt p6)) rfl rfl ?_
  intro bk2 _ _ hbk2_r
  simp only [Act.put, nA, nB, nC]
  refine Seq.box rfl rfl rfl (v := .agg (PW (rt q1) (rt q2) (rt q3) (rt q4) (rt q5) (rt q6))) (cs := PW (rt q1) (rt q2) (rt q3) (rt q4) (rt q5) (rt q6)) rfl rfl ?_
  intro bk3 _ _ hbk3_r
  obtain ⟨ne_bk3_bk2, hbk3_r⟩ := Reg.ne_of_put hbk3_r
  have ne_bk2_bk3 := Ne.symm ne_bk3_bk2
  simp only [Act.put, nA, nB, nC]
  refine Seq.alloc rfl rfl rfl (z := .agg (PW rz0 rz0 rz0 rz0 rz0 rz0)) (by kernel_rfl) rfl ?_
  intro bk4 _ _ hbk4_r
  obtain ⟨ne_bk4_bk3, hbk4_r⟩ := Reg.ne_of_put hbk4_r
  have ne_bk3_bk4 := Ne.symm ne_bk4_bk3
  obtain ⟨ne_bk4_bk2, hbk4_r⟩ := Reg.ne_of_put hbk4_r
  have ne_bk2_bk4 := Ne.symm ne_bk4_bk2
  simp only [Act.put, nA, nB, nC]
  refine Seq.pure rfl rfl (by intro w; go_simp; try rfl) ?_
  simp only [Act.put, nA, nB, nC]
  refine Seq.done fun ws1 hws => ?_
  have HS1 := hws.list3 (p := bk2) (q := bk3) (r := bk4) (by repeat (first | exact rS | refine rN (by assumption) ?_)) (by repeat (first | exact rS | refine rN (by assumption) ?_)) (by repeat (first | exact rS | refine rN (by assumption) ?_)) (by assumption) (by assumption) (by assumption)
  clear HS hws
  go_upto_region 1 with (fail)
  refine wp_seq_text [] (StR.no HS1) ?_
  refine Seq.alloc rfl rfl rfl (z := .agg (PW rz0 rz0 rz0 rz0 rz0 rz0)) (by kernel_rfl) rfl ?_
  intro bk6 _ _ hbk6_r
  simp only [Act.put, nA, nB, nC]
  refine Seq.done fun ws2 hws => ?_
  have HS2 := hws.list1 (p := bk6) (by repeat (first | exact rS | refine rN (by assumption) ?_))
  clear HS1 hws
  go_upto_region 2 with (fail)
  refine wp_seq_text [] (StR.no HS2) ?_
  refine Seq.pure rfl rfl (by intro w; go_simp; try rfl) ?_
  simp only [Act.put, nA, nB, nC]
  refine Seq.done fun ws3 hws => ?_
  have HS3 := hws.st
  clear HS2 hws
  go_wp2_with fail
  go_loopg [8] 3 (fun kx i wr => (kx = 3 ∧ i = .int .i64 0 ∧ Hid (St w [(bk6, 45, PW rz0 rz0 rz0 rz0 rz0 rz0), (bk2, 45, PW (rt p1) (rt p2) (rt p3) (rt p4) (rt p5) (rt p6)), (bk3, 45, PW (rt q1) (rt q2) (rt q3) (rt q4) (rt q5) (rt q6)), (bk4, 45, PW rz0 rz0 rz0 rz0 rz0 rz0)] wr)) ∨ (kx = 2 ∧ i = .int .i64 1 ∧ Hid (maxQ p1 q1 ≤ minQ p2 q2) ∧ Hid (St w [(bk6, 45, PW (rt (maxQ p1 q1)) (rt (minQ p2 q2)) rz0 rz0 rz0 rz0), (bk2, 45, PW (rt p1) (rt p2) (rt p3) (rt p4) (rt p5) (rt p6)), (bk3, 45, PW (rt q1) (rt q2) (rt q3) (rt q4) (rt q5) (rt q6)), (bk4, 45, PW rz0 rz0 rz0 rz0 rz0 rz0)] wr)) ∨ (kx = 1 ∧ i = .int .i64 2 ∧ Hid (maxQ p1 q1 ≤ minQ p2 q2) ∧ Hid (maxQ p3 q3 ≤ minQ p4 q4) ∧ Hid (St w [(bk6, 45, PW (rt (maxQ p1 q1)) (rt (minQ p2 q2)) (rt (maxQ p3 q3)) (rt (minQ p4 q4)) rz0 rz0), (bk2, 45, PW (rt p1) (rt p2) (rt p3) (rt p4) (rt p5) (rt p6)), (bk3, 45, PW (rt q1) (rt q2) (rt q3) (rt q4) (rt q5) (rt q6)), (bk4, 45, PW rz0 rz0 rz0 rz0 rz0 rz0)] wr)) ∨ (kx = 0 ∧ i = .int .i64 3 ∧ Hid (maxQ p1 q1 ≤ minQ p2 q2) ∧ Hid (maxQ p3 q3 ≤ minQ p4 q4) ∧ Hid (maxQ p5 q5 ≤ minQ p6 q6) ∧ Hid (St w [(bk6, 45, PW (rt (maxQ p1 q1)) (rt (minQ p2 q2)) (rt (maxQ p3 q3)) (rt (minQ p4 q4)) (rt (maxQ p5 q5)) (rt (minQ p6 q6))), (bk2, 45, PW (rt p1) (rt p2) (rt p3) (rt p4) (rt p5) (rt p6)), (bk3, 45, PW (rt q1) (rt q2) (rt q3) (rt q4) (rt q5) (rt q6)), (bk4, 45, PW rz0 rz0 rz0 rz0 rz0 rz0)] wr)))
  case atStart => exact .inl ⟨rfl, rfl, Lib.hid HS3⟩
  case round =>
    rcases hrel with ⟨hgk, rfl, hS⟩ | ⟨hgk, rfl, HO0, hS⟩ | ⟨hgk, rfl, HO0, HO1, hS⟩ | ⟨hgk, rfl, HO0, HO1, HO2, hS⟩
    · have HS0 := hS.out
      clear hS
      go_upto_region 3 with (fail)
      refine wp_seq_text [] (StR.no HS0) ?_
      refine Seq.pure rfl rfl (by intro w; go_simp; try rfl) ?_
      simp only [Act.put, nA, nB, nC]
      refine Seq.done fun ws101 hws => ?_
      have HS101 := hws.st
      clear HS0 hws
      go_upto_region 4 with (fail)
      refine wp_seq_text [] (StR.no HS101) ?_
      iterate 2 (refine Seq.pure rfl rfl (by intro w; go_simp; try rfl) ?_; simp only [Act.put, nA, nB, nC])
      refine Seq.done fun ws102 hws => ?_
      have HS102 := hws.st
      clear HS101 hws
      go_upto_region 5 with (fail)
      refine wp_seq [] (by kernel_rfl) (by kernel_rfl) (Reg.fin.put Reg.fin_no _ _) (StR.move (StR.no HS102)) ?_
      iterate 4 (refine Seq.pure rfl rfl (by intro w; go_simp; try rfl) ?_; simp only [Act.put, nA, nB, nC])
      refine Seq.loadAt rfl rfl rfl rfl (by repeat (first | exact mC | apply mT)) (n := 3) (cs' := RC p1) (Nat.le_of_ble_eq_true rfl) (by kernel_rfl) rfl ?_
      simp only [Act.put, nA, nB, nC]
      iterate 3 (refine Seq.pure rfl rfl (by intro w; go_simp; try rfl) ?_; simp only [Act.put, nA, nB, nC])
      refine Seq.loadAt rfl rfl rfl rfl (by repeat (first | exact mC | apply mT)) (n := 3) (cs' := RC p2) (Nat.le_of_ble_eq_true rfl) (by kernel_rfl) rfl ?_
      simp only [Act.put, nA, nB, nC]
      refine Seq.pure (v := .agg (VC p1 p2)) rfl rfl (fun w => bld_RSpan (x := (rt p1)) (y := (rt p2)) rfl rfl rfl w) ?_
      simp only [Act.put, nA, nB, nC]
      refine Seq.pure rfl rfl (by intro w; go_simp; try rfl) ?_
      simp only [Act.put, nA, nB, nC]
      refine Seq.storeAt (v := .agg (VC p1 p2)) rfl rfl rfl rfl rfl (by repeat (first | exact rS | refine rN (by assumption) ?_)) (Nat.le_of_ble_eq_true rfl) (by show _ = some 6; kernel_rfl) (VC_one _ _) (cs' := PW (rt p1) (rt p2) rz0 rz0 rz0 rz0) rfl ?_
      simp only [Act.put, nA, nB, nC]
      refine Seq.done fun ws103 hws => ?_
      have HS103 := hws.list1 (p := bk6) (by repeat (first | exact rS | refine rN (by assumption) ?_))
      clear HS102 hws
      by_cases h1 : p1 < q1
      · obtain ⟨va, hva, ra, ra'⟩ : ∃ v, cmpQ q1 p1 = v ∧ decide (v > 0) = true ∧ decide (0 < v) = true := ⟨_, rfl, decide_eq_true ((cmpQ_gt _ _).2 (by grind)), decide_eq_true ((cmpQ_gt _ _).2 (by grind))⟩
        have Ca := Lib.hid hva; clear hva
        go_upto_region 6 with (fail)
        refine wp_seq [] (by kernel_rfl) (by kernel_rfl) Reg.fin_no (StR.no HS103) ?_
        iterate 3 (refine Seq.pure rfl rfl (by intro w; go_simp; try rfl) ?_; simp only [Act.put, nA, nB, nC])
        refine Seq.loadAt rfl rfl rfl rfl (by repeat (first | exact mC | apply mT)) (n := 3) (cs' := RC q1) (Nat.le_of_ble_eq_true rfl) (by kernel_rfl) rfl ?_
        simp only [Act.put, nA, nB, nC]
        iterate 3 (refine Seq.pure rfl rfl (by intro w; go_simp; try rfl) ?_; simp only [Act.put, nA, nB, nC])
        refine Seq.loadAt rfl rfl rfl rfl (by repeat (first | exact mC | apply mT)) (n := 3) (cs' := RC p1) (Nat.le_of_ble_eq_true rfl) (by kernel_rfl) rfl ?_
        simp only [Act.put, nA, nB, nC]
        refine Seq.call rfl rfl rfl rfl (by kernel_rfl) (cmp_q (k := (1 * k + 0)) HT.out (Z_q1.out.more (by omega)) (Z_p1.out.more (by omega)) Ca.out (by omega)) ?_
        simp only [Act.put, nA, nB, nC]
        refine Seq.pure rfl rfl (by intro w; go_simp; try rfl) ?_
        simp only [Act.put, nA, nB, nC]
        refine Seq.done fun ws104 hws => ?_
        have HS104 := hws.st
        clear HS103 hws
        go_upto_region 7 with (fail)
        refine wp_seq [] (by kernel_rfl) (by kernel_rfl) (Reg.fin.put Reg.fin_no _ _) (StR.move (StR.no HS104)) ?_
        iterate 4 (refine Seq.pure rfl rfl (by intro w; go_simp; try rfl) ?_; simp only [Act.put, nA, nB, nC])
        refine Seq.loadAt rfl rfl rfl rfl (by repeat (first | exact mC | apply mT)) (n := 3) (cs' := RC q1) (Nat.le_of_ble_eq_true rfl) (by kernel_rfl) rfl ?_
        simp only [Act.put, nA, nB, nC]
        iterate 2 (refine Seq.pure rfl rfl (by intro w; go_simp; try rfl) ?_; simp only [Act.put, nA, nB, nC])
        refine Seq.storeAt (v := .agg (RC q1)) rfl rfl rfl rfl rfl (by repeat (first | exact rS | refine rN (by assumption) ?_)) (Nat.le_of_ble_eq_true rfl) (by show _ = some 3; kernel_rfl) (RC_one _) (cs' := PW (rt q1) (rt p2) rz0 rz0 rz0 rz0) rfl ?_
        simp only [Act.put, nA, nB, nC]
        refine Seq.done fun ws105 hws => ?_
        have HS105 := hws.list1 (p := bk6) (by repeat (first | exact rS | refine rN (by assumption) ?_))
        clear HS104 hws
        by_cases h2 : q2 < p2
        · obtain ⟨vb, hvb, rb⟩ : ∃ v, cmpQ q2 p2 = v ∧ decide (v < 0) = true := ⟨_, rfl, decide_eq_true ((cmpQ_lt _ _).2 (by grind))⟩
          have Cb := Lib.hid hvb; clear hvb
          go_upto_region 8 with (fail)
          refine wp_seq [] (by kernel_rfl) (by kernel_rfl) Reg.fin_no (StR.no HS105) ?_
          iterate 3 (refine Seq.pure rfl rfl (by intro w; go_simp; try rfl) ?_; simp only [Act.put, nA, nB, nC])
          refine Seq.loadAt rfl rfl rfl rfl (by repeat (first | exact mC | apply mT)) (n := 3) (cs' := RC q2) (Nat.le_of_ble_eq_true rfl) (by kernel_rfl) rfl ?_
          simp only [Act.put, nA, nB, nC]
          iterate 3 (refine Seq.pure rfl rfl (by intro w; go_simp; try rfl) ?_; simp only [Act.put, nA, nB, nC])
          refine Seq.loadAt rfl rfl rfl rfl (by repeat (first | exact mC | apply mT)) (n := 3) (cs' := RC p2) (Nat.le_of_ble_eq_true rfl) (by kernel_rfl) rfl ?_
          simp only [Act.put, nA, nB, nC]
          refine Seq.call rfl rfl rfl rfl (by kernel_rfl) (cmp_q (k := (1 * k + 0)) HT.out (Z_q2.out.more (by omega)) (Z_p2.out.more (by omega)) Cb.out (by omega)) ?_
          simp only [Act.put, nA, nB, nC]
          refine Seq.pure rfl rfl (by intro w; go_simp; try rfl) ?_
          simp only [Act.put, nA, nB, nC]
          refine Seq.done fun ws106 hws => ?_
          have HS106 := hws.st
          clear HS105 hws
          go_upto_region 9 with (fail)
          refine wp_seq [] (by kernel_rfl) (by kernel_rfl) (Reg.fin.put Reg.fin_no _ _) (StR.move (StR.no HS106)) ?_
          iterate 4 (refine Seq.pure rfl rfl (by intro w; go_simp; try rfl) ?_; simp only [Act.put, nA, nB, nC])
          refine Seq.loadAt rfl rfl rfl rfl (by repeat (first | exact mC | apply mT)) (n := 3) (cs' := RC q2) (Nat.le_of_ble_eq_true rfl) (by kernel_rfl) rfl ?_
          simp only [Act.put, nA, nB, nC]
          iterate 2 (refine Seq.pure rfl rfl (by intro w; go_simp; try rfl) ?_; simp only [Act.put, nA, nB, nC])
          refine Seq.storeAt (v := .agg (RC q2)) rfl rfl rfl rfl rfl (by repeat (first | exact rS | refine rN (by assumption) ?_)) (Nat.le_of_ble_eq_true rfl) (by show _ = some 3; kernel_rfl) (RC_one _) (cs' := PW (rt q1) (rt q2) rz0 rz0 rz0 rz0) rfl ?_
          simp only [Act.put, nA, nB, nC]
          refine Seq.done fun ws107 hws => ?_
          have HS107 := hws.list1 (p := bk6) (by repeat (first | exact rS | refine rN (by assumption) ?_))
          clear HS106 hws
          by_cases h3 : q2 < q1
          · obtain ⟨vc, hvc, rc, rc'⟩ : ∃ v, cmpQ q1 q2 = v ∧ decide (v > 0) = true ∧ decide (0 < v) = true := ⟨_, rfl, decide_eq_true ((cmpQ_gt _ _).2 (by grind)), decide_eq_true ((cmpQ_gt _ _).2 (by grind))⟩
            have Cc := Lib.hid hvc; clear hvc
            have E1 := Lib.hid (show maxQ p1 q1 = q1 from by unfold maxQ cmpQ; grind)
            have E2 := Lib.hid (show minQ p2 q2 = q2 from by unfold minQ cmpQ; grind)
            have HR := Lib.hid (show Value.tuple #[.agg z18, .bool false] = mRQ p1 p2 p3 p4 p5 p6 q1 q2 q3 q4 q5 q6 from by unfold mRQ okQ; rw [if_neg]; simp only [decide_eq_true_eq]; intro hh; rw [E1.out, E2.out] at hh; grind)
            clear h1 h2 h3
            go_upto_region 10 with (fail)
            refine wp_seq [] (by kernel_rfl) (by kernel_rfl) Reg.fin_no (StR.no HS107) ?_
            iterate 3 (refine Seq.pure rfl rfl (by intro w; go_simp; try rfl) ?_; simp only [Act.put, nA, nB, nC])
            refine Seq.loadAt rfl rfl rfl rfl (by repeat (first | exact mC | apply mT)) (n := 3) (cs' := RC q1) (Nat.le_of_ble_eq_true rfl) (by kernel_rfl) rfl ?_
            simp only [Act.put, nA, nB, nC]
            iterate 3 (refine Seq.pure rfl rfl (by intro w; go_simp; try rfl) ?_; simp only [Act.put, nA, nB, nC])
            refine Seq.loadAt rfl rfl rfl rfl (by repeat (first | exact mC | apply mT)) (n := 3) (cs' := RC q2) (Nat.le_of_ble_eq_true rfl) (by kernel_rfl) rfl ?_
            simp only [Act.put, nA, nB, nC]
            refine Seq.call rfl rfl rfl rfl (by kernel_rfl) (cmp_q (k := (1 * k + 0)) HT.out (Z_q1.out.more (by omega)) (Z_q2.out.more (by omega)) Cc.out (by omega)) ?_
            simp only [Act.put, nA, nB, nC]
            refine Seq.pure rfl rfl (by intro w; go_simp; try rfl) ?_
            simp only [Act.put, nA, nB, nC]
            refine Seq.done fun ws108 hws => ?_
            have HS108 := hws.st
            clear HS107 hws
            go_upto_region 11 with (fail)
            have HPbk4 := HS108.f3
            refine wp_seq_text [] (StR.move (StR.no HPbk4)) ?_
            refine Seq.pure (v := .agg (PW rz0 rz0 rz0 rz0 rz0 rz0)) rfl rfl (by intro w; go_simp; try rfl) ?_
            simp only [Act.put, nA, nB, nC]
            refine Seq.store rfl rfl rfl rfl rfl (by repeat (first | exact rS | refine rN (by assumption) ?_)) (n := 18) rfl rfl (by kernel_rfl) (PW_one _ _ _ _ _ _) ?_
            simp only [Act.put, nA, nB, nC]
            refine Seq.pure rfl rfl (by intro w; go_simp; try rfl) ?_
            simp only [Act.put, nA, nB, nC]
            refine Seq.done fun ws109 hws => ?_
            have HS109 := hws.list1 (p := bk4) (by repeat (first | exact rS | refine rN (by assumption) ?_))
            clear HS108 hws HPbk4
            go_wp2_with fail
            exact ret_own2 rfl rfl rfl rfl HS109 (by repeat (first | exact mC | apply mT)) (n := 18) rfl (by kernel_rfl) ⟨congrArg Ending.returned HR.out, HS109.below⟩
          · obtain ⟨vc, hvc, rc, rc'⟩ : ∃ v, cmpQ q1 q2 = v ∧ decide (v > 0) = false ∧ decide (0 < v) = false := ⟨_, rfl, decide_eq_false (fun h => absurd ((cmpQ_gt _ _).1 h) (by grind)), decide_eq_false (fun h => absurd ((cmpQ_gt _ _).1 h) (by grind))⟩
            have Cc := Lib.hid hvc; clear hvc
            have E1 := Lib.hid (show maxQ p1 q1 = q1 from by unfold maxQ cmpQ; grind)
            have E2 := Lib.hid (show minQ p2 q2 = q2 from by unfold minQ cmpQ; grind)
            have HO := Lib.hid (show maxQ p1 q1 ≤ minQ p2 q2 from by rw [E1.out, E2.out]; grind)
            clear h1 h2 h3
            go_upto_region 10 with (fail)
            refine wp_seq [] (by kernel_rfl) (by kernel_rfl) Reg.fin_no (StR.no HS107) ?_
            iterate 3 (refine Seq.pure rfl rfl (by intro w; go_simp; try rfl) ?_; simp only [Act.put, nA, nB, nC])
            refine Seq.loadAt rfl rfl rfl rfl (by repeat (first | exact mC | apply mT)) (n := 3) (cs' := RC q1) (Nat.le_of_ble_eq_true rfl) (by kernel_rfl) rfl ?_
            simp only [Act.put, nA, nB, nC]
            iterate 3 (refine Seq.pure rfl rfl (by intro w; go_simp; try rfl) ?_; simp only [Act.put, nA, nB, nC])
            refine Seq.loadAt rfl rfl rfl rfl (by repeat (first | exact mC | apply mT)) (n := 3) (cs' := RC q2) (Nat.le_of_ble_eq_true rfl) (by kernel_rfl) rfl ?_
            simp only [Act.put, nA, nB, nC]
            refine Seq.call rfl rfl rfl rfl (by kernel_rfl) (cmp_q (k := (1 * k + 0)) HT.out (Z_q1.out.more (by omega)) (Z_q2.out.more (by omega)) Cc.out (by omega)) ?_
            simp only [Act.put, nA, nB, nC]
            refine Seq.pure rfl rfl (by intro w; go_simp; try rfl) ?_
            simp only [Act.put, nA, nB, nC]
            refine Seq.done fun ws108 hws => ?_
            have HS108 := hws.st
            clear HS107 hws
            go_upto_region 12 with (fail)
            refine wp_seq_text [] (StR.no HS108) ?_
            refine Seq.pure (v := .int .i64 1) rfl rfl (by intro w; go_simp; try rfl) ?_
            simp only [Act.put, nA, nB, nC]
            refine Seq.pure rfl rfl (by intro w; go_simp; try rfl) ?_
            simp only [Act.put, nA, nB, nC]
            refine Seq.done fun ws109 hws => ?_
            have HS109 := hws.st
            clear HS108 hws
            go_wp2_with fail
            go_roundg 2
            case measure => rw [hgk]; decide
            case rel => exact (.inr (.inl ⟨rfl, rfl, HO, Lib.hid (by rw [E1.out, E2.out]; exact HS109)⟩))
        · obtain ⟨vb, hvb, rb⟩ : ∃ v, cmpQ q2 p2 = v ∧ decide (v < 0) = false := ⟨_, rfl, decide_eq_false (fun h => absurd ((cmpQ_lt _ _).1 h) (by grind))⟩
          have Cb := Lib.hid hvb; clear hvb
          go_upto_region 8 with (fail)
          refine wp_seq [] (by kernel_rfl) (by kernel_rfl) Reg.fin_no (StR.no HS105) ?_
          iterate 3 (refine Seq.pure rfl rfl (by intro w; go_simp; try rfl) ?_; simp only [Act.put, nA, nB, nC])
          refine Seq.loadAt rfl rfl rfl rfl (by repeat (first | exact mC | apply mT)) (n := 3) (cs' := RC q2) (Nat.le_of_ble_eq_true rfl) (by kernel_rfl) rfl ?_
          simp only [Act.put, nA, nB, nC]
          iterate 3 (refine Seq.pure rfl rfl (by intro w; go_simp; try rfl) ?_; simp only [Act.put, nA, nB, nC])
          refine Seq.loadAt rfl rfl rfl rfl (by repeat (first | exact mC | apply mT)) (n := 3) (cs' := RC p2) (Nat.le_of_ble_eq_true rfl) (by kernel_rfl) rfl ?_
          simp only [Act.put, nA, nB, nC]
          refine Seq.call rfl rfl rfl rfl (by kernel_rfl) (cmp_q (k := (1 * k + 0)) HT.out (Z_q2.out.more (by omega)) (Z_p2.out.more (by omega)) Cb.out (by omega)) ?_
          simp only [Act.put, nA, nB, nC]
          refine Seq.pure rfl rfl (by intro w; go_simp; try rfl) ?_
          simp only [Act.put, nA, nB, nC]
          refine Seq.done fun ws106 hws => ?_
          have HS106 := hws.st
          clear HS105 hws
          by_cases h3 : p2 < q1
          · obtain ⟨vc, hvc, rc, rc'⟩ : ∃ v, cmpQ q1 p2 = v ∧ decide (v > 0) = true ∧ decide (0 < v) = true := ⟨_, rfl, decide_eq_true ((cmpQ_gt _ _).2 (by grind)), decide_eq_true ((cmpQ_gt _ _).2 (by grind))⟩
            have Cc := Lib.hid hvc; clear hvc
            have E1 := Lib.hid (show maxQ p1 q1 = q1 from by unfold maxQ cmpQ; grind)
            have E2 := Lib.hid (show minQ p2 q2 = p2 from by unfold minQ cmpQ; grind)
            have HR := Lib.hid (show Value.tuple #[.agg z18, .bool false] = mRQ p1 p2 p3 p4 p5 p6 q1 q2 q3 q4 q5 q6 from by unfold mRQ okQ; rw [if_neg]; simp only [decide_eq_true_eq]; intro hh; rw [E1.out, E2.out] at hh; grind)
            clear h1 h2 h3
            go_upto_region 10 with (fail)
            refine wp_seq [] (by kernel_rfl) (by kernel_rfl) Reg.fin_no (StR.no HS106) ?_
            iterate 3 (refine Seq.pure rfl rfl (by intro w; go_simp; try rfl) ?_; simp only [Act.put, nA, nB, nC])
            refine Seq.loadAt rfl rfl rfl rfl (by repeat (first | exact mC | apply mT)) (n := 3) (cs' := RC q1) (Nat.le_of_ble_eq_true rfl) (by kernel_rfl) rfl ?_
            simp only [Act.put, nA, nB, nC]
            iterate 3 (refine Seq.pure rfl rfl (by intro w; go_simp; try rfl) ?_; simp only [Act.put, nA, nB, nC])
            refine Seq.loadAt rfl rfl rfl rfl (by repeat (first | exact mC | apply mT)) (n := 3) (cs' := RC p2) (Nat.le_of_ble_eq_true rfl) (by kernel_rfl) rfl ?_
            simp only [Act.put, nA, nB, nC]
            refine Seq.call rfl rfl rfl rfl (by kernel_rfl) (cmp_q (k := (1 * k + 0)) HT.out (Z_q1.out.more (by omega)) (Z_p2.out.more (by omega)) Cc.out (by omega)) ?_
            simp only [Act.put, nA, nB, nC]
            refine Seq.pure rfl rfl (by intro w; go_simp; try rfl) ?_
            simp only [Act.put, nA, nB, nC]
            refine Seq.done fun ws107 hws => ?_
            have HS107 := hws.st
            clear HS106 hws
            go_upto_region 11 with (fail)
            have HPbk4 := HS107.f3
            refine wp_seq_text [] (StR.move (StR.no HPbk4)) ?_
            refine Seq.pure (v := .agg (PW rz0 rz0 rz0 rz0 rz0 rz0)) rfl rfl (by intro w; go_simp; try rfl) ?_
            simp only [Act.put, nA, nB, nC]
            refine Seq.store rfl rfl rfl rfl rfl (by repeat (first | exact rS | refine rN (by assumption) ?_)) (n := 18) rfl rfl (by kernel_rfl) (PW_one _ _ _ _ _ _) ?_
            simp only [Act.put, nA, nB, nC]
            refine Seq.pure rfl rfl (by intro w; go_simp; try rfl) ?_
            simp only [Act.put, nA, nB, nC]
            refine Seq.done fun ws108 hws => ?_
            have HS108 := hws.list1 (p := bk4) (by repeat (first | exact rS | refine rN (by assumption) ?_))
            clear HS107 hws HPbk4
            go_wp2_with fail
            exact ret_own2 rfl rfl rfl rfl HS108 (by repeat (first | exact mC | apply mT)) (n := 18) rfl (by kernel_rfl) ⟨congrArg Ending.returned HR.out, HS108.below⟩
          · obtain ⟨vc, hvc, rc, rc'⟩ : ∃ v, cmpQ q1 p2 = v ∧ decide (v > 0) = false ∧ decide (0 < v) = false := ⟨_, rfl, decide_eq_false (fun h => absurd ((cmpQ_gt _ _).1 h) (by grind)), decide_eq_false (fun h => absurd ((cmpQ_gt _ _).1 h) (by grind))⟩
            have Cc := Lib.hid hvc; clear hvc
            have E1 := Lib.hid (show maxQ p1 q1 = q1 from by unfold maxQ cmpQ; grind)
            have E2 := Lib.hid (show minQ p2 q2 = p2 from by unfold minQ cmpQ; grind)
            have HO := Lib.hid (show maxQ p1 q1 ≤ minQ p2 q2 from by rw [E1.out, E2.out]; grind)
            clear h1 h2 h3
            go_upto_region 10 with (fail)
            refine wp_seq [] (by kernel_rfl) (by kernel_rfl) Reg.fin_no (StR.no HS106) ?_
            iterate 3 (refine Seq.pure rfl rfl (by intro w; go_simp; try rfl) ?_; simp only [Act.put, nA, nB, nC])
            refine Seq.loadAt rfl rfl rfl rfl (by repeat (first | exact mC | apply mT)) (n := 3) (cs' := RC q1) (Nat.le_of_ble_eq_true rfl) (by kernel_rfl) rfl ?_
            simp only [Act.put, nA, nB, nC]
            iterate 3 (refine Seq.pure rfl rfl (by intro w; go_simp; try rfl) ?_; simp only [Act.put, nA, nB, nC])
            refine Seq.loadAt rfl rfl rfl rfl (by repeat (first | exact mC | apply mT)) (n := 3) (cs' := RC p2) (Nat.le_of_ble_eq_true rfl) (by kernel_rfl) rfl ?_
            simp only [Act.put, nA, nB, nC]
            refine Seq.call rfl rfl rfl rfl (by kernel_rfl) (cmp_q (k := (1 * k + 0)) HT.out (Z_q1.out.more (by omega)) (Z_p2.out.more (by omega)) Cc.out (by omega)) ?_
            simp only [Act.put, nA, nB, nC]
            refine Seq.pure rfl rfl (by intro w; go_simp; try rfl) ?_
            simp only [Act.put, nA, nB, nC]
            refine Seq.done fun ws107 hws => ?_
            have HS107 := hws.st
            clear HS106 hws
            go_upto_region 12 with (fail)
            refine wp_seq_text [] (StR.no HS107) ?_
            refine Seq.pure (v := .int .i64 1) rfl rfl (by intro w; go_simp; try rfl) ?_
            simp only [Act.put, nA, nB, nC]
            refine Seq.pure rfl rfl (by intro w; go_simp; try rfl) ?_
            simp only [Act.put, nA, nB, nC]
            refine Seq.done fun ws108 hws => ?_
            have HS108 := hws.st
            clear HS107 hws
            go_wp2_with fail
            go_roundg 2
            case measure => rw [hgk]; decide
            case rel => exact (.inr (.inl ⟨rfl, rfl, HO, Lib.hid (by rw [E1.out, E2.out]; exact HS108)⟩))
      · obtain ⟨va, hva, ra, ra'⟩ : ∃ v, cmpQ q1 p1 = v ∧ decide (v > 0) = false ∧ decide (0 < v) = false := ⟨_, rfl, decide_eq_false (fun h => absurd ((cmpQ_gt _ _).1 h) (by grind)), decide_eq_false (fun h => absurd ((cmpQ_gt _ _).1 h) (by grind))⟩
        have Ca := Lib.hid hva; clear hva
        go_upto_region 6 with (fail)
        refine wp_seq [] (by kernel_rfl) (by kernel_rfl) Reg.fin_no (StR.no HS103) ?_
        iterate 3 (refine Seq.pure rfl rfl (by intro w; go_simp; try rfl) ?_; simp only [Act.put, nA, nB, nC])
        refine Seq.loadAt rfl rfl rfl rfl (by repeat (first | exact mC | apply mT)) (n := 3) (cs' := RC q1) (Nat.le_of_ble_eq_true rfl) (by kernel_rfl) rfl ?_
        simp only [Act.put, nA, nB, nC]
        iterate 3 (refine Seq.pure rfl rfl (by intro w; go_simp; try rfl) ?_; simp only [Act.put, nA, nB, nC])
        refine Seq.loadAt rfl rfl rfl rfl (by repeat (first | exact mC | apply mT)) (n := 3) (cs' := RC p1) (Nat.le_of_ble_eq_true rfl) (by kernel_rfl) rfl ?_
        simp only [Act.put, nA, nB, nC]
        refine Seq.call rfl rfl rfl rfl (by kernel_rfl) (cmp_q (k := (1 * k + 0)) HT.out (Z_q1.out.more (by omega)) (Z_p1.out.more (by omega)) Ca.out (by omega)) ?_
        simp only [Act.put, nA, nB, nC]
        refine Seq.pure rfl rfl (by intro w; go_simp; try rfl) ?_
        simp only [Act.put, nA, nB, nC]
        refine Seq.done fun ws104 hws => ?_
        have HS104 := hws.st
        clear HS103 hws
        by_cases h2 : q2 < p2
        · obtain ⟨vb, hvb, rb⟩ : ∃ v, cmpQ q2 p2 = v ∧ decide (v < 0) = true := ⟨_, rfl, decide_eq_true ((cmpQ_lt _ _).2 (by grind))⟩
          have Cb := Lib.hid hvb; clear hvb
          go_upto_region 8 with (fail)
          refine wp_seq [] (by kernel_rfl) (by kernel_rfl) Reg.fin_no (StR.no HS104) ?_
          iterate 3 (refine Seq.pure rfl rfl (by intro w; go_simp; try rfl) ?_; simp only [Act.put, nA, nB, nC])
          refine Seq.loadAt rfl rfl rfl rfl (by repeat (first | exact mC | apply mT)) (n := 3) (cs' := RC q2) (Nat.le_of_ble_eq_true rfl) (by kernel_rfl) rfl ?_
          simp only [Act.put, nA, nB, nC]
          iterate 3 (refine Seq.pure rfl rfl (by intro w; go_simp; try rfl) ?_; simp only [Act.put, nA, nB, nC])
          refine Seq.loadAt rfl rfl rfl rfl (by repeat (first | exact mC | apply mT)) (n := 3) (cs' := RC p2) (Nat.le_of_ble_eq_true rfl) (by kernel_rfl) rfl ?_
          simp only [Act.put, nA, nB, nC]
          refine Seq.call rfl rfl rfl rfl (by kernel_rfl) (cmp_q (k := (1 * k + 0)) HT.out (Z_q2.out.more (by omega)) (Z_p2.out.more (by omega)) Cb.out (by omega)) ?_
          simp only [Act.put, nA, nB, nC]
          refine Seq.pure rfl rfl (by intro w; go_simp; try rfl) ?_
          simp only [Act.put, nA, nB, nC]
          refine Seq.done fun ws105 hws => ?_
          have HS105 := hws.st
          clear HS104 hws
          go_upto_region 9 with (fail)
          refine wp_seq [] (by kernel_rfl) (by kernel_rfl) (Reg.fin.put Reg.fin_no _ _) (StR.move (StR.no HS105)) ?_
          iterate 4 (refine Seq.pure rfl rfl (by intro w; go_simp; try rfl) ?_; simp only [Act.put, nA, nB, nC])
          refine Seq.loadAt rfl rfl rfl rfl (by repeat (first | exact mC | apply mT)) (n := 3) (cs' := RC q2) (Nat.le_of_ble_eq_true rfl) (by kernel_rfl) rfl ?_
          simp only [Act.put, nA, nB, nC]
          iterate 2 (refine Seq.pure rfl rfl (by intro w; go_simp; try rfl) ?_; simp only [Act.put, nA, nB, nC])
          refine Seq.storeAt (v := .agg (RC q2)) rfl rfl rfl rfl rfl (by repeat (first | exact rS | refine rN (by assumption) ?_)) (Nat.le_of_ble_eq_true rfl) (by show _ = some 3; kernel_rfl) (RC_one _) (cs' := PW (rt p1) (rt q2) rz0 rz0 rz0 rz0) rfl ?_
          simp only [Act.put, nA, nB, nC]
          refine Seq.done fun ws106 hws => ?_
          have HS106 := hws.list1 (p := bk6) (by repeat (first | exact rS | refine rN (by assumption) ?_))
          clear HS105 hws
          by_cases h3 : q2 < p1
          · obtain ⟨vc, hvc, rc, rc'⟩ : ∃ v, cmpQ p1 q2 = v ∧ decide (v > 0) = true ∧ decide (0 < v) = true := ⟨_, rfl, decide_eq_true ((cmpQ_gt _ _).2 (by grind)), decide_eq_true ((cmpQ_gt _ _).2 (by grind))⟩
            have Cc := Lib.hid hvc; clear hvc
            have E1 := Lib.hid (show maxQ p1 q1 = p1 from by unfold maxQ cmpQ; grind)
            have E2 := Lib.hid (show minQ p2 q2 = q2 from by unfold minQ cmpQ; grind)
            have HR := Lib.hid (show Value.tuple #[.agg z18, .bool false] = mRQ p1 p2 p3 p4 p5 p6 q1 q2 q3 q4 q5 q6 from by unfold mRQ okQ; rw [if_neg]; simp only [decide_eq_true_eq]; intro hh; rw [E1.out, E2.out] at hh; grind)
            clear h1 h2 h3
            go_upto_region 10 with (fail)
            refine wp_seq [] (by kernel_rfl) (by kernel_rfl) Reg.fin_no (StR.no HS106) ?_
            iterate 3 (refine Seq.pure rfl rfl (by intro w; go_simp; try rfl) ?_; simp only [Act.put, nA, nB, nC])
            refine Seq.loadAt rfl rfl rfl rfl (by repeat (first | exact mC | apply mT)) (n := 3) (cs' := RC p1) (Nat.le_of_ble_eq_true rfl) (by kernel_rfl) rfl ?_
            simp only [Act.put, nA, nB, nC]
            iterate 3 (refine Seq.pure rfl rfl (by intro w; go_simp; try rfl) ?_; simp only [Act.put, nA, nB, nC])
            refine Seq.loadAt rfl rfl rfl rfl (by repeat (first | exact mC | apply mT)) (n := 3) (cs' := RC q2) (Nat.le_of_ble_eq_true rfl) (by kernel_rfl) rfl ?_
            simp only [Act.put, nA, nB, nC]
            refine Seq.call rfl rfl rfl rfl (by kernel_rfl) (cmp_q (k := (1 * k + 0)) HT.out (Z_p1.out.more (by omega)) (Z_q2.out.more (by omega)) Cc.out (by omega)) ?_
            simp only [Act.put, nA, nB, nC]
            refine Seq.pure rfl rfl (by intro w; go_simp; try rfl) ?_
            simp only [Act.put, nA, nB, nC]
            refine Seq.done fun ws107 hws => ?_
            have HS107 := hws.st
            clear HS106 hws
            go_upto_region 11 with (fail)
            have HPbk4 := HS107.f3
            refine wp_seq_text [] (StR.move (StR.no HPbk4)) ?_
            refine Seq.pure (v := .agg (PW rz0 rz0 rz0 rz0 rz0 rz0)) rfl rfl (by intro w; go_simp; try rfl) ?_
            simp only [Act.put, nA, nB, nC]
            refine Seq.store rfl rfl rfl rfl rfl (by repeat (first | exact rS | refine rN (by assumption) ?_)) (n := 18) rfl rfl (by kernel_rfl) (PW_one _ _ _ _ _ _) ?_
            simp only [Act.put, nA, nB, nC]
            refine Seq.pure rfl rfl (by intro w; go_simp; try rfl) ?_
            simp only [Act.put, nA, nB, nC]
            refine Seq.done fun ws108 hws => ?_
            have HS108 := hws.list1 (p := bk4) (by repeat (first | exact rS | refine rN (by assumption) ?_))
            clear HS107 hws HPbk4
            go_wp2_with fail
            exact ret_own2 rfl rfl rfl rfl HS108 (by repeat (first | exact mC | apply mT)) (n := 18) rfl (by kernel_rfl) ⟨congrArg Ending.returned HR.out, HS108.below⟩
          · obtain ⟨vc, hvc, rc, rc'⟩ : ∃ v, cmpQ p1 q2 = v ∧ decide (v > 0) = false ∧ decide (0 < v) = false := ⟨_, rfl, decide_eq_false (fun h => absurd ((cmpQ_gt _ _).1 h) (by grind)), decide_eq_false (fun h => absurd ((cmpQ_gt _ _).1 h) (by grind))⟩
            have Cc := Lib.hid hvc; clear hvc
            have E1 := Lib.hid (show maxQ p1 q1 = p1 from by unfold maxQ cmpQ; grind)
            have E2 := Lib.hid (show minQ p2 q2 = q2 from by unfold minQ cmpQ; grind)
            have HO := Lib.hid (show maxQ p1 q1 ≤ minQ p2 q2 from by rw [E1.out, E2.out]; grind)
            clear h1 h2 h3
            go_upto_region 10 with (fail)
            refine wp_seq [] (by kernel_rfl) (by kernel_rfl) Reg.fin_no (StR.no HS106) ?_
            iterate 3 (refine Seq.pure rfl rfl (by intro w; go_simp; try rfl) ?_; simp only [Act.put, nA, nB, nC])
            refine Seq.loadAt rfl rfl rfl rfl (by repeat (first | exact mC | apply mT)) (n := 3) (cs' := RC p1) (Nat.le_of_ble_eq_true rfl) (by kernel_rfl) rfl ?_
            simp only [Act.put, nA, nB, nC]
            iterate 3 (refine Seq.pure rfl rfl (by intro w; go_simp; try rfl) ?_; simp only [Act.put, nA, nB, nC])
            refine Seq.loadAt rfl rfl rfl rfl (by repeat (first | exact mC | apply mT)) (n := 3) (cs' := RC q2) (Nat.le_of_ble_eq_true rfl) (by kernel_rfl) rfl ?_
            simp only [Act.put, nA, nB, nC]
            refine Seq.call rfl rfl rfl rfl (by kernel_rfl) (cmp_q (k := (1 * k + 0)) HT.out (Z_p1.out.more (by omega)) (Z_q2.out.more (by omega)) Cc.out (by omega)) ?_
            simp only [Act.put, nA, nB, nC]
            refine Seq.pure rfl rfl (by intro w; go_simp; try rfl) ?_
            simp only [Act.put, nA, nB, nC]
            refine Seq.done fun ws107 hws => ?_
            have HS107 := hws.st
            clear HS106 hws
            go_upto_region 12 with (fail)
            refine wp_seq_text [] (StR.no HS107) ?_
            refine Seq.pure (v := .int .i64 1) rfl rfl (by intro w; go_simp; try rfl) ?_
            simp only [Act.put, nA, nB, nC]
            refine Seq.pure rfl rfl (by intro w; go_simp; try rfl) ?_
            simp only [Act.put, nA, nB, nC]
            refine Seq.done fun ws108 hws => ?_
            have HS108 := hws.st
            clear HS107 hws
            go_wp2_with fail
            go_roundg 2
            case measure => rw [hgk]; decide
            case rel => exact (.inr (.inl ⟨rfl, rfl, HO, Lib.hid (by rw [E1.out, E2.out]; exact HS108)⟩))
        · obtain ⟨vb, hvb, rb⟩ : ∃ v, cmpQ q2 p2 = v ∧ decide (v < 0) = false := ⟨_, rfl, decide_eq_false (fun h => absurd ((cmpQ_lt _ _).1 h) (by grind))⟩
          have Cb := Lib.hid hvb; clear hvb
          go_upto_region 8 with (fail)
          refine wp_seq [] (by kernel_rfl) (by kernel_rfl) Reg.fin_no (StR.no HS104) ?_
          iterate 3 (refine Seq.pure rfl rfl (by intro w; go_simp; try rfl) ?_; simp only [Act.put, nA, nB, nC])
          refine Seq.loadAt rfl rfl rfl rfl (by repeat (first | exact mC | apply mT)) (n := 3) (cs' := RC q2) (Nat.le_of_ble_eq_true rfl) (by kernel_rfl) rfl ?_
          simp only [Act.put, nA, nB, nC]
          iterate 3 (refine Seq.pure rfl rfl (by intro w; go_simp; try rfl) ?_; simp only [Act.put, nA, nB, nC])
          refine Seq.loadAt rfl rfl rfl rfl (by repeat (first | exact mC | apply mT)) (n := 3) (cs' := RC p2) (Nat.le_of_ble_eq_true rfl) (by kernel_rfl) rfl ?_
          simp only [Act.put, nA, nB, nC]
          refine Seq.call rfl rfl rfl rfl (by kernel_rfl) (cmp_q (k := (1 * k + 0)) HT.out (Z_q2.out.more (by omega)) (Z_p2.out.more (by omega)) Cb.out (by omega)) ?_
          simp only [Act.put, nA, nB, nC]
          refine Seq.pure rfl rfl (by intro w; go_simp; try rfl) ?_
          simp only [Act.put, nA, nB, nC]
          refine Seq.done fun ws105 hws => ?_
          have HS105 := hws.st
          clear HS104 hws
          by_cases h3 : p2 < p1
          · obtain ⟨vc, hvc, rc, rc'⟩ : ∃ v, cmpQ p1 p2 = v ∧ decide (v > 0) = true ∧ decide (0 < v) = true := ⟨_, rfl, decide_eq_true ((cmpQ_gt _ _).2 (by grind)), decide_eq_true ((cmpQ_gt _ _).2 (by grind))⟩
            have Cc := Lib.hid hvc; clear hvc
            have E1 := Lib.hid (show maxQ p1 q1 = p1 from by unfold maxQ cmpQ; grind)
            have E2 := Lib.hid (show minQ p2 q2 = p2 from by unfold minQ cmpQ; grind)
            have HR := Lib.hid (show Value.tuple #[.agg z18, .bool false] = mRQ p1 p2 p3 p4 p5 p6 q1 q2 q3 q4 q5 q6 from by unfold mRQ okQ; rw [if_neg]; simp only [decide_eq_true_eq]; intro hh; rw [E1.out, E2.out] at hh; grind)
            clear h1 h2 h3
            go_upto_region 10 with (fail)
            refine wp_seq [] (by kernel_rfl) (by kernel_rfl) Reg.fin_no (StR.no HS105) ?_
            iterate 3 (refine Seq.pure rfl rfl (by intro w; go_simp; try rfl) ?_; simp only [Act.put, nA, nB, nC])
            refine Seq.loadAt rfl rfl rfl rfl (by repeat (first | exact mC | apply mT)) (n := 3) (cs' := RC p1) (Nat.le_of_ble_eq_true rfl) (by kernel_rfl) rfl ?_
            simp only [Act.put, nA, nB, nC]
            iterate 3 (refine Seq.pure rfl rfl (by intro w; go_simp; try rfl) ?_; simp only [Act.put, nA, nB, nC])
            refine Seq.loadAt rfl rfl rfl rfl (by repeat (first | exact mC | apply mT)) (n := 3) (cs' := RC p2) (Nat.le_of_ble_eq_true rfl) (by kernel_rfl) rfl ?_
            simp only [Act.put, nA, nB, nC]
            refine Seq.call rfl rfl rfl rfl (by kernel_rfl) (cmp_q (k := (1 * k + 0)) HT.out (Z_p1.out.more (by omega)) (Z_p2.out.more (by omega)) Cc.out (by omega)) ?_
            simp only [Act.put, nA, nB, nC]
            refine Seq.pure rfl rfl (by intro w; go_simp; try rfl) ?_
            simp only [Act.put, nA, nB, nC]
            refine Seq.done fun ws106 hws => ?_
            have HS106 := hws.st
            clear HS105 hws
            go_upto_region 11 with (fail)
            have HPbk4 := HS106.f3
            refine wp_seq_text [] (StR.move (StR.no HPbk4)) ?_
            refine Seq.pure (v := .agg (PW rz0 rz0 rz0 rz0 rz0 rz0)) rfl rfl (by intro w; go_simp; try rfl) ?_
            simp only [Act.put, nA, nB, nC]
            refine Seq.store rfl rfl rfl rfl rfl (by repeat (first | exact rS | refine rN (by assumption) ?_)) (n := 18) rfl rfl (by kernel_rfl) (PW_one _ _ _ _ _ _) ?_
            simp only [Act.put, nA, nB, nC]
            refine Seq.pure rfl rfl (by intro w; go_simp; try rfl) ?_
            simp only [Act.put, nA, nB, nC]
            refine Seq.done fun ws107 hws => ?_
            have HS107 := hws.list1 (p := bk4) (by repeat (first | exact rS | refine rN (by assumption) ?_))
            clear HS106 hws HPbk4
            go_wp2_with fail
            exact ret_own2 rfl rfl rfl rfl HS107 (by repeat (first | exact mC | apply mT)) (n := 18) rfl (by kernel_rfl) ⟨congrArg Ending.returned HR.out, HS107.below⟩
          · obtain ⟨vc, hvc, rc, rc'⟩ : ∃ v, cmpQ p1 p2 = v ∧ decide (v > 0) = false ∧ decide (0 < v) = false := ⟨_, rfl, decide_eq_false (fun h => absurd ((cmpQ_gt _ _).1 h) (by grind)), decide_eq_false (fun h => absurd ((cmpQ_gt _ _).1 h) (by grind))⟩
            have Cc := Lib.hid hvc; clear hvc
            have E1 := Lib.hid (show maxQ p1 q1 = p1 from by unfold maxQ cmpQ; grind)
            have E2 := Lib.hid (show minQ p2 q2 = p2 from by unfold minQ cmpQ; grind)
            have HO := Lib.hid (show maxQ p1 q1 ≤ minQ p2 q2 from by rw [E1.out, E2.out]; grind)
            clear h1 h2 h3
            go_upto_region 10 with (fail)
            refine wp_seq [] (by kernel_rfl) (by kernel_rfl) Reg.fin_no (StR.no HS105) ?_
            iterate 3 (refine Seq.pure rfl rfl (by intro w; go_simp; try rfl) ?_; simp only [Act.put, nA, nB, nC])
            refine Seq.loadAt rfl rfl rfl rfl (by repeat (first | exact mC | apply mT)) (n := 3) (cs' := RC p1) (Nat.le_of_ble_eq_true rfl) (by kernel_rfl) rfl ?_
            simp only [Act.put, nA, nB, nC]
            iterate 3 (refine Seq.pure rfl rfl (by intro w; go_simp; try rfl) ?_; simp only [Act.put, nA, nB, nC])
            refine Seq.loadAt rfl rfl rfl rfl (by repeat (first | exact mC | apply mT)) (n := 3) (cs' := RC p2) (Nat.le_of_ble_eq_true rfl) (by kernel_rfl) rfl ?_
            simp only [Act.put, nA, nB, nC]
            refine Seq.call rfl rfl rfl rfl (by kernel_rfl) (cmp_q (k := (1 * k + 0)) HT.out (Z_p1.out.more (by omega)) (Z_p2.out.more (by omega)) Cc.out (by omega)) ?_
            simp only [Act.put, nA, nB, nC]
            refine Seq.pure rfl rfl (by intro w; go_simp; try rfl) ?_
            simp only [Act.put, nA, nB, nC]
            refine Seq.done fun ws106 hws => ?_
            have HS106 := hws.st
            clear HS105 hws
            go_upto_region 12 with (fail)
            refine wp_seq_text [] (StR.no HS106) ?_
            refine Seq.pure (v := .int .i64 1) rfl rfl (by intro w; go_simp; try rfl) ?_
            simp only [Act.put, nA, nB, nC]
            refine Seq.pure rfl rfl (by intro w; go_simp; try rfl) ?_
            simp only [Act.put, nA, nB, nC]
            refine Seq.done fun ws107 hws => ?_
            have HS107 := hws.st
            clear HS106 hws
            go_wp2_with fail
            go_roundg 2
            case measure => rw [hgk]; decide
            case rel => exact (.inr (.inl ⟨rfl, rfl, HO, Lib.hid (by rw [E1.out, E2.out]; exact HS107)⟩))
    · have HS0 := hS.out
      clear hS
      go_upto_region 3 with (fail)
      refine wp_seq_text [] (StR.no HS0) ?_
      refine Seq.pure rfl rfl (by intro w; go_simp; try rfl) ?_
      simp only [Act.put, nA, nB, nC]
      refine Seq.done fun ws201 hws => ?_
      have HS201 := hws.st
      clear HS0 hws
      go_upto_region 4 with (fail)
      refine wp_seq_text [] (StR.no HS201) ?_
      iterate 2 (refine Seq.pure rfl rfl (by intro w; go_simp; try rfl) ?_; simp only [Act.put, nA, nB, nC])
      refine Seq.done fun ws202 hws => ?_
      have HS202 := hws.st
      clear HS201 hws
      go_upto_region 5 with (fail)
      refine wp_seq [] (by kernel_rfl) (by kernel_rfl) (Reg.fin.put Reg.fin_no _ _) (StR.move (StR.no HS202)) ?_
      iterate 4 (refine Seq.pure rfl rfl (by intro w; go_simp; try rfl) ?_; simp only [Act.put, nA, nB, nC])
      refine Seq.loadAt rfl rfl rfl rfl (by repeat (first | exact mC | apply mT)) (n := 3) (cs' := RC p3) (Nat.le_of_ble_eq_true rfl) (by kernel_rfl) rfl ?_
      simp only [Act.put, nA, nB, nC]
      iterate 3 (refine Seq.pure rfl rfl (by intro w; go_simp; try rfl) ?_; simp only [Act.put, nA, nB, nC])
      refine Seq.loadAt rfl rfl rfl rfl (by repeat (first | exact mC | apply mT)) (n := 3) (cs' := RC p4) (Nat.le_of_ble_eq_true rfl) (by kernel_rfl) rfl ?_
      simp only [Act.put, nA, nB, nC]
      refine Seq.pure (v := .agg (VC p3 p4)) rfl rfl (fun w => bld_RSpan (x := (rt p3)) (y := (rt p4)) rfl rfl rfl w) ?_
      simp only [Act.put, nA, nB, nC]
      refine Seq.pure rfl rfl (by intro w; go_simp; try rfl) ?_
      simp only [Act.put, nA, nB, nC]
      refine Seq.storeAt (v := .agg (VC p3 p4)) rfl rfl rfl rfl rfl (by repeat (first | exact rS | refine rN (by assumption) ?_)) (Nat.le_of_ble_eq_true rfl) (by show _ = some 6; kernel_rfl) (VC_one _ _) (cs' := PW (rt (maxQ p1 q1)) (rt (minQ p2 q2)) (rt p3) (rt p4) rz0 rz0) rfl ?_
      simp only [Act.put, nA, nB, nC]
      refine Seq.done fun ws203 hws => ?_
      have HS203 := hws.list1 (p := bk6) (by repeat (first | exact rS | refine rN (by assumption) ?_))
      clear HS202 hws
      by_cases h1 : p3 < q3
      · obtain ⟨va, hva, ra, ra'⟩ : ∃ v, cmpQ q3 p3 = v ∧ decide (v > 0) = true ∧ decide (0 < v) = true := ⟨_, rfl, decide_eq_true ((cmpQ_gt _ _).2 (by grind)), decide_eq_true ((cmpQ_gt _ _).2 (by grind))⟩
        have Ca := Lib.hid hva; clear hva
        go_upto_region 6 with (fail)
        refine wp_seq [] (by kernel_rfl) (by kernel_rfl) Reg.fin_no (StR.no HS203) ?_
        iterate 3 (refine Seq.pure rfl rfl (by intro w; go_simp; try rfl) ?_; simp only [Act.put, nA, nB, nC])
        refine Seq.loadAt rfl rfl rfl rfl (by repeat (first | exact mC | apply mT)) (n := 3) (cs' := RC q3) (Nat.le_of_ble_eq_true rfl) (by kernel_rfl) rfl ?_
        simp only [Act.put, nA, nB, nC]
        iterate 3 (refine Seq.pure rfl rfl (by intro w; go_simp; try rfl) ?_; simp only [Act.put, nA, nB, nC])
        refine Seq.loadAt rfl rfl rfl rfl (by repeat (first | exact mC | apply mT)) (n := 3) (cs' := RC p3) (Nat.le_of_ble_eq_true rfl) (by kernel_rfl) rfl ?_
        simp only [Act.put, nA, nB, nC]
        refine Seq.call rfl rfl rfl rfl (by kernel_rfl) (cmp_q (k := (1 * k + 0)) HT.out (Z_q3.out.more (by omega)) (Z_p3.out.more (by omega)) Ca.out (by omega)) ?_
        simp only [Act.put, nA, nB, nC]
        refine Seq.pure rfl rfl (by intro w; go_simp; try rfl) ?_
        simp only [Act.put, nA, nB, nC]
        refine Seq.done fun ws204 hws => ?_
        have HS204 := hws.st
        clear HS203 hws
        go_upto_region 7 with (fail)
        refine wp_seq [] (by kernel_rfl) (by kernel_rfl) (Reg.fin.put Reg.fin_no _ _) (StR.move (StR.no HS204)) ?_
        iterate 4 (refine Seq.pure rfl rfl (by intro w; go_simp; try rfl) ?_; simp only [Act.put, nA, nB, nC])
        refine Seq.loadAt rfl rfl rfl rfl (by repeat (first | exact mC | apply mT)) (n := 3) (cs' := RC q3) (Nat.le_of_ble_eq_true rfl) (by kernel_rfl) rfl ?_
        simp only [Act.put, nA, nB, nC]
        iterate 2 (refine Seq.pure rfl rfl (by intro w; go_simp; try rfl) ?_; simp only [Act.put, nA, nB, nC])
        refine Seq.storeAt (v := .agg (RC q3)) rfl rfl rfl rfl rfl (by repeat (first | exact rS | refine rN (by assumption) ?_)) (Nat.le_of_ble_eq_true rfl) (by show _ = some 3; kernel_rfl) (RC_one _) (cs' := PW (rt (maxQ p1 q1)) (rt (minQ p2 q2)) (rt q3) (rt p4) rz0 rz0) rfl ?_
        simp only [Act.put, nA, nB, nC]
        refine Seq.done fun ws205 hws => ?_
        have HS205 := hws.list1 (p := bk6) (by repeat (first | exact rS | refine rN (by assumption) ?_))
        clear HS204 hws
        by_cases h2 : q4 < p4
        · obtain ⟨vb, hvb, rb⟩ : ∃ v, cmpQ q4 p4 = v ∧ decide (v < 0) = true := ⟨_, rfl, decide_eq_true ((cmpQ_lt _ _).2 (by grind))⟩
          have Cb := Lib.hid hvb; clear hvb
          go_upto_region 8 with (fail)
          refine wp_seq [] (by kernel_rfl) (by kernel_rfl) Reg.fin_no (StR.no HS205) ?_
          iterate 3 (refine Seq.pure rfl rfl (by intro w; go_simp; try rfl) ?_; simp only [Act.put, nA, nB, nC])
          refine Seq.loadAt rfl rfl rfl rfl (by repeat (first | exact mC | apply mT)) (n := 3) (cs' := RC q4) (Nat.le_of_ble_eq_true rfl) (by kernel_rfl) rfl ?_
          simp only [Act.put, nA, nB, nC]
          iterate 3 (refine Seq.pure rfl rfl (by intro w; go_simp; try rfl) ?_; simp only [Act.put, nA, nB, nC])
          refine Seq.loadAt rfl rfl rfl rfl (by repeat (first | exact mC | apply mT)) (n := 3) (cs' := RC p4) (Nat.le_of_ble_eq_true rfl) (by kernel_rfl) rfl ?_
          simp only [Act.put, nA, nB, nC]
          refine Seq.call rfl rfl rfl rfl (by kernel_rfl) (cmp_q (k := (1 * k + 0)) HT.out (Z_q4.out.more (by omega)) (Z_p4.out.more (by omega)) Cb.out (by omega)) ?_
          simp only [Act.put, nA, nB, nC]
          refine Seq.pure rfl rfl (by intro w; go_simp; try rfl) ?_
          simp only [Act.put, nA, nB, nC]
          refine Seq.done fun ws206 hws => ?_
          have HS206 := hws.st
          clear HS205 hws
          go_upto_region 9 with (fail)
          refine wp_seq [] (by kernel_rfl) (by kernel_rfl) (Reg.fin.put Reg.fin_no _ _) (StR.move (StR.no HS206)) ?_
          iterate 4 (refine Seq.pure rfl rfl (by intro w; go_simp; try rfl) ?_; simp only [Act.put, nA, nB, nC])
          refine Seq.loadAt rfl rfl rfl rfl (by repeat (first | exact mC | apply mT)) (n := 3) (cs' := RC q4) (Nat.le_of_ble_eq_true rfl) (by kernel_rfl) rfl ?_
          simp only [Act.put, nA, nB, nC]
          iterate 2 (refine Seq.pure rfl rfl (by intro w; go_simp; try rfl) ?_; simp only [Act.put, nA, nB, nC])
          refine Seq.storeAt (v := .agg (RC q4)) rfl rfl rfl rfl rfl (by repeat (first | exact rS | refine rN (by assumption) ?_)) (Nat.le_of_ble_eq_true rfl) (by show _ = some 3; kernel_rfl) (RC_one _) (cs' := PW (rt (maxQ p1 q1)) (rt (minQ p2 q2)) (rt q3) (rt q4) rz0 rz0) rfl ?_
          simp only [Act.put, nA, nB, nC]
          refine Seq.done fun ws207 hws => ?_
          have HS207 := hws.list1 (p := bk6) (by repeat (first | exact rS | refine rN (by assumption) ?_))
          clear HS206 hws
          by_cases h3 : q4 < q3
          · obtain ⟨vc, hvc, rc, rc'⟩ : ∃ v, cmpQ q3 q4 = v ∧ decide (v > 0) = true ∧ decide (0 < v) = true := ⟨_, rfl, decide_eq_true ((cmpQ_gt _ _).2 (by grind)), decide_eq_true ((cmpQ_gt _ _).2 (by grind))⟩
            have Cc := Lib.hid hvc; clear hvc
            have E1 := Lib.hid (show maxQ p3 q3 = q3 from by unfold maxQ cmpQ; grind)
            have E2 := Lib.hid (show minQ p4 q4 = q4 from by unfold minQ cmpQ; grind)
            have HR := Lib.hid (show Value.tuple #[.agg z18, .bool false] = mRQ p1 p2 p3 p4 p5 p6 q1 q2 q3 q4 q5 q6 from by unfold mRQ okQ; rw [if_neg]; simp only [decide_eq_true_eq]; intro hh; rw [E1.out, E2.out] at hh; grind)
            clear h1 h2 h3
            go_upto_region 10 with (fail)
            refine wp_seq [] (by kernel_rfl) (by kernel_rfl) Reg.fin_no (StR.no HS207) ?_
            iterate 3 (refine Seq.pure rfl rfl (by intro w; go_simp; try rfl) ?_; simp only [Act.put, nA, nB, nC])
            refine Seq.loadAt rfl rfl rfl rfl (by repeat (first | exact mC | apply mT)) (n := 3) (cs' := RC q3) (Nat.le_of_ble_eq_true rfl) (by kernel_rfl) rfl ?_
            simp only [Act.put, nA, nB, nC]
            iterate 3 (refine Seq.pure rfl rfl (by intro w; go_simp; try rfl) ?_; simp only [Act.put, nA, nB, nC])
            refine Seq.loadAt rfl rfl rfl rfl (by repeat (first | exact mC | apply mT)) (n := 3) (cs' := RC q4) (Nat.le_of_ble_eq_true rfl) (by kernel_rfl) rfl ?_
            simp only [Act.put, nA, nB, nC]
            refine Seq.call rfl rfl rfl rfl (by kernel_rfl) (cmp_q (k := (1 * k + 0)) HT.out (Z_q3.out.more (by omega)) (Z_q4.out.more (by omega)) Cc.out (by omega)) ?_
            simp only [Act.put, nA, nB, nC]
            refine Seq.pure rfl rfl (by intro w; go_simp; try rfl) ?_
            simp only [Act.put, nA, nB, nC]
            refine Seq.done fun ws208 hws => ?_
            have HS208 := hws.st
            clear HS207 hws
            go_upto_region 11 with (fail)
            have HPbk4 := HS208.f3
            refine wp_seq_text [] (StR.move (StR.no HPbk4)) ?_
            refine Seq.pure (v := .agg (PW rz0 rz0 rz0 rz0 rz0 rz0)) rfl rfl (by intro w; go_simp; try rfl) ?_
            simp only [Act.put, nA, nB, nC]
            refine Seq.store rfl rfl rfl rfl rfl (by repeat (first | exact rS | refine rN (by assumption) ?_)) (n := 18) rfl rfl (by kernel_rfl) (PW_one _ _ _ _ _ _) ?_
            simp only [Act.put, nA, nB, nC]
            refine Seq.pure rfl rfl (by intro w; go_simp; try rfl) ?_
            simp only [Act.put, nA, nB, nC]
            refine Seq.done fun ws209 hws => ?_
            have HS209 := hws.list1 (p := bk4) (by repeat (first | exact rS | refine rN (by assumption) ?_))
            clear HS208 hws HPbk4
            go_wp2_with fail
            exact ret_own2 rfl rfl rfl rfl HS209 (by repeat (first | exact mC | apply mT)) (n := 18) rfl (by kernel_rfl) ⟨congrArg Ending.returned HR.out, HS209.below⟩
          · obtain ⟨vc, hvc, rc, rc'⟩ : ∃ v, cmpQ q3 q4 = v ∧ decide (v > 0) = false ∧ decide (0 < v) = false := ⟨_, rfl, decide_eq_false (fun h => absurd ((cmpQ_gt _ _).1 h) (by grind)), decide_eq_false (fun h => absurd ((cmpQ_gt _ _).1 h) (by grind))⟩
            have Cc := Lib.hid hvc; clear hvc
            have E1 := Lib.hid (show maxQ p3 q3 = q3 from by unfold maxQ cmpQ; grind)
            have E2 := Lib.hid (show minQ p4 q4 = q4 from by unfold minQ cmpQ; grind)
            have HO := Lib.hid (show maxQ p3 q3 ≤ minQ p4 q4 from by rw [E1.out, E2.out]; grind)
            clear h1 h2 h3
            go_upto_region 10 with (fail)
            refine wp_seq [] (by kernel_rfl) (by kernel_rfl) Reg.fin_no (StR.no HS207) ?_
            iterate 3 (refine Seq.pure rfl rfl (by intro w; go_simp; try rfl) ?_; simp only [Act.put, nA, nB, nC])
            refine Seq.loadAt rfl rfl rfl rfl (by repeat (first | exact mC | apply mT)) (n := 3) (cs' := RC q3) (Nat.le_of_ble_eq_true rfl) (by kernel_rfl) rfl ?_
            simp only [Act.put, nA, nB, nC]
            iterate 3 (refine Seq.pure rfl rfl (by intro w; go_simp; try rfl) ?_; simp only [Act.put, nA, nB, nC])
            refine Seq.loadAt rfl rfl rfl rfl (by repeat (first | exact mC | apply mT)) (n := 3) (cs' := RC q4) (Nat.le_of_ble_eq_true rfl) (by kernel_rfl) rfl ?_
            simp only [Act.put, nA, nB, nC]
            refine Seq.call rfl rfl rfl rfl (by kernel_rfl) (cmp_q (k := (1 * k + 0)) HT.out (Z_q3.out.more (by omega)) (Z_q4.out.more (by omega)) Cc.out (by omega)) ?_
            simp only [Act.put, nA, nB, nC]
            refine Seq.pure rfl rfl (by intro w; go_simp; try rfl) ?_
            simp only [Act.put, nA, nB, nC]
            refine Seq.done fun ws208 hws => ?_
            have HS208 := hws.st
            clear HS207 hws
            go_upto_region 12 with (fail)
            refine wp_seq_text [] (StR.no HS208) ?_
            refine Seq.pure (v := .int .i64 2) rfl rfl (by intro w; go_simp; try rfl) ?_
            simp only [Act.put, nA, nB, nC]
            refine Seq.pure rfl rfl (by intro w; go_simp; try rfl) ?_
            simp only [Act.put, nA, nB, nC]
            refine Seq.done fun ws209 hws => ?_
            have HS209 := hws.st
            clear HS208 hws
            go_wp2_with fail
            go_roundg 1
            case measure => rw [hgk]; decide
            case rel => exact (.inr (.inr (.inl ⟨rfl, rfl, HO0, HO, Lib.hid (by rw [E1.out, E2.out]; exact HS209)⟩)))
        · obtain ⟨vb, hvb, rb⟩ : ∃ v, cmpQ q4 p4 = v ∧ decide (v < 0) = false := ⟨_, rfl, decide_eq_false (fun h => absurd ((cmpQ_lt _ _).1 h) (by grind))⟩
          have Cb := Lib.hid hvb; clear hvb
          go_upto_region 8 with (fail)
          refine wp_seq [] (by kernel_rfl) (by kernel_rfl) Reg.fin_no (StR.no HS205) ?_
          iterate 3 (refine Seq.pure rfl rfl (by intro w; go_simp; try rfl) ?_; simp only [Act.put, nA, nB, nC])
          refine Seq.loadAt rfl rfl rfl rfl (by repeat (first | exact mC | apply mT)) (n := 3) (cs' := RC q4) (Nat.le_of_ble_eq_true rfl) (by kernel_rfl) rfl ?_
          simp only [Act.put, nA, nB, nC]
          iterate 3 (refine Seq.pure rfl rfl (by intro w; go_simp; try rfl) ?_; simp only [Act.put, nA, nB, nC])
          refine Seq.loadAt rfl rfl rfl rfl (by repeat (first | exact mC | apply mT)) (n := 3) (cs' := RC p4) (Nat.le_of_ble_eq_true rfl) (by kernel_rfl) rfl ?_
          simp only [Act.put, nA, nB, nC]
          refine Seq.call rfl rfl rfl rfl (by kernel_rfl) (cmp_q (k := (1 * k + 0)) HT.out (Z_q4.out.more (by omega)) (Z_p4.out.more (by omega)) Cb.out (by omega)) ?_
          simp only [Act.put, nA, nB, nC]
          refine Seq.pure rfl rfl (by intro w; go_simp; try rfl) ?_
          simp only [Act.put, nA, nB, nC]
          refine Seq.done fun ws206 hws => ?_
          have HS206 := hws.st
          clear HS205 hws
          by_cases h3 : p4 < q3
          · obtain ⟨vc, hvc, rc, rc'⟩ : ∃ v, cmpQ q3 p4 = v ∧ decide (v > 0) = true ∧ decide (0 < v) = true := ⟨_, rfl, decide_eq_true ((cmpQ_gt _ _).2 (by grind)), decide_eq_true ((cmpQ_gt _ _).2 (by grind))⟩
            have Cc := Lib.hid hvc; clear hvc
            have E1 := Lib.hid (show maxQ p3 q3 = q3 from by unfold maxQ cmpQ; grind)
            have E2 := Lib.hid (show minQ p4 q4 = p4 from by unfold minQ cmpQ; grind)
            have HR := Lib.hid (show Value.tuple #[.agg z18, .bool false] = mRQ p1 p2 p3 p4 p5 p6 q1 q2 q3 q4 q5 q6 from by unfold mRQ okQ; rw [if_neg]; simp only [decide_eq_true_eq]; intro hh; rw [E1.out, E2.out] at hh; grind)
            clear h1 h2 h3
            go_upto_region 10 with (fail)
            refine wp_seq [] (by kernel_rfl) (by kernel_rfl) Reg.fin_no (StR.no HS206) ?_
            iterate 3 (refine Seq.pure rfl rfl (by intro w; go_simp; try rfl) ?_; simp only [Act.put, nA, nB, nC])
            refine Seq.loadAt rfl rfl rfl rfl (by repeat (first | exact mC | apply mT)) (n := 3) (cs' := RC q3) (Nat.le_of_ble_eq_true rfl) (by kernel_rfl) rfl ?_
            simp only [Act.put, nA, nB, nC]
            iterate 3 (refine Seq.pure rfl rfl (by intro w; go_simp; try rfl) ?_; simp only [Act.put, nA, nB, nC])
            refine Seq.loadAt rfl rfl rfl rfl (by repeat (first | exact mC | apply mT)) (n := 3) (cs' := RC p4) (Nat.le_of_ble_eq_true rfl) (by kernel_rfl) rfl ?_
            simp only [Act.put, nA, nB, nC]
            refine Seq.call rfl rfl rfl rfl (by kernel_rfl) (cmp_q (k := (1 * k + 0)) HT.out (Z_q3.out.more (by omega)) (Z_p4.out.more (by omega)) Cc.out (by omega)) ?_
            simp only [Act.put, nA, nB, nC]
            refine Seq.pure rfl rfl (by intro w; go_simp; try rfl) ?_
            simp only [Act.put, nA, nB, nC]
            refine Seq.done fun ws207 hws => ?_
            have HS207 := hws.st
            clear HS206 hws
            go_upto_region 11 with (fail)
            have HPbk4 := HS207.f3
            refine wp_seq_text [] (StR.move (StR.no HPbk4)) ?_
            refine Seq.pure (v := .agg (PW rz0 rz0 rz0 rz0 rz0 rz0)) rfl rfl (by intro w; go_simp; try rfl) ?_
            simp only [Act.put, nA, nB, nC]
            refine Seq.store rfl rfl rfl rfl rfl (by repeat (first | exact rS | refine rN (by assumption) ?_)) (n := 18) rfl rfl (by kernel_rfl) (PW_one _ _ _ _ _ _) ?_
            simp only [Act.put, nA, nB, nC]
            refine Seq.pure rfl rfl (by intro w; go_simp; try rfl) ?_
            simp only [Act.put, nA, nB, nC]
            refine Seq.done fun ws208 hws => ?_
            have HS208 := hws.list1 (p := bk4) (by repeat (first | exact rS | refine rN (by assumption) ?_))
            clear HS207 hws HPbk4
            go_wp2_with fail
            exact ret_own2 rfl rfl rfl rfl HS208 (by repeat (first | exact mC | apply mT)) (n := 18) rfl (by kernel_rfl) ⟨congrArg Ending.returned HR.out, HS208.below⟩
          · obtain ⟨vc, hvc, rc, rc'⟩ : ∃ v, cmpQ q3 p4 = v ∧ decide (v > 0) = false ∧ decide (0 < v) = false := ⟨_, rfl, decide_eq_false (fun h => absurd ((cmpQ_gt _ _).1 h) (by grind)), decide_eq_false (fun h => absurd ((cmpQ_gt _ _).1 h) (by grind))⟩
            have Cc := Lib.hid hvc; clear hvc
            have E1 := Lib.hid (show maxQ p3 q3 = q3 from by unfold maxQ cmpQ; grind)
            have E2 := Lib.hid (show minQ p4 q4 = p4 from by unfold minQ cmpQ; grind)
            have HO := Lib.hid (show maxQ p3 q3 ≤ minQ p4 q4 from by rw [E1.out, E2.out]; grind)
            clear h1 h2 h3
            go_upto_region 10 with (fail)
            refine wp_seq [] (by kernel_rfl) (by kernel_rfl) Reg.fin_no (StR.no HS206) ?_
            iterate 3 (refine Seq.pure rfl rfl (by intro w; go_simp; try rfl) ?_; simp only [Act.put, nA, nB, nC])
            refine Seq.loadAt rfl rfl rfl rfl (by repeat (first | exact mC | apply mT)) (n := 3) (cs' := RC q3) (Nat.le_of_ble_eq_true rfl) (by kernel_rfl) rfl ?_
            simp only [Act.put, nA, nB, nC]
            iterate 3 (refine Seq.pure rfl rfl (by intro w; go_simp; try rfl) ?_; simp only [Act.put, nA, nB, nC])
            refine Seq.loadAt rfl rfl rfl rfl (by repeat (first | exact mC | apply mT)) (n := 3) (cs' := RC p4) (Nat.le_of_ble_eq_true rfl) (by kernel_rfl) rfl ?_
            simp only [Act.put, nA, nB, nC]
            refine Seq.call rfl rfl rfl rfl (by kernel_rfl) (cmp_q (k := (1 * k + 0)) HT.out (Z_q3.out.more (by omega)) (Z_p4.out.more (by omega)) Cc.out (by omega)) ?_
            simp only [Act.put, nA, nB, nC]
            refine Seq.pure rfl rfl (by intro w; go_simp; try rfl) ?_
            simp only [Act.put, nA, nB, nC]
            refine Seq.done fun ws207 hws => ?_
            have HS207 := hws.st
            clear HS206 hws
            go_upto_region 12 with (fail)
            refine wp_seq_text [] (StR.no HS207) ?_
            refine Seq.pure (v := .int .i64 2) rfl rfl (by intro w; go_simp; try rfl) ?_
            simp only [Act.put, nA, nB, nC]
            refine Seq.pure rfl rfl (by intro w; go_simp; try rfl) ?_
            simp only [Act.put, nA, nB, nC]
            refine Seq.done fun ws208 hws => ?_
            have HS208 := hws.st
            clear HS207 hws
            go_wp2_with fail
            go_roundg 1
            case measure => rw [hgk]; decide
            case rel => exact (.inr (.inr (.inl ⟨rfl, rfl, HO0, HO, Lib.hid (by rw [E1.out, E2.out]; exact HS208)⟩)))
      · obtain ⟨va, hva, ra, ra'⟩ : ∃ v, cmpQ q3 p3 = v ∧ decide (v > 0) = false ∧ decide (0 < v) = false := ⟨_, rfl, decide_eq_false (fun h => absurd ((cmpQ_gt _ _).1 h) (by grind)), decide_eq_false (fun h => absurd ((cmpQ_gt _ _).1 h) (by grind))⟩
        have Ca := Lib.hid hva; clear hva
        go_upto_region 6 with (fail)
        refine wp_seq [] (by kernel_rfl) (by kernel_rfl) Reg.fin_no (StR.no HS203) ?_
        iterate 3 (refine Seq.pure rfl rfl (by intro w; go_simp; try rfl) ?_; simp only [Act.put, nA, nB, nC])
        refine Seq.loadAt rfl rfl rfl rfl (by repeat (first | exact mC | apply mT)) (n := 3) (cs' := RC q3) (Nat.le_of_ble_eq_true rfl) (by kernel_rfl) rfl ?_
        simp only [Act.put, nA, nB, nC]
        iterate 3 (refine Seq.pure rfl rfl (by intro w; go_simp; try rfl) ?_; simp only [Act.put, nA, nB, nC])
        refine Seq.loadAt rfl rfl rfl rfl (by repeat (first | exact mC | apply mT)) (n := 3) (cs' := RC p3) (Nat.le_of_ble_eq_true rfl) (by kernel_rfl) rfl ?_
        simp only [Act.put, nA, nB, nC]
        refine Seq.call rfl rfl rfl rfl (by kernel_rfl) (cmp_q (k := (1 * k + 0)) HT.out (Z_q3.out.more (by omega)) (Z_p3.out.more (by omega)) Ca.out (by omega)) ?_
        simp only [Act.put, nA, nB, nC]
        refine Seq.pure rfl rfl (by intro w; go_simp; try rfl) ?_
        simp only [Act.put, nA, nB, nC]
        refine Seq.done fun ws204 hws => ?_
        have HS204 := hws.st
        clear HS203 hws
        by_cases h2 : q4 < p4
        · obtain ⟨vb, hvb, rb⟩ : ∃ v, cmpQ q4 p4 = v ∧ decide (v < 0) = true := ⟨_, rfl, decide_eq_true ((cmpQ_lt _ _).2 (by grind))⟩
          have Cb := Lib.hid hvb; clear hvb
          go_upto_region 8 with (fail)
          refine wp_seq [] (by kernel_rfl) (by kernel_rfl) Reg.fin_no (StR.no HS204) ?_
          iterate 3 (refine Seq.pure rfl rfl (by intro w; go_simp; try rfl) ?_; simp only [Act.put, nA, nB, nC])
          refine Seq.loadAt rfl rfl rfl rfl (by repeat (first | exact mC | apply mT)) (n := 3) (cs' := RC q4) (Nat.le_of_ble_eq_true rfl) (by kernel_rfl) rfl ?_
          simp only [Act.put, nA, nB, nC]
          iterate 3 (refine Seq.pure rfl rfl (by intro w; go_simp; try rfl) ?_; simp only [Act.put, nA, nB, nC])
          refine Seq.loadAt rfl rfl rfl rfl (by repeat (first | exact mC | apply mT)) (n := 3) (cs' := RC p4) (Nat.le_of_ble_eq_true rfl) (by kernel_rfl) rfl ?_
          simp only [Act.put, nA, nB, nC]
          refine Seq.call rfl rfl rfl rfl (by kernel_rfl) (cmp_q (k := (1 * k + 0)) HT.out (Z_q4.out.more (by omega)) (Z_p4.out.more (by omega)) Cb.out (by omega)) ?_
          simp only [Act.put, nA, nB, nC]
          refine Seq.pure rfl rfl (by intro w; go_simp; try rfl) ?_
          simp only [Act.put, nA, nB, nC]
          refine Seq.done fun ws205 hws => ?_
          have HS205 := hws.st
          clear HS204 hws
          go_upto_region 9 with (fail)
          refine wp_seq [] (by kernel_rfl) (by kernel_rfl) (Reg.fin.put Reg.fin_no _ _) (StR.move (StR.no HS205)) ?_
          iterate 4 (refine Seq.pure rfl rfl (by intro w; go_simp; try rfl) ?_; simp only [Act.put, nA, nB, nC])
          refine Seq.loadAt rfl rfl rfl rfl (by repeat (first | exact mC | apply mT)) (n := 3) (cs' := RC q4) (Nat.le_of_ble_eq_true rfl) (by kernel_rfl) rfl ?_
          simp only [Act.put, nA, nB, nC]
          iterate 2 (refine Seq.pure rfl rfl (by intro w; go_simp; try rfl) ?_; simp only [Act.put, nA, nB, nC])
          refine Seq.storeAt (v := .agg (RC q4)) rfl rfl rfl rfl rfl (by repeat (first | exact rS | refine rN (by assumption) ?_)) (Nat.le_of_ble_eq_true rfl) (by show _ = some 3; kernel_rfl) (RC_one _) (cs' := PW (rt (maxQ p1 q1)) (rt (minQ p2 q2)) (rt p3) (rt q4) rz0 rz0) rfl ?_
          simp only [Act.put, nA, nB, nC]
          refine Seq.done fun ws206 hws => ?_
          have HS206 := hws.list1 (p := bk6) (by repeat (first | exact rS | refine rN (by assumption) ?_))
          clear HS205 hws
          by_cases h3 : q4 < p3
          · obtain ⟨vc, hvc, rc, rc'⟩ : ∃ v, cmpQ p3 q4 = v ∧ decide (v > 0) = true ∧ decide (0 < v) = true := ⟨_, rfl, decide_eq_true ((cmpQ_gt _ _).2 (by grind)), decide_eq_true ((cmpQ_gt _ _).2 (by grind))⟩
            have Cc := Lib.hid hvc; clear hvc
            have E1 := Lib.hid (show maxQ p3 q3 = p3 from by unfold maxQ cmpQ; grind)
            have E2 := Lib.hid (show minQ p4 q4 = q4 from by unfold minQ cmpQ; grind)
            have HR := Lib.hid (show Value.tuple #[.agg z18, .bool false] = mRQ p1 p2 p3 p4 p5 p6 q1 q2 q3 q4 q5 q6 from by unfold mRQ okQ; rw [if_neg]; simp only [decide_eq_true_eq]; intro hh; rw [E1.out, E2.out] at hh; grind)
            clear h1 h2 h3
            go_upto_region 10 with (fail)
            refine wp_seq [] (by kernel_rfl) (by kernel_rfl) Reg.fin_no (StR.no HS206) ?_
            iterate 3 (refine Seq.pure rfl rfl (by intro w; go_simp; try rfl) ?_; simp only [Act.put, nA, nB, nC])
            refine Seq.loadAt rfl rfl rfl rfl (by repeat (first | exact mC | apply mT)) (n := 3) (cs' := RC p3) (Nat.le_of_ble_eq_true rfl) (by kernel_rfl) rfl ?_
            simp only [Act.put, nA, nB, nC]
            iterate 3 (refine Seq.pure rfl rfl (by intro w; go_simp; try rfl) ?_; simp only [Act.put, nA, nB, nC])
            refine Seq.loadAt rfl rfl rfl rfl (by repeat (first | exact mC | apply mT)) (n := 3) (cs' := RC q4) (Nat.le_of_ble_eq_true rfl) (by kernel_rfl) rfl ?_
            simp only [Act.put, nA, nB, nC]
            refine Seq.call rfl rfl rfl rfl (by kernel_rfl) (cmp_q (k := (1 * k + 0)) HT.out (Z_p3.out.more (by omega)) (Z_q4.out.more (by omega)) Cc.out (by omega)) ?_
            simp only [Act.put, nA, nB, nC]
            refine Seq.pure rfl rfl (by intro w; go_simp; try rfl) ?_
            simp only [Act.put, nA, nB, nC]
            refine Seq.done fun ws207 hws => ?_
            have HS207 := hws.st
            clear HS206 hws
            go_upto_region 11 with (fail)
            have HPbk4 := HS207.f3
            refine wp_seq_text [] (StR.move (StR.no HPbk4)) ?_
            refine Seq.pure (v := .agg (PW rz0 rz0 rz0 rz0 rz0 rz0)) rfl rfl (by intro w; go_simp; try rfl) ?_
            simp only [Act.put, nA, nB, nC]
            refine Seq.store rfl rfl rfl rfl rfl (by repeat (first | exact rS | refine rN (by assumption) ?_)) (n := 18) rfl rfl (by kernel_rfl) (PW_one _ _ _ _ _ _) ?_
            simp only [Act.put, nA, nB, nC]
            refine Seq.pure rfl rfl (by intro w; go_simp; try rfl) ?_
            simp only [Act.put, nA, nB, nC]
            refine Seq.done fun ws208 hws => ?_
            have HS208 := hws.list1 (p := bk4) (by repeat (first | exact rS | refine rN (by assumption) ?_))
            clear HS207 hws HPbk4
            go_wp2_with fail
            exact ret_own2 rfl rfl rfl rfl HS208 (by repeat (first | exact mC | apply mT)) (n := 18) rfl (by kernel_rfl) ⟨congrArg Ending.returned HR.out, HS208.below⟩
          · obtain ⟨vc, hvc, rc, rc'⟩ : ∃ v, cmpQ p3 q4 = v ∧ decide (v > 0) = false ∧ decide (0 < v) = false := ⟨_, rfl, decide_eq_false (fun h => absurd ((cmpQ_gt _ _).1 h) (by grind)), decide_eq_false (fun h => absurd ((cmpQ_gt _ _).1 h) (by grind))⟩
            have Cc := Lib.hid hvc; clear hvc
            have E1 := Lib.hid (show maxQ p3 q3 = p3 from by unfold maxQ cmpQ; grind)
            have E2 := Lib.hid (show minQ p4 q4 = q4 from by unfold minQ cmpQ; grind)
            have HO := Lib.hid (show maxQ p3 q3 ≤ minQ p4 q4 from by rw [E1.out, E2.out]; grind)
            clear h1 h2 h3
            go_upto_region 10 with (fail)
            refine wp_seq [] (by kernel_rfl) (by kernel_rfl) Reg.fin_no (StR.no HS206) ?_
            iterate 3 (refine Seq.pure rfl rfl (by intro w; go_simp; try rfl) ?_; simp only [Act.put, nA, nB, nC])
            refine Seq.loadAt rfl rfl rfl rfl (by repeat (first | exact mC | apply mT)) (n := 3) (cs' := RC p3) (Nat.le_of_ble_eq_true rfl) (by kernel_rfl) rfl ?_
            simp only [Act.put, nA, nB, nC]
            iterate 3 (refine Seq.pure rfl rfl (by intro w; go_simp; try rfl) ?_; simp only [Act.put, nA, nB, nC])
            refine Seq.loadAt rfl rfl rfl rfl (by repeat (first | exact mC | apply mT)) (n := 3) (cs' := RC q4) (Nat.le_of_ble_eq_true rfl) (by kernel_rfl) rfl ?_
            simp only [Act.put, nA, nB, nC]
            refine Seq.call rfl rfl rfl rfl (by kernel_rfl) (cmp_q (k := (1 * k + 0)) HT.out (Z_p3.out.more (by omega)) (Z_q4.out.more (by omega)) Cc.out (by omega)) ?_
            simp only [Act.put, nA, nB, nC]
            refine Seq.pure rfl rfl (by intro w; go_simp; try rfl) ?_
            simp only [Act.put, nA, nB, nC]
            refine Seq.done fun ws207 hws => ?_
            have HS207 := hws.st
            clear HS206 hws
            go_upto_region 12 with (fail)
            refine wp_seq_text [] (StR.no HS207) ?_
            refine Seq.pure (v := .int .i64 2) rfl rfl (by intro w; go_simp; try rfl) ?_
            simp only [Act.put, nA, nB, nC]
            refine Seq.pure rfl rfl (by intro w; go_simp; try rfl) ?_
            simp only [Act.put, nA, nB, nC]
            refine Seq.done fun ws208 hws => ?_
            have HS208 := hws.st
            clear HS207 hws
            go_wp2_with fail
            go_roundg 1
            case measure => rw [hgk]; decide
            case rel => exact (.inr (.inr (.inl ⟨rfl, rfl, HO0, HO, Lib.hid (by rw [E1.out, E2.out]; exact HS208)⟩)))
        · obtain ⟨vb, hvb, rb⟩ : ∃ v, cmpQ q4 p4 = v ∧ decide (v < 0) = false := ⟨_, rfl, decide_eq_false (fun h => absurd ((cmpQ_lt _ _).1 h) (by grind))⟩
          have Cb := Lib.hid hvb; clear hvb
          go_upto_region 8 with (fail)
          refine wp_seq [] (by kernel_rfl) (by kernel_rfl) Reg.fin_no (StR.no HS204) ?_
          iterate 3 (refine Seq.pure rfl rfl (by intro w; go_simp; try rfl) ?_; simp only [Act.put, nA, nB, nC])
          refine Seq.loadAt rfl rfl rfl rfl (by repeat (first | exact mC | apply mT)) (n := 3) (cs' := RC q4) (Nat.le_of_ble_eq_true rfl) (by kernel_rfl) rfl ?_
          simp only [Act.put, nA, nB, nC]
          iterate 3 (refine Seq.pure rfl rfl (by intro w; go_simp; try rfl) ?_; simp only [Act.put, nA, nB, nC])
          refine Seq.loadAt rfl rfl rfl rfl (by repeat (first | exact mC | apply mT)) (n := 3) (cs' := RC p4) (Nat.le_of_ble_eq_true rfl) (by kernel_rfl) rfl ?_
          simp only [Act.put, nA, nB, nC]
          refine Seq.call rfl rfl rfl rfl (by kernel_rfl) (cmp_q (k := (1 * k + 0)) HT.out (Z_q4.out.more (by omega)) (Z_p4.out.more (by omega)) Cb.out (by omega)) ?_
          simp only [Act.put, nA, nB, nC]
          refine Seq.pure rfl rfl (by intro w; go_simp; try rfl) ?_
          simp only [Act.put, nA, nB, nC]
          refine Seq.done fun ws205 hws => ?_
          have HS205 := hws.st
          clear HS204 hws
          by_cases h3 : p4 < p3
          · obtain ⟨vc, hvc, rc, rc'⟩ : ∃ v, cmpQ p3 p4 = v ∧ decide (v > 0) = true ∧ decide (0 < v) = true := ⟨_, rfl, decide_eq_true ((cmpQ_gt _ _).2 (by grind)), decide_eq_true ((cmpQ_gt _ _).2 (by grind))⟩
            have Cc := Lib.hid hvc; clear hvc
            have E1 := Lib.hid (show maxQ p3 q3 = p3 from by unfold maxQ cmpQ; grind)
            have E2 := Lib.hid (show minQ p4 q4 = p4 from by unfold minQ cmpQ; grind)
            have HR := Lib.hid (show Value.tuple #[.agg z18, .bool false] = mRQ p1 p2 p3 p4 p5 p6 q1 q2 q3 q4 q5 q6 from by unfold mRQ okQ; rw [if_neg]; simp only [decide_eq_true_eq]; intro hh; rw [E1.out, E2.out] at hh; grind)
            clear h1 h2 h3
            go_upto_region 10 with (fail)
            refine wp_seq [] (by kernel_rfl) (by kernel_rfl) Reg.fin_no (StR.no HS205) ?_
            iterate 3 (refine Seq.pure rfl rfl (by intro w; go_simp; try rfl) ?_; simp only [Act.put, nA, nB, nC])
            refine Seq.loadAt rfl rfl rfl rfl (by repeat (first | exact mC | apply mT)) (n := 3) (cs' := RC p3) (Nat.le_of_ble_eq_true rfl) (by kernel_rfl) rfl ?_
            simp only [Act.put, nA, nB, nC]
            iterate 3 (refine Seq.pure rfl rfl (by intro w; go_simp; try rfl) ?_; simp only [Act.put, nA, nB, nC])
            refine Seq.loadAt rfl rfl rfl rfl (by repeat (first | exact mC | apply mT)) (n := 3) (cs' := RC p4) (Nat.le_of_ble_eq_true rfl) (by kernel_rfl) rfl ?_
            simp only [Act.put, nA, nB, nC]
            refine Seq.call rfl rfl rfl rfl (by kernel_rfl) (cmp_q (k := (1 * k + 0)) HT.out (Z_p3.out.more (by omega)) (Z_p4.out.more (by omega)) Cc.out (by omega)) ?_
            simp only [Act.put, nA, nB, nC]
            refine Seq.pure rfl rfl (by intro w; go_simp; try rfl) ?_
            simp only [Act.put, nA, nB, nC]
            refine Seq.done fun ws206 hws => ?_
            have HS206 := hws.st
            clear HS205 hws
            go_upto_region 11 with (fail)
            have HPbk4 := HS206.f3
            refine wp_seq_text [] (StR.move (StR.no HPbk4)) ?_
            refine Seq.pure (v := .agg (PW rz0 rz0 rz0 rz0 rz0 rz0)) rfl rfl (by intro w; go_simp; try rfl) ?_
            simp only [Act.put, nA, nB, nC]
            refine Seq.store rfl rfl rfl rfl rfl (by repeat (first | exact rS | refine rN (by assumption) ?_)) (n := 18) rfl rfl (by kernel_rfl) (PW_one _ _ _ _ _ _) ?_
            simp only [Act.put, nA, nB, nC]
            refine Seq.pure rfl rfl (by intro w; go_simp; try rfl) ?_
            simp only [Act.put, nA, nB, nC]
            refine Seq.done fun ws207 hws => ?_
            have HS207 := hws.list1 (p := bk4) (by repeat (first | exact rS | refine rN (by assumption) ?_))
            clear HS206 hws HPbk4
            go_wp2_with fail
            exact ret_own2 rfl rfl rfl rfl HS207 (by repeat (first | exact mC | apply mT)) (n := 18) rfl (by kernel_rfl) ⟨congrArg Ending.returned HR.out, HS207.below⟩
          · obtain ⟨vc, hvc, rc, rc'⟩ : ∃ v, cmpQ p3 p4 = v ∧ decide (v > 0) = false ∧ decide (0 < v) = false := ⟨_, rfl, decide_eq_false (fun h => absurd ((cmpQ_gt _ _).1 h) (by grind)), decide_eq_false (fun h => absurd ((cmpQ_gt _ _).1 h) (by grind))⟩
            have Cc := Lib.hid hvc; clear hvc
            have E1 := Lib.hid (show maxQ p3 q3 = p3 from by unfold maxQ cmpQ; grind)
            have E2 := Lib.hid (show minQ p4 q4 = p4 from by unfold minQ cmpQ; grind)
            have HO := Lib.hid (show maxQ p3 q3 ≤ minQ p4 q4 from by rw [E1.out, E2.out]; grind)
            clear h1 h2 h3
            go_upto_region 10 with (fail)
            refine wp_seq [] (by kernel_rfl) (by kernel_rfl) Reg.fin_no (StR.no HS205) ?_
            iterate 3 (refine Seq.pure rfl rfl (by intro w; go_simp; try rfl) ?_; simp only [Act.put, nA, nB, nC])
            refine Seq.loadAt rfl rfl rfl rfl (by repeat (first | exact mC | apply mT)) (n := 3) (cs' := RC p3) (Nat.le_of_ble_eq_true rfl) (by kernel_rfl) rfl ?_
            simp only [Act.put, nA, nB, nC]
            iterate 3 (refine Seq.pure rfl rfl (by intro w; go_simp; try rfl) ?_; simp only [Act.put, nA, nB, nC])
            refine Seq.loadAt rfl rfl rfl rfl (by repeat (first | exact mC | apply mT)) (n := 3) (cs' := RC p4) (Nat.le_of_ble_eq_true rfl) (by kernel_rfl) rfl ?_
            simp only [Act.put, nA, nB, nC]
            refine Seq.call rfl rfl rfl rfl (by kernel_rfl) (cmp_q (k := (1 * k + 0)) HT.out (Z_p3.out.more (by omega)) (Z_p4.out.more (by omega)) Cc.out (by omega)) ?_
            simp only [Act.put, nA, nB, nC]
            refine Seq.pure rfl rfl (by intro w; go_simp; try rfl) ?_
            simp only [Act.put, nA, nB, nC]
            refine Seq.done fun ws206 hws => ?_
            have HS206 := hws.st
            clear HS205 hws
            go_upto_region 12 with (fail)
            refine wp_seq_text [] (StR.no HS206) ?_
            refine Seq.pure (v := .int .i64 2) rfl rfl (by intro w; go_simp; try rfl) ?_
            simp only [Act.put, nA, nB, nC]
            refine Seq.pure rfl rfl (by intro w; go_simp; try rfl) ?_
            simp only [Act.put, nA, nB, nC]
            refine Seq.done fun ws207 hws => ?_
            have HS207 := hws.st
            clear HS206 hws
            go_wp2_with fail
            go_roundg 1
            case measure => rw [hgk]; decide
            case rel => exact (.inr (.inr (.inl ⟨rfl, rfl, HO0, HO, Lib.hid (by rw [E1.out, E2.out]; exact HS207)⟩)))
    · have HS0 := hS.out
      clear hS
      go_upto_region 3 with (fail)
      refine wp_seq_text [] (StR.no HS0) ?_
      refine Seq.pure rfl rfl (by intro w; go_simp; try rfl) ?_
      simp only [Act.put, nA, nB, nC]
      refine Seq.done fun ws301 hws => ?_
      have HS301 := hws.st
      clear HS0 hws
      go_upto_region 4 with (fail)
      refine wp_seq_text [] (StR.no HS301) ?_
      iterate 2 (refine Seq.pure rfl rfl (by intro w; go_simp; try rfl) ?_; simp only [Act.put, nA, nB, nC])
      refine Seq.done fun ws302 hws => ?_
      have HS302 := hws.st
      clear HS301 hws
      go_upto_region 5 with (fail)
      refine wp_seq [] (by kernel_rfl) (by kernel_rfl) (Reg.fin.put Reg.fin_no _ _) (StR.move (StR.no HS302)) ?_
      iterate 4 (refine Seq.pure rfl rfl (by intro w; go_simp; try rfl) ?_; simp only [Act.put, nA, nB, nC])
      refine Seq.loadAt rfl rfl rfl rfl (by repeat (first | exact mC | apply mT)) (n := 3) (cs' := RC p5) (Nat.le_of_ble_eq_true rfl) (by kernel_rfl) rfl ?_
      simp only [Act.put, nA, nB, nC]
      iterate 3 (refine Seq.pure rfl rfl (by intro w; go_simp; try rfl) ?_; simp only [Act.put, nA, nB, nC])
      refine Seq.loadAt rfl rfl rfl rfl (by repeat (first | exact mC | apply mT)) (n := 3) (cs' := RC p6) (Nat.le_of_ble_eq_true rfl) (by kernel_rfl) rfl ?_
      simp only [Act.put, nA, nB, nC]
      refine Seq.pure (v := .agg (VC p5 p6)) rfl rfl (fun w => bld_RSpan (x := (rt p5)) (y := (rt p6)) rfl rfl rfl w) ?_
      simp only [Act.put, nA, nB, nC]
      refine Seq.pure rfl rfl (by intro w; go_simp; try rfl) ?_
      simp only [Act.put, nA, nB, nC]
      refine Seq.storeAt (v := .agg (VC p5 p6)) rfl rfl rfl rfl rfl (by repeat (first | exact rS | refine rN (by assumption) ?_)) (Nat.le_of_ble_eq_true rfl) (by show _ = some 6; kernel_rfl) (VC_one _ _) (cs' := PW (rt (maxQ p1 q1)) (rt (minQ p2 q2)) (rt (maxQ p3 q3)) (rt (minQ p4 q4)) (rt p5) (rt p6)) rfl ?_
      simp only [Act.put, nA, nB, nC]
      refine Seq.done fun ws303 hws => ?_
      have HS303 := hws.list1 (p := bk6) (by repeat (first | exact rS | refine rN (by assumption) ?_))
      clear HS302 hws
      by_cases h1 : p5 < q5
      · obtain ⟨va, hva, ra, ra'⟩ : ∃ v, cmpQ q5 p5 = v ∧ decide (v > 0) = true ∧ decide (0 < v) = true := ⟨_, rfl, decide_eq_true ((cmpQ_gt _ _).2 (by grind)), decide_eq_true ((cmpQ_gt _ _).2 (by grind))⟩
        have Ca := Lib.hid hva; clear hva
        go_upto_region 6 with (fail)
        refine wp_seq [] (by kernel_rfl) (by kernel_rfl) Reg.fin_no (StR.no HS303) ?_
        iterate 3 (refine Seq.pure rfl rfl (by intro w; go_simp; try rfl) ?_; simp only [Act.put, nA, nB, nC])
        refine Seq.loadAt rfl rfl rfl rfl (by repeat (first | exact mC | apply mT)) (n := 3) (cs' := RC q5) (Nat.le_of_ble_eq_true rfl) (by kernel_rfl) rfl ?_
        simp only [Act.put, nA, nB, nC]
        iterate 3 (refine Seq.pure rfl rfl (by intro w; go_simp; try rfl) ?_; simp only [Act.put, nA, nB, nC])
        refine Seq.loadAt rfl rfl rfl rfl (by repeat (first | exact mC | apply mT)) (n := 3) (cs' := RC p5) (Nat.le_of_ble_eq_true rfl) (by kernel_rfl) rfl ?_
        simp only [Act.put, nA, nB, nC]
        refine Seq.call rfl rfl rfl rfl (by kernel_rfl) (cmp_q (k := (1 * k + 0)) HT.out (Z_q5.out.more (by omega)) (Z_p5.out.more (by omega)) Ca.out (by omega)) ?_
        simp only [Act.put, nA, nB, nC]
        refine Seq.pure rfl rfl (by intro w; go_simp; try rfl) ?_
        simp only [Act.put, nA, nB, nC]
        refine Seq.done fun ws304 hws => ?_
        have HS304 := hws.st
        clear HS303 hws
        go_upto_region 7 with (fail)
        refine wp_seq [] (by kernel_rfl) (by kernel_rfl) (Reg.fin.put Reg.fin_no _ _) (StR.move (StR.no HS304)) ?_
        iterate 4 (refine Seq.pure rfl rfl (by intro w; go_simp; try rfl) ?_; simp only [Act.put, nA, nB, nC])
        refine Seq.loadAt rfl rfl rfl rfl (by repeat (first | exact mC | apply mT)) (n := 3) (cs' := RC q5) (Nat.le_of_ble_eq_true rfl) (by kernel_rfl) rfl ?_
        simp only [Act.put, nA, nB, nC]
        iterate 2 (refine Seq.pure rfl rfl (by intro w; go_simp; try rfl) ?_; simp only [Act.put, nA, nB, nC])
        refine Seq.storeAt (v := .agg (RC q5)) rfl rfl rfl rfl rfl (by repeat (first | exact rS | refine rN (by assumption) ?_)) (Nat.le_of_ble_eq_true rfl) (by show _ = some 3; kernel_rfl) (RC_one _) (cs' := PW (rt (maxQ p1 q1)) (rt (minQ p2 q2)) (rt (maxQ p3 q3)) (rt (minQ p4 q4)) (rt q5) (rt p6)) rfl ?_
        simp only [Act.put, nA, nB, nC]
        refine Seq.done fun ws305 hws => ?_
        have HS305 := hws.list1 (p := bk6) (by repeat (first | exact rS | refine rN (by assumption) ?_))
        clear HS304 hws
        by_cases h2 : q6 < p6
        · obtain ⟨vb, hvb, rb⟩ : ∃ v, cmpQ q6 p6 = v ∧ decide (v < 0) = true := ⟨_, rfl, decide_eq_true ((cmpQ_lt _ _).2 (by grind))⟩
          have Cb := Lib.hid hvb; clear hvb
          go_upto_region 8 with (fail)
          refine wp_seq [] (by kernel_rfl) (by kernel_rfl) Reg.fin_no (StR.no HS305) ?_
          iterate 3 (refine Seq.pure rfl rfl (by intro w; go_simp; try rfl) ?_; simp only [Act.put, nA, nB, nC])
          refine Seq.loadAt rfl rfl rfl rfl (by repeat (first | exact mC | apply mT)) (n := 3) (cs' := RC q6) (Nat.le_of_ble_eq_true rfl) (by kernel_rfl) rfl ?_
          simp only [Act.put, nA, nB, nC]
          iterate 3 (refine Seq.pure rfl rfl (by intro w; go_simp; try rfl) ?_; simp only [Act.put, nA, nB, nC])
          refine Seq.loadAt rfl rfl rfl rfl (by repeat (first | exact mC | apply mT)) (n := 3) (cs' := RC p6) (Nat.le_of_ble_eq_true rfl) (by kernel_rfl) rfl ?_
          simp only [Act.put, nA, nB, nC]
          refine Seq.call rfl rfl rfl rfl (by kernel_rfl) (cmp_q (k := (1 * k + 0)) HT.out (Z_q6.out.more (by omega)) (Z_p6.out.more (by omega)) Cb.out (by omega)) ?_
          simp only [Act.put, nA, nB, nC]
          refine Seq.pure rfl rfl (by intro w; go_simp; try rfl) ?_
          simp only [Act.put, nA, nB, nC]
          refine Seq.done fun ws306 hws => ?_
          have HS306 := hws.st
          clear HS305 hws
          go_upto_region 9 with (fail)
          refine wp_seq [] (by kernel_rfl) (by kernel_rfl) (Reg.fin.put Reg.fin_no _ _) (StR.move (StR.no HS306)) ?_
          iterate 4 (refine Seq.pure rfl rfl (by intro w; go_simp; try rfl) ?_; simp only [Act.put, nA, nB, nC])
          refine Seq.loadAt rfl rfl rfl rfl (by repeat (first | exact mC | apply mT)) (n := 3) (cs' := RC q6) (Nat.le_of_ble_eq_true rfl) (by kernel_rfl) rfl ?_
          simp only [Act.put, nA, nB, nC]
          iterate 2 (refine Seq.pure rfl rfl (by intro w; go_simp; try rfl) ?_; simp only [Act.put, nA, nB, nC])
          refine Seq.storeAt (v := .agg (RC q6)) rfl rfl rfl rfl rfl (by repeat (first | exact rS | refine rN (by assumption) ?_)) (Nat.le_of_ble_eq_true rfl) (by show _ = some 3; kernel_rfl) (RC_one _) (cs' := PW (rt (maxQ p1 q1)) (rt (minQ p2 q2)) (rt (maxQ p3 q3)) (rt (minQ p4 q4)) (rt q5) (rt q6)) rfl ?_
          simp only [Act.put, nA, nB, nC]
          refine Seq.done fun ws307 hws => ?_
          have HS307 := hws.list1 (p := bk6) (by repeat (first | exact rS | refine rN (by assumption) ?_))
          clear HS306 hws
          by_cases h3 : q6 < q5
          · obtain ⟨vc, hvc, rc, rc'⟩ : ∃ v, cmpQ q5 q6 = v ∧ decide (v > 0) = true ∧ decide (0 < v) = true := ⟨_, rfl, decide_eq_true ((cmpQ_gt _ _).2 (by grind)), decide_eq_true ((cmpQ_gt _ _).2 (by grind))⟩
            have Cc := Lib.hid hvc; clear hvc
            have E1 := Lib.hid (show maxQ p5 q5 = q5 from by unfold maxQ cmpQ; grind)
            have E2 := Lib.hid (show minQ p6 q6 = q6 from by unfold minQ cmpQ; grind)
            have HR := Lib.hid (show Value.tuple #[.agg z18, .bool false] = mRQ p1 p2 p3 p4 p5 p6 q1 q2 q3 q4 q5 q6 from by unfold mRQ okQ; rw [if_neg]; simp only [decide_eq_true_eq]; intro hh; rw [E1.out, E2.out] at hh; grind)
            clear h1 h2 h3
            go_upto_region 10 with (fail)
            refine wp_seq [] (by kernel_rfl) (by kernel_rfl) Reg.fin_no (StR.no HS307) ?_
            iterate 3 (refine Seq.pure rfl rfl (by intro w; go_simp; try rfl) ?_; simp only [Act.put, nA, nB, nC])
            refine Seq.loadAt rfl rfl rfl rfl (by repeat (first | exact mC | apply mT)) (n := 3) (cs' := RC q5) (Nat.le_of_ble_eq_true rfl) (by kernel_rfl) rfl ?_
            simp only [Act.put, nA, nB, nC]
            iterate 3 (refine Seq.pure rfl rfl (by intro w; go_simp; try rfl) ?_; simp only [Act.put, nA, nB, nC])
            refine Seq.loadAt rfl rfl rfl rfl (by repeat (first | exact mC | apply mT)) (n := 3) (cs' := RC q6) (Nat.le_of_ble_eq_true rfl) (by kernel_rfl) rfl ?_
            simp only [Act.put, nA, nB, nC]
            refine Seq.call rfl rfl rfl rfl (by kernel_rfl) (cmp_q (k := (1 * k + 0)) HT.out (Z_q5.out.more (by omega)) (Z_q6.out.more (by omega)) Cc.out (by omega)) ?_
            simp only [Act.put, nA, nB, nC]
            refine Seq.pure rfl rfl (by intro w; go_simp; try rfl) ?_
            simp only [Act.put, nA, nB, nC]
            refine Seq.done fun ws308 hws => ?_
            have HS308 := hws.st
            clear HS307 hws
            go_upto_region 11 with (fail)
            have HPbk4 := HS308.f3
            refine wp_seq_text [] (StR.move (StR.no HPbk4)) ?_
            refine Seq.pure (v := .agg (PW rz0 rz0 rz0 rz0 rz0 rz0)) rfl rfl (by intro w; go_simp; try rfl) ?_
            simp only [Act.put, nA, nB, nC]
            refine Seq.store rfl rfl rfl rfl rfl (by repeat (first | exact rS | refine rN (by assumption) ?_)) (n := 18) rfl rfl (by kernel_rfl) (PW_one _ _ _ _ _ _) ?_
            simp only [Act.put, nA, nB, nC]
            refine Seq.pure rfl rfl (by intro w; go_simp; try rfl) ?_
            simp only [Act.put, nA, nB, nC]
            refine Seq.done fun ws309 hws => ?_
            have HS309 := hws.list1 (p := bk4) (by repeat (first | exact rS | refine rN (by assumption) ?_))
            clear HS308 hws HPbk4
            go_wp2_with fail
            exact ret_own2 rfl rfl rfl rfl HS309 (by repeat (first | exact mC | apply mT)) (n := 18) rfl (by kernel_rfl) ⟨congrArg Ending.returned HR.out, HS309.below⟩
          · obtain ⟨vc, hvc, rc, rc'⟩ : ∃ v, cmpQ q5 q6 = v ∧ decide (v > 0) = false ∧ decide (0 < v) = false := ⟨_, rfl, decide_eq_false (fun h => absurd ((cmpQ_gt _ _).1 h) (by grind)), decide_eq_false (fun h => absurd ((cmpQ_gt _ _).1 h) (by grind))⟩
            have Cc := Lib.hid hvc; clear hvc
            have E1 := Lib.hid (show maxQ p5 q5 = q5 from by unfold maxQ cmpQ; grind)
            have E2 := Lib.hid (show minQ p6 q6 = q6 from by unfold minQ cmpQ; grind)
            have HO := Lib.hid (show maxQ p5 q5 ≤ minQ p6 q6 from by rw [E1.out, E2.out]; grind)
            clear h1 h2 h3
            go_upto_region 10 with (fail)
            refine wp_seq [] (by kernel_rfl) (by kernel_rfl) Reg.fin_no (StR.no HS307) ?_
            iterate 3 (refine Seq.pure rfl rfl (by intro w; go_simp; try rfl) ?_; simp only [Act.put, nA, nB, nC])
            refine Seq.loadAt rfl rfl rfl rfl (by repeat (first | exact mC | apply mT)) (n := 3) (cs' := RC q5) (Nat.le_of_ble_eq_true rfl) (by kernel_rfl) rfl ?_
            simp only [Act.put, nA, nB, nC]
            iterate 3 (refine Seq.pure rfl rfl (by intro w; go_simp; try rfl) ?_; simp only [Act.put, nA, nB, nC])
            refine Seq.loadAt rfl rfl rfl rfl (by repeat (first | exact mC | apply mT)) (n := 3) (cs' := RC q6) (Nat.le_of_ble_eq_true rfl) (by kernel_rfl) rfl ?_
            simp only [Act.put, nA, nB, nC]
            refine Seq.call rfl rfl rfl rfl (by kernel_rfl) (cmp_q (k := (1 * k + 0)) HT.out (Z_q5.out.more (by omega)) (Z_q6.out.more (by omega)) Cc.out (by omega)) ?_
            simp only [Act.put, nA, nB, nC]
            refine Seq.pure rfl rfl (by intro w; go_simp; try rfl) ?_
            simp only [Act.put, nA, nB, nC]
            refine Seq.done fun ws308 hws => ?_
            have HS308 := hws.st
            clear HS307 hws
            go_upto_region 12 with (fail)
            refine wp_seq_text [] (StR.no HS308) ?_
            refine Seq.pure (v := .int .i64 3) rfl rfl (by intro w; go_simp; try rfl) ?_
            simp only [Act.put, nA, nB, nC]
            refine Seq.pure rfl rfl (by intro w; go_simp; try rfl) ?_
            simp only [Act.put, nA, nB, nC]
            refine Seq.done fun ws309 hws => ?_
            have HS309 := hws.st
            clear HS308 hws
            go_wp2_with fail
            go_roundg 0
            case measure => rw [hgk]; decide
            case rel => exact (.inr (.inr (.inr ⟨rfl, rfl, HO0, HO1, HO, Lib.hid (by rw [E1.out, E2.out]; exact HS309)⟩)))
        · obtain ⟨vb, hvb, rb⟩ : ∃ v, cmpQ q6 p6 = v ∧ decide (v < 0) = false := ⟨_, rfl, decide_eq_false (fun h => absurd ((cmpQ_lt _ _).1 h) (by grind))⟩
          have Cb := Lib.hid hvb; clear hvb
          go_upto_region 8 with (fail)
          refine wp_seq [] (by kernel_rfl) (by kernel_rfl) Reg.fin_no (StR.no HS305) ?_
          iterate 3 (refine Seq.pure rfl rfl (by intro w; go_simp; try rfl) ?_; simp only [Act.put, nA, nB, nC])
          refine Seq.loadAt rfl rfl rfl rfl (by repeat (first | exact mC | apply mT)) (n := 3) (cs' := RC q6) (Nat.le_of_ble_eq_true rfl) (by kernel_rfl) rfl ?_
          simp only [Act.put, nA, nB, nC]
          iterate 3 (refine Seq.pure rfl rfl (by intro w; go_simp; try rfl) ?_; simp only [Act.put, nA, nB, nC])
          refine Seq.loadAt rfl rfl rfl rfl (by repeat (first | exact mC | apply mT)) (n := 3) (cs' := RC p6) (Nat.le_of_ble_eq_true rfl) (by kernel_rfl) rfl ?_
          simp only [Act.put, nA, nB, nC]
          refine Seq.call rfl rfl rfl rfl (by kernel_rfl) (cmp_q (k := (1 * k + 0)) HT.out (Z_q6.out.more (by omega)) (Z_p6.out.more (by omega)) Cb.out (by omega)) ?_
          simp only [Act.put, nA, nB, nC]
          refine Seq.pure rfl rfl (by intro w; go_simp; try rfl) ?_
          simp only [Act.put, nA, nB, nC]
          refine Seq.done fun ws306 hws => ?_
          have HS306 := hws.st
          clear HS305 hws
          by_cases h3 : p6 < q5
          · obtain ⟨vc, hvc, rc, rc'⟩ : ∃ v, cmpQ q5 p6 = v ∧ decide (v > 0) = true ∧ decide (0 < v) = true := ⟨_, rfl, decide_eq_true ((cmpQ_gt _ _).2 (by grind)), decide_eq_true ((cmpQ_gt _ _).2 (by grind))⟩
            have Cc := Lib.hid hvc; clear hvc
            have E1 := Lib.hid (show maxQ p5 q5 = q5 from by unfold maxQ cmpQ; grind)
            have E2 := Lib.hid (show minQ p6 q6 = p6 from by unfold minQ cmpQ; grind)
            have HR := Lib.hid (show Value.tuple #[.agg z18, .bool false] = mRQ p1 p2 p3 p4 p5 p6 q1 q2 q3 q4 q5 q6 from by unfold mRQ okQ; rw [if_neg]; simp only [decide_eq_true_eq]; intro hh; rw [E1.out, E2.out] at hh; grind)
            clear h1 h2 h3
            go_upto_region 10 with (fail)
            refine wp_seq [] (by kernel_rfl) (by kernel_rfl) Reg.fin_no (StR.no HS306) ?_
            iterate 3 (refine Seq.pure rfl rfl (by intro w; go_simp; try rfl) ?_; simp only [Act.put, nA, nB, nC])
            refine Seq.loadAt rfl rfl rfl rfl (by repeat (first | exact mC | apply mT)) (n := 3) (cs' := RC q5) (Nat.le_of_ble_eq_true rfl) (by kernel_rfl) rfl ?_
            simp only [Act.put, nA, nB, nC]
            iterate 3 (refine Seq.pure rfl rfl (by intro w; go_simp; try rfl) ?_; simp only [Act.put, nA, nB, nC])
            refine Seq.loadAt rfl rfl rfl rfl (by repeat (first | exact mC | apply mT)) (n := 3) (cs' := RC p6) (Nat.le_of_ble_eq_true rfl) (by kernel_rfl) rfl ?_
            simp only [Act.put, nA, nB, nC]
            refine Seq.call rfl rfl rfl rfl (by kernel_rfl) (cmp_q (k := (1 * k + 0)) HT.out (Z_q5.out.more (by omega)) (Z_p6.out.more (by omega)) Cc.out (by omega)) ?_
            simp only [Act.put, nA, nB, nC]
            refine Seq.pure rfl rfl (by intro w; go_simp; try rfl) ?_
            simp only [Act.put, nA, nB, nC]
            refine Seq.done fun ws307 hws => ?_
            have HS307 := hws.st
            clear HS306 hws
            go_upto_region 11 with (fail)
            have HPbk4 := HS307.f3
            refine wp_seq_text [] (StR.move (StR.no HPbk4)) ?_
            refine Seq.pure (v := .agg (PW rz0 rz0 rz0 rz0 rz0 rz0)) rfl rfl (by intro w; go_simp; try rfl) ?_
            simp only [Act.put, nA, nB, nC]
            refine Seq.store rfl rfl rfl rfl rfl (by repeat (first | exact rS | refine rN (by assumption) ?_)) (n := 18) rfl rfl (by kernel_rfl) (PW_one _ _ _ _ _ _) ?_
            simp only [Act.put, nA, nB, nC]
            refine Seq.pure rfl rfl (by intro w; go_simp; try rfl) ?_
            simp only [Act.put, nA, nB, nC]
            refine Seq.done fun ws308 hws => ?_
            have HS308 := hws.list1 (p := bk4) (by repeat (first | exact rS | refine rN (by assumption) ?_))
            clear HS307 hws HPbk4
            go_wp2_with fail
            exact ret_own2 rfl rfl rfl rfl HS308 (by repeat (first | exact mC | apply mT)) (n := 18) rfl (by kernel_rfl) ⟨congrArg Ending.returned HR.out, HS308.below⟩
          · obtain ⟨vc, hvc, rc, rc'⟩ : ∃ v, cmpQ q5 p6 = v ∧ decide (v > 0) = false ∧ decide (0 < v) = false := ⟨_, rfl, decide_eq_false (fun h => absurd ((cmpQ_gt _ _).1 h) (by grind)), decide_eq_false (fun h => absurd ((cmpQ_gt _ _).1 h) (by grind))⟩
            have Cc := Lib.hid hvc; clear hvc
            have E1 := Lib.hid (show maxQ p5 q5 = q5 from by unfold maxQ cmpQ; grind)
            have E2 := Lib.hid (show minQ p6 q6 = p6 from by unfold minQ cmpQ; grind)
            have HO := Lib.hid (show maxQ p5 q5 ≤ minQ p6 q6 from by rw [E1.out, E2.out]; grind)
            clear h1 h2 h3
            go_upto_region 10 with (fail)
            refine wp_seq [] (by kernel_rfl) (by kernel_rfl) Reg.fin_no (StR.no HS306) ?_
            iterate 3 (refine Seq.pure rfl rfl (by intro w; go_simp; try rfl) ?_; simp only [Act.put, nA, nB, nC])
            refine Seq.loadAt rfl rfl rfl rfl (by repeat (first | exact mC | apply mT)) (n := 3) (cs' := RC q5) (Nat.le_of_ble_eq_true rfl) (by kernel_rfl) rfl ?_
            simp only [Act.put, nA, nB, nC]
            iterate 3 (refine Seq.pure rfl rfl (by intro w; go_simp; try rfl) ?_; simp only [Act.put, nA, nB, nC])
            refine Seq.loadAt rfl rfl rfl rfl (by repeat (first | exact mC | apply mT)) (n := 3) (cs' := RC p6) (Nat.le_of_ble_eq_true rfl) (by kernel_rfl) rfl ?_
            simp only [Act.put, nA, nB, nC]
            refine Seq.call rfl rfl rfl rfl (by kernel_rfl) (cmp_q (k := (1 * k + 0)) HT.out (Z_q5.out.more (by omega)) (Z_p6.out.more (by omega)) Cc.out (by omega)) ?_
            simp only [Act.put, nA, nB, nC]
            refine Seq.pure rfl rfl (by intro w; go_simp; try rfl) ?_
            simp only [Act.put, nA, nB, nC]
            refine Seq.done fun ws307 hws => ?_
            have HS307 := hws.st
            clear HS306 hws
            go_upto_region 12 with (fail)
            refine wp_seq_text [] (StR.no HS307) ?_
            refine Seq.pure (v := .int .i64 3) rfl rfl (by intro w; go_simp; try rfl) ?_
            simp only [Act.put, nA, nB, nC]
            refine Seq.pure rfl rfl (by intro w; go_simp; try rfl) ?_
            simp only [Act.put, nA, nB, nC]
            refine Seq.done fun ws308 hws => ?_
            have HS308 := hws.st
            clear HS307 hws
            go_wp2_with fail
            go_roundg 0
            case measure => rw [hgk]; decide
            case rel => exact (.inr (.inr (.inr ⟨rfl, rfl, HO0, HO1, HO, Lib.hid (by rw [E1.out, E2.out]; exact HS308)⟩)))
      · obtain ⟨va, hva, ra, ra'⟩ : ∃ v, cmpQ q5 p5 = v ∧ decide (v > 0) = false ∧ decide (0 < v) = false := ⟨_, rfl, decide_eq_false (fun h => absurd ((cmpQ_gt _ _).1 h) (by grind)), decide_eq_false (fun h => absurd ((cmpQ_gt _ _).1 h) (by grind))⟩
        have Ca := Lib.hid hva; clear hva
        go_upto_region 6 with (fail)
        refine wp_seq [] (by kernel_rfl) (by kernel_rfl) Reg.fin_no (StR.no HS303) ?_
        iterate 3 (refine Seq.pure rfl rfl (by intro w; go_simp; try rfl) ?_; simp only [Act.put, nA, nB, nC])
        refine Seq.loadAt rfl rfl rfl rfl (by repeat (first | exact mC | apply mT)) (n := 3) (cs' := RC q5) (Nat.le_of_ble_eq_true rfl) (by kernel_rfl) rfl ?_
        simp only [Act.put, nA, nB, nC]
        iterate 3 (refine Seq.pure rfl rfl (by intro w; go_simp; try rfl) ?_; simp only [Act.put, nA, nB, nC])
        refine Seq.loadAt rfl rfl rfl rfl (by repeat (first | exact mC | apply mT)) (n := 3) (cs' := RC p5) (Nat.le_of_ble_eq_true rfl) (by kernel_rfl) rfl ?_
        simp only [Act.put, nA, nB, nC]
        refine Seq.call rfl rfl rfl rfl (by kernel_rfl) (cmp_q (k := (1 * k + 0)) HT.out (Z_q5.out.more (by omega)) (Z_p5.out.more (by omega)) Ca.out (by omega)) ?_
        simp only [Act.put, nA, nB, nC]
        refine Seq.pure rfl rfl (by intro w; go_simp; try rfl) ?_
        simp only [Act.put, nA, nB, nC]
        refine Seq.done fun ws304 hws => ?_
        have HS304 := hws.st
        clear HS303 hws
        by_cases h2 : q6 < p6
        · obtain ⟨vb, hvb, rb⟩ : ∃ v, cmpQ q6 p6 = v ∧ decide (v < 0) = true := ⟨_, rfl, decide_eq_true ((cmpQ_lt _ _).2 (by grind))⟩
          have Cb := Lib.hid hvb; clear hvb
          go_upto_region 8 with (fail)
          refine wp_seq [] (by kernel_rfl) (by kernel_rfl) Reg.fin_no (StR.no HS304) ?_
          iterate 3 (refine Seq.pure rfl rfl (by intro w; go_simp; try rfl) ?_; simp only [Act.put, nA, nB, nC])
          refine Seq.loadAt rfl rfl rfl rfl (by repeat (first | exact mC | apply mT)) (n := 3) (cs' := RC q6) (Nat.le_of_ble_eq_true rfl) (by kernel_rfl) rfl ?_
          simp only [Act.put, nA, nB, nC]
          iterate 3 (refine Seq.pure rfl rfl (by intro w; go_simp; try rfl) ?_; simp only [Act.put, nA, nB, nC])
          refine Seq.loadAt rfl rfl rfl rfl (by repeat (first | exact mC | apply mT)) (n := 3) (cs' := RC p6) (Nat.le_of_ble_eq_true rfl) (by kernel_rfl) rfl ?_
          simp only [Act.put, nA, nB, nC]
          refine Seq.call rfl rfl rfl rfl (by kernel_rfl) (cmp_q (k := (1 * k + 0)) HT.out (Z_q6.out.more (by omega)) (Z_p6.out.more (by omega)) Cb.out (by omega)) ?_
          simp only [Act.put, nA, nB, nC]
          refine Seq.pure rfl rfl (by intro w; go_simp; try rfl) ?_
          simp only [Act.put, nA, nB, nC]
          refine Seq.done fun ws305 hws => ?_
          have HS305 := hws.st
          clear HS304 hws
          go_upto_region 9 with (fail)
          refine wp_seq [] (by kernel_rfl) (by kernel_rfl) (Reg.fin.put Reg.fin_no _ _) (StR.move (StR.no HS305)) ?_
          iterate 4 (refine Seq.pure rfl rfl (by intro w; go_simp; try rfl) ?_; simp only [Act.put, nA, nB, nC])
          refine Seq.loadAt rfl rfl rfl rfl (by repeat (first | exact mC | apply mT)) (n := 3) (cs' := RC q6) (Nat.le_of_ble_eq_true rfl) (by kernel_rfl) rfl ?_
          simp only [Act.put, nA, nB, nC]
          iterate 2 (refine Seq.pure rfl rfl (by intro w; go_simp; try rfl) ?_; simp only [Act.put, nA, nB, nC])
          refine Seq.storeAt (v := .agg (RC q6)) rfl rfl rfl rfl rfl (by repeat (first | exact rS | refine rN (by assumption) ?_)) (Nat.le_of_ble_eq_true rfl) (by show _ = some 3; kernel_rfl) (RC_one _) (cs' := PW (rt (maxQ p1 q1)) (rt (minQ p2 q2)) (rt (maxQ p3 q3)) (rt (minQ p4 q4)) (rt p5) (rt q6)) rfl ?_
          simp only [Act.put, nA, nB, nC]
          refine Seq.done fun ws306 hws => ?_
          have HS306 := hws.list1 (p := bk6) (by repeat (first | exact rS | refine rN (by assumption) ?_))
          clear HS305 hws
          by_cases h3 : q6 < p5
          · obtain ⟨vc, hvc, rc, rc'⟩ : ∃ v, cmpQ p5 q6 = v ∧ decide (v > 0) = true ∧ decide (0 < v) = true := ⟨_, rfl, decide_eq_true ((cmpQ_gt _ _).2 (by grind)), decide_eq_true ((cmpQ_gt _ _).2 (by grind))⟩
            have Cc := Lib.hid hvc; clear hvc
            have E1 := Lib.hid (show maxQ p5 q5 = p5 from by unfold maxQ cmpQ; grind)
            have E2 := Lib.hid (show minQ p6 q6 = q6 from by unfold minQ cmpQ; grind)
            have HR := Lib.hid (show Value.tuple #[.agg z18, .bool false] = mRQ p1 p2 p3 p4 p5 p6 q1 q2 q3 q4 q5 q6 from by unfold mRQ okQ; rw [if_neg]; simp only [decide_eq_true_eq]; intro hh; rw [E1.out, E2.out] at hh; grind)
            clear h1 h2 h3
            go_upto_region 10 with (fail)
            refine wp_seq [] (by kernel_rfl) (by kernel_rfl) Reg.fin_no (StR.no HS306) ?_
            iterate 3 (refine Seq.pure rfl rfl (by intro w; go_simp; try rfl) ?_; simp only [Act.put, nA, nB, nC])
            refine Seq.loadAt rfl rfl rfl rfl (by repeat (first | exact mC | apply mT)) (n := 3) (cs' := RC p5) (Nat.le_of_ble_eq_true rfl) (by kernel_rfl) rfl ?_
            simp only [Act.put, nA, nB, nC]
            iterate 3 (refine Seq.pure rfl rfl (by intro w; go_simp; try rfl) ?_; simp only [Act.put, nA, nB, nC])
            refine Seq.loadAt rfl rfl rfl rfl (by repeat (first | exact mC | apply mT)) (n := 3) (cs' := RC q6) (Nat.le_of_ble_eq_true rfl) (by kernel_rfl) rfl ?_
            simp only [Act.put, nA, nB, nC]
            refine Seq.call rfl rfl rfl rfl (by kernel_rfl) (cmp_q (k := (1 * k + 0)) HT.out (Z_p5.out.more (by omega)) (Z_q6.out.more (by omega)) Cc.out (by omega)) ?_
            simp only [Act.put, nA, nB, nC]
            refine Seq.pure rfl rfl (by intro w; go_simp; try rfl) ?_
            simp only [Act.put, nA, nB, nC]
            refine Seq.done fun ws307 hws => ?_
            have HS307 := hws.st
            clear HS306 hws
            go_upto_region 11 with (fail)
            have HPbk4 := HS307.f3
            refine wp_seq_text [] (StR.move (StR.no HPbk4)) ?_
            refine Seq.pure (v := .agg (PW rz0 rz0 rz0 rz0 rz0 rz0)) rfl rfl (by intro w; go_simp; try rfl) ?_
            simp only [Act.put, nA, nB, nC]
            refine Seq.store rfl rfl rfl rfl rfl (by repeat (first | exact rS | refine rN (by assumption) ?_)) (n := 18) rfl rfl (by kernel_rfl) (PW_one _ _ _ _ _ _) ?_
            simp only [Act.put, nA, nB, nC]
            refine Seq.pure rfl rfl (by intro w; go_simp; try rfl) ?_
            simp only [Act.put, nA, nB, nC]
            refine Seq.done fun ws308 hws => ?_
            have HS308 := hws.list1 (p := bk4) (by repeat (first | exact rS | refine rN (by assumption) ?_))
            clear HS307 hws HPbk4
            go_wp2_with fail
            exact ret_own2 rfl rfl rfl rfl HS308 (by repeat (first | exact mC | apply mT)) (n := 18) rfl (by kernel_rfl) ⟨congrArg Ending.returned HR.out, HS308.below⟩
          · obtain ⟨vc, hvc, rc, rc'⟩ : ∃ v, cmpQ p5 q6 = v ∧ decide (v > 0) = false ∧ decide (0 < v) = false := ⟨_, rfl, decide_eq_false (fun h => absurd ((cmpQ_gt _ _).1 h) (by grind)), decide_eq_false (fun h => absurd ((cmpQ_gt _ _).1 h) (by grind))⟩
            have Cc := Lib.hid hvc; clear hvc
            have E1 := Lib.hid (show maxQ p5 q5 = p5 from by unfold maxQ cmpQ; grind)
            have E2 := Lib.hid (show minQ p6 q6 = q6 from by unfold minQ cmpQ; grind)
            have HO := Lib.hid (show maxQ p5 q5 ≤ minQ p6 q6 from by rw [E1.out, E2.out]; grind)
            clear h1 h2 h3
            go_upto_region 10 with (fail)
            refine wp_seq [] (by kernel_rfl) (by kernel_rfl) Reg.fin_no (StR.no HS306) ?_
            iterate 3 (refine Seq.pure rfl rfl (by intro w; go_simp; try rfl) ?_; simp only [Act.put, nA, nB, nC])
            refine Seq.loadAt rfl rfl rfl rfl (by repeat (first | exact mC | apply mT)) (n := 3) (cs' := RC p5) (Nat.le_of_ble_eq_true rfl) (by kernel_rfl) rfl ?_
            simp only [Act.put, nA, nB, nC]
            iterate 3 (refine Seq.pure rfl rfl (by intro w; go_simp; try rfl) ?_; simp only [Act.put, nA, nB, nC])
            refine Seq.loadAt rfl rfl rfl rfl (by repeat (first | exact mC | apply mT)) (n := 3) (cs' := RC q6) (Nat.le_of_ble_eq_true rfl) (by kernel_rfl) rfl ?_
            simp only [Act.put, nA, nB, nC]
            refine Seq.call rfl rfl rfl rfl (by kernel_rfl) (cmp_q (k := (1 * k + 0)) HT.out (Z_p5.out.more (by omega)) (Z_q6.out.more (by omega)) Cc.out (by omega)) ?_
            simp only [Act.put, nA, nB, nC]
            refine Seq.pure rfl rfl (by intro w; go_simp; try rfl) ?_
            simp only [Act.put, nA, nB, nC]
            refine Seq.done fun ws307 hws => ?_
            have HS307 := hws.st
            clear HS306 hws
            go_upto_region 12 with (fail)
            refine wp_seq_text [] (StR.no HS307) ?_
            refine Seq.pure (v := .int .i64 3) rfl rfl (by intro w; go_simp; try rfl) ?_
            simp only [Act.put, nA, nB, nC]
            refine Seq.pure rfl rfl (by intro w; go_simp; try rfl) ?_
            simp only [Act.put, nA, nB, nC]
            refine Seq.done fun ws308 hws => ?_
            have HS308 := hws.st
            clear HS307 hws
            go_wp2_with fail
            go_roundg 0
            case measure => rw [hgk]; decide
            case rel => exact (.inr (.inr (.inr ⟨rfl, rfl, HO0, HO1, HO, Lib.hid (by rw [E1.out, E2.out]; exact HS308)⟩)))
        · obtain ⟨vb, hvb, rb⟩ : ∃ v, cmpQ q6 p6 = v ∧ decide (v < 0) = false := ⟨_, rfl, decide_eq_false (fun h => absurd ((cmpQ_lt _ _).1 h) (by grind))⟩
          have Cb := Lib.hid hvb; clear hvb
          go_upto_region 8 with (fail)
          refine wp_seq [] (by kernel_rfl) (by kernel_rfl) Reg.fin_no (StR.no HS304) ?_
          iterate 3 (refine Seq.pure rfl rfl (by intro w; go_simp; try rfl) ?_; simp only [Act.put, nA, nB, nC])
          refine Seq.loadAt rfl rfl rfl rfl (by repeat (first | exact mC | apply mT)) (n := 3) (cs' := RC q6) (Nat.le_of_ble_eq_true rfl) (by kernel_rfl) rfl ?_
          simp only [Act.put, nA, nB, nC]
          iterate 3 (refine Seq.pure rfl rfl (by intro w; go_simp; try rfl) ?_; simp only [Act.put, nA, nB, nC])
          refine Seq.loadAt rfl rfl rfl rfl (by repeat (first | exact mC | apply mT)) (n := 3) (cs' := RC p6) (Nat.le_of_ble_eq_true rfl) (by kernel_rfl) rfl ?_
          simp only [Act.put, nA, nB, nC]
          refine Seq.call rfl rfl rfl rfl (by kernel_rfl) (cmp_q (k := (1 * k + 0)) HT.out (Z_q6.out.more (by omega)) (Z_p6.out.more (by omega)) Cb.out (by omega)) ?_
          simp only [Act.put, nA, nB, nC]
          refine Seq.pure rfl rfl (by intro w; go_simp; try rfl) ?_
          simp only [Act.put, nA, nB, nC]
          refine Seq.done fun ws305 hws => ?_
          have HS305 := hws.st
          clear HS304 hws
          by_cases h3 : p6 < p5
          · obtain ⟨vc, hvc, rc, rc'⟩ : ∃ v, cmpQ p5 p6 = v ∧ decide (v > 0) = true ∧ decide (0 < v) = true := ⟨_, rfl, decide_eq_true ((cmpQ_gt _ _).2 (by grind)), decide_eq_true ((cmpQ_gt _ _).2 (by grind))⟩
            have Cc := Lib.hid hvc; clear hvc
            have E1 := Lib.hid (show maxQ p5 q5 = p5 from by unfold maxQ cmpQ; grind)
            have E2 := Lib.hid (show minQ p6 q6 = p6 from by unfold minQ cmpQ; grind)
            have HR := Lib.hid (show Value.tuple #[.agg z18, .bool false] = mRQ p1 p2 p3 p4 p5 p6 q1 q2 q3 q4 q5 q6 from by unfold mRQ okQ; rw [if_neg]; simp only [decide_eq_true_eq]; intro hh; rw [E1.out, E2.out] at hh; grind)
            clear h1 h2 h3
            go_upto_region 10 with (fail)
            refine wp_seq [] (by kernel_rfl) (by kernel_rfl) Reg.fin_no (StR.no HS305) ?_
            iterate 3 (refine Seq.pure rfl rfl (by intro w; go_simp; try rfl) ?_; simp only [Act.put, nA, nB, nC])
            refine Seq.loadAt rfl rfl rfl rfl (by repeat (first | exact mC | apply mT)) (n := 3) (cs' := RC p5) (Nat.le_of_ble_eq_true rfl) (by kernel_rfl) rfl ?_
            simp only [Act.put, nA, nB, nC]
            iterate 3 (refine Seq.pure rfl rfl (by intro w; go_simp; try rfl) ?_; simp only [Act.put, nA, nB, nC])
            refine Seq.loadAt rfl rfl rfl rfl (by repeat (first | exact mC | apply mT)) (n := 3) (cs' := RC p6) (Nat.le_of_ble_eq_true rfl) (by kernel_rfl) rfl ?_
            simp only [Act.put, nA, nB, nC]
            refine Seq.call rfl rfl rfl rfl (by kernel_rfl) (cmp_q (k := (1 * k + 0)) HT.out (Z_p5.out.more (by omega)) (Z_p6.out.more (by omega)) Cc.out (by omega)) ?_
            simp only [Act.put, nA, nB, nC]
            refine Seq.pure rfl rfl (by intro w; go_simp; try rfl) ?_
            simp only [Act.put, nA, nB, nC]
            refine Seq.done fun ws306 hws => ?_
            have HS306 := hws.st
            clear HS305 hws
            go_upto_region 11 with (fail)
            have HPbk4 := HS306.f3
            refine wp_seq_text [] (StR.move (StR.no HPbk4)) ?_
            refine Seq.pure (v := .agg (PW rz0 rz0 rz0 rz0 rz0 rz0)) rfl rfl (by intro w; go_simp; try rfl) ?_
            simp only [Act.put, nA, nB, nC]
            refine Seq.store rfl rfl rfl rfl rfl (by repeat (first | exact rS | refine rN (by assumption) ?_)) (n := 18) rfl rfl (by kernel_rfl) (PW_one _ _ _ _ _ _) ?_
            simp only [Act.put, nA, nB, nC]
            refine Seq.pure rfl rfl (by intro w; go_simp; try rfl) ?_
            simp only [Act.put, nA, nB, nC]
            refine Seq.done fun ws307 hws => ?_
            have HS307 := hws.list1 (p := bk4) (by repeat (first | exact rS | refine rN (by assumption) ?_))
            clear HS306 hws HPbk4
            go_wp2_with fail
            exact ret_own2 rfl rfl rfl rfl HS307 (by repeat (first | exact mC | apply mT)) (n := 18) rfl (by kernel_rfl) ⟨congrArg Ending.returned HR.out, HS307.below⟩
          · obtain ⟨vc, hvc, rc, rc'⟩ : ∃ v, cmpQ p5 p6 = v ∧ decide (v > 0) = false ∧ decide (0 < v) = false := ⟨_, rfl, decide_eq_false (fun h => absurd ((cmpQ_gt _ _).1 h) (by grind)), decide_eq_false (fun h => absurd ((cmpQ_gt _ _).1 h) (by grind))⟩
            have Cc := Lib.hid hvc; clear hvc
            have E1 := Lib.hid (show maxQ p5 q5 = p5 from by unfold maxQ cmpQ; grind)
            have E2 := Lib.hid (show minQ p6 q6 = p6 from by unfold minQ cmpQ; grind)
            have HO := Lib.hid (show maxQ p5 q5 ≤ minQ p6 q6 from by rw [E1.out, E2.out]; grind)
            clear h1 h2 h3
            go_upto_region 10 with (fail)
            refine wp_seq [] (by kernel_rfl) (by kernel_rfl) Reg.fin_no (StR.no HS305) ?_
            iterate 3 (refine Seq.pure rfl rfl (by intro w; go_simp; try rfl) ?_; simp only [Act.put, nA, nB, nC])
            refine Seq.loadAt rfl rfl rfl rfl (by repeat (first | exact mC | apply mT)) (n := 3) (cs' := RC p5) (Nat.le_of_ble_eq_true rfl) (by kernel_rfl) rfl ?_
            simp only [Act.put, nA, nB, nC]
            iterate 3 (refine Seq.pure rfl rfl (by intro w; go_simp; try rfl) ?_; simp only [Act.put, nA, nB, nC])
            refine Seq.loadAt rfl rfl rfl rfl (by repeat (first | exact mC | apply mT)) (n := 3) (cs' := RC p6) (Nat.le_of_ble_eq_true rfl) (by kernel_rfl) rfl ?_
            simp only [Act.put, nA, nB, nC]
            refine Seq.call rfl rfl rfl rfl (by kernel_rfl) (cmp_q (k := (1 * k + 0)) HT.out (Z_p5.out.more (by omega)) (Z_p6.out.more (by omega)) Cc.out (by omega)) ?_
            simp only [Act.put, nA, nB, nC]
            refine Seq.pure rfl rfl (by intro w; go_simp; try rfl) ?_
            simp only [Act.put, nA, nB, nC]
            refine Seq.done fun ws306 hws => ?_
            have HS306 := hws.st
            clear HS305 hws
            go_upto_region 12 with (fail)
            refine wp_seq_text [] (StR.no HS306) ?_
            refine Seq.pure (v := .int .i64 3) rfl rfl (by intro w; go_simp; try rfl) ?_
            simp only [Act.put, nA, nB, nC]
            refine Seq.pure rfl rfl (by intro w; go_simp; try rfl) ?_
            simp only [Act.put, nA, nB, nC]
            refine Seq.done fun ws307 hws => ?_
            have HS307 := hws.st
            clear HS306 hws
            go_wp2_with fail
            go_roundg 0
            case measure => rw [hgk]; decide
            case rel => exact (.inr (.inr (.inr ⟨rfl, rfl, HO0, HO1, HO, Lib.hid (by rw [E1.out, E2.out]; exact HS307)⟩)))
    · have HS0 := hS.out
      clear hS
      have HR := Lib.hid (show Value.tuple #[.agg (meQ p1 p2 p3 p4 p5 p6 q1 q2 q3 q4 q5 q6), .bool true] = mRQ p1 p2 p3 p4 p5 p6 q1 q2 q3 q4 q5 q6 from by unfold mRQ okQ; rw [if_pos]; simp only [decide_eq_true_eq]; exact ⟨HO0.out, HO1.out, HO2.out⟩)
      go_upto_region 3 with (fail)
      refine wp_seq_text [] (StR.no HS0) ?_
      refine Seq.pure rfl rfl (by intro w; go_simp; try rfl) ?_
      simp only [Act.put, nA, nB, nC]
      refine Seq.done fun ws401 hws => ?_
      have HS401 := hws.st
      clear HS0 hws
      go_upto_region 13 with (fail)
      have HPbk4 := HS401.f3
      refine wp_seq_text [] (StR.move (StR.no HPbk4)) ?_
      refine Seq.load rfl rfl rfl rfl (by repeat (first | exact mC | apply mT)) (n := 18) rfl (by kernel_rfl) ?_
      simp only [Act.put, nA, nB, nC]
      refine Seq.store rfl rfl rfl rfl rfl (by repeat (first | exact rS | refine rN (by assumption) ?_)) (n := 18) rfl rfl (by kernel_rfl) (PW_one _ _ _ _ _ _) ?_
      simp only [Act.put, nA, nB, nC]
      refine Seq.pure rfl rfl (by intro w; go_simp; try rfl) ?_
      simp only [Act.put, nA, nB, nC]
      refine Seq.done fun ws402 hws => ?_
      have HS402 := hws.list1 (p := bk4) (by repeat (first | exact rS | refine rN (by assumption) ?_))
      clear HS401 hws HPbk4
      go_wp2_with fail
      exact ret_own2 rfl rfl rfl rfl HS402 (by repeat (first | exact mC | apply mT)) (n := 18) rfl (by kernel_rfl) ⟨congrArg Ending.returned HR.out, HS402.below⟩
end Go.Proofs.YtdhhbpnnahdofaaDoor
