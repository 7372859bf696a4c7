/- Joined texts: Ap3 Ap4. -/
import Derived.Test.YtmchjmflkaiakaaGreatDoorAp2
import Derived.Deep.LoopGhost
/- package apart: Sq (printed by lawvec.py). -/
namespace Go.Proofs.YtmchjmflkaiakaaGreatDoor
open Go.RowKit
set_option linter.unusedVariables false
set_option linter.unusedSimpArgs false

set_option maxHeartbeats 4000000 in
set_option maxRecDepth 20000 in
theorem sq_t {k n m : Nat} {ps qs : Pts} {W : World} {l : List Own} (hT : Tab W) (hz : Pz k ps) (hl : ps.length = n) (hcv : 3 ≤ n ∧ n ≤ 64 ∧ Cvx ps) (hz2 : Pz k qs) (hl2 : qs.length = m) (hcv2 : 3 ≤ m ∧ m ≤ 64 ∧ Cvx qs) (hx : meetB ps qs = true) (hk : k ≤ 1000000) (g g2 : Nat) (w : World) (h : St W l w) (hg : Blk w g 29 (PC ps)) (hg2 : Blk w g2 29 (PC qs)) :
  Calls Tryz.prog 53 #[.slice (some ⟨g, 0, none⟩) n n, .slice (some ⟨g2, 0, none⟩) m m] w fun e w' => e = .returned (.tuple #[.agg (RC (sqQ ps qs)), .int .i64 0]) ∧ Below w.heap.size w w' := by
 have HSQ := Lib.hid (show sqQ ps qs = 0 from sq_zero hx)
 have HM := Lib.hid hx; clear hx
 have HT := Lib.hid (tabS hT h); clear hT h
 have HG := Lib.hid hg; clear hg
 have HL := Lib.hid hl; clear hl
 have HNZ := Lib.hid (show ¬ n = 0 by have := hcv.1; omega)
 have HZP := Lib.hid (show Pz (1 * k + 0) ps by rw [Nat.one_mul]; exact hz); clear hz
 have HG2 := Lib.hid hg2; clear hg2
 have HLQ := Lib.hid hl2; clear hl2
 have HZQ := Lib.hid (show Pz (1 * k + 0) qs by rw [Nat.one_mul]; exact hz2); clear hz2
 have HCV := Lib.hid hcv; clear hcv
 have HCQ := Lib.hid hcv2; clear hcv2
 go_enter Tryz.func53, Tryz.ntmps53
 have HS : St w [] w := St.start
 go_upto_region 0 with (fail)
 refine rgT [] HS ?_
 refine aL3 ?_
 intro bk4 _ _ hbk4_r
 refine nZ ?_
 refine pU ?_
 refine Seq.done fun ws1 hws => ?_
 have HS1 := hws.q1 (p := bk4)
 clear HS hws
 go_upto_region 1 with (fail)
 refine rgT [] HS1 ?_
 iterate 2 refine pU ?_
 refine cX rfl rfl (fun w h => meet_q2 (k := 1 * k + 0) HT.out HZP.out HL.out HCV.out HZQ.out HLQ.out HCQ.out HM.out (by omega) _ _ w h (h.came HG.out) (h.came HG2.out)) ?_
 refine pU ?_
 refine pV (.bool true) (fun w => rfl) ?_
 refine pV (.int .i64 0) (fun w => rfl) ?_
 iterate 2 refine pU ?_
 refine Seq.done fun ws2 hws => ?_
 have HS2 := hws.st
 clear HS1 hws
 go_upto_region 2 with (fail)
 refine rgT [] HS2 ?_
 iterate 2 refine pU ?_
 refine Seq.done fun ws3 hws => ?_
 have HS3 := hws.st
 clear HS2 hws
 go_upto_region 4 with (fail)
 refine rgT [] HS3 ?_
 refine pU ?_
 refine Seq.done fun ws4 hws => ?_
 have HS4 := hws.st
 clear HS3 hws
 go_upto_region 5 with (fail)
 refine wp_seq_text [] (StR.move (StR.no HS4)) ?_
 refine cX rfl rfl (of_q HT.out (by omega) (by omega) (show ((0 : Int) : Rat) = (0 : Rat) from rfl)) ?_
 refine sV (RC_one _) ?_
 refine pU ?_
 refine Seq.done fun ws5 hws => ?_
 have HS5 := hws.q1 (p := bk4)
 clear HS4 hws
 go_wp2_with fail
 exact ret_own2 rfl rfl rfl rfl HS5 (by repeat first|exact mC|apply mT) (n := 3) rfl (by kernel_rfl) ⟨by rw [HSQ.out]; rfl, HS5.below⟩
set_option maxHeartbeats 4000000 in
set_option maxRecDepth 20000 in
theorem sq_f {k n m : Nat} {ps qs : Pts} {W : World} {l : List Own} (hT : Tab W) (hz : Pz k ps) (hl : ps.length = n) (hcv : 3 ≤ n ∧ n ≤ 64 ∧ Cvx ps) (hz2 : Pz k qs) (hl2 : qs.length = m) (hcv2 : 3 ≤ m ∧ m ≤ 64 ∧ Cvx qs) (hx : meetB ps qs = false) (hk : k ≤ 1000000) (g g2 : Nat) (w : World) (h : St W l w) (hg : Blk w g 29 (PC ps)) (hg2 : Blk w g2 29 (PC qs)) :
  Calls Tryz.prog 53 #[.slice (some ⟨g, 0, none⟩) n n, .slice (some ⟨g2, 0, none⟩) m m] w fun e w' => e = .returned (.tuple #[.agg (RC (sqQ ps qs)), .int .i64 0]) ∧ Below w.heap.size w w' := by
 have hza := sqA_rz hz hz2 (by omega) (by omega)
 have hzb := fun v hv => sqB_rz (v := v) hz hz2 (by omega) (by omega) hv
 obtain ⟨sa, hsa⟩ : ∃ z, sqA ps qs n = z := ⟨_, rfl⟩
 have ZA := Lib.hid (show ∀ i, i ≤ n → Rz (96 * k + 27) (sqA ps qs i) from fun i hi => hza i (by omega))
 have ZB := Lib.hid (show ∀ j, j ≤ m → Rz (96 * k + 27) (sqB ps qs sa j) from fun j hj => hzb sa (hsa ▸ ZA.out n (Nat.le_refl _)) j (by omega))
 have HZA := Lib.hid (ZA.out 0 (by omega))
 have HSA0 := Lib.hid hsa
 have HPOS := Lib.hid (show 0 < n by omega)
 clear hza hzb hsa
 have HM := Lib.hid hx; clear hx
 have HT := Lib.hid (tabS hT h); clear hT h
 have HG := Lib.hid hg; clear hg
 have HL := Lib.hid hl; clear hl
 have HNZ := Lib.hid (show ¬ n = 0 by have := hcv.1; omega)
 have HZP := Lib.hid (show Pz (1 * k + 0) ps by rw [Nat.one_mul]; exact hz); clear hz
 have HG2 := Lib.hid hg2; clear hg2
 have HLQ := Lib.hid hl2; clear hl2
 have HZQ := Lib.hid (show Pz (1 * k + 0) qs by rw [Nat.one_mul]; exact hz2); clear hz2
 have HCV := Lib.hid hcv; clear hcv
 have HCQ := Lib.hid hcv2; clear hcv2
 go_enter Tryz.func53, Tryz.ntmps53
 have HS : St w [] w := St.start
 go_upto_region 0 with (fail)
 refine rgT [] HS ?_
 refine aL3 ?_
 intro bk4 _ _ hbk4_r
 refine nZ ?_
 refine pU ?_
 refine Seq.done fun ws1 hws => ?_
 have HS1 := hws.q1 (p := bk4)
 clear HS hws
 go_upto_region 1 with (fail)
 refine rgT [] HS1 ?_
 iterate 2 refine pU ?_
 refine cX rfl rfl (fun w h => meet_q2 (k := 1 * k + 0) HT.out HZP.out HL.out HCV.out HZQ.out HLQ.out HCQ.out HM.out (by omega) _ _ w h (h.came HG.out) (h.came HG2.out)) ?_
 refine pU ?_
 refine pV (.bool false) (fun w => rfl) ?_
 refine pV (.int .i64 0) (fun w => rfl) ?_
 iterate 2 refine pU ?_
 refine Seq.done fun ws2 hws => ?_
 have HS2 := hws.st
 clear HS1 hws
 go_upto_region 2 with (fail)
 refine rgT [] HS2 ?_
 iterate 2 refine pU ?_
 refine Seq.done fun ws3 hws => ?_
 have HS3 := hws.st
 clear HS2 hws
 go_upto_region 4 with (fail)
 refine rgT [] HS3 ?_
 refine pU ?_
 refine Seq.done fun ws4 hws => ?_
 have HS4 := hws.st
 clear HS3 hws
 go_upto_region 6 with (fail)
 refine rgT [] HS4 ?_
 refine pU ?_
 refine Seq.index (m := 6) 0 rfl rfl rfl rfl rfl (by kernel_rfl) rfl HPOS.out (nZ ?_)
 refine Seq.loadAtF rfl rfl rfl rfl HG.out (n := 6) (cs' := VC (px ps 0) (py ps 0)) (PC_room (lt_of_pts HL.out HPOS.out)) (by kernel_rfl) (PC_at (lt_of_pts HL.out HPOS.out)) (nZ ?_)
 refine pU ?_
 refine cX rfl rfl (fun w h => near_G (k := 1 * k + 0) HT.out HZQ.out HLQ.out HCQ.out ((HZP.out.x (lt_of_pts HL.out HPOS.out)).more (by omega)) ((HZP.out.y (lt_of_pts HL.out HPOS.out)).more (by omega)) rfl (by omega) _ w h (h.came HG2.out)) ?_
 refine aL3 ?_
 intro bk8 _ _ hbk8_r
 refine nZ ?_
 refine sV (RC_one _) ?_
 refine Seq.done fun ws5 hws => ?_
 have HS5 := hws.q1 (p := bk8)
 clear HS4 hws
 go_upto_region 7 with (fail)
 refine rgT [] HS5 ?_
 refine pU ?_
 refine pV (.int .i64 (n : Int)) (by intro w; go_simp; try rfl) ?_
 refine pU ?_
 refine Seq.done fun ws6 hws => ?_
 have HS6 := hws.st
 clear HS5 hws
 go_wp2_with fail
 go_loopg [32] n (fun kk s32 wr => ∃ i : Nat, kk = n - i ∧ s32 = .int .i64 (i : Int) ∧ i ≤ n ∧ Hid (St w [(bk8, 27, RC (sqA ps qs i)), (bk4, 27, #[.bool false, .string ⟨#[]⟩, .string ⟨#[]⟩])] wr))
 case atStart => exact ⟨0, rfl, rfl, by omega, Lib.hid HS6⟩
 case round =>
  obtain ⟨i, hgk, rfl, hin, hS⟩ := hrel
  have HGK := Lib.hid hgk; clear hgk
  have HR := hS.out; clear hS
  have HZA := Lib.hid (ZA.out i hin)
  by_cases hc : i < n
  ·obtain ⟨i1, hi1⟩ : ∃ i1 : Nat, i1 = i + 1 := ⟨_, rfl⟩
   have HI1 := Lib.hid (show IntKind.i64.wrap ((i : Int) + 1) = (i1 : Int) ∧ n - i1 < n - i ∧ i1 ≤ n from ⟨by have := HCV.out.2.1; rw [i64_s _ (by omega) (by omega)]; omega, by omega, by omega⟩)
   have HZA1 := Lib.hid (ZA.out i1 HI1.out.2.2)
   have HE := Lib.hid (show minQ (sqA ps qs i) (nearQ (px ps i) (py ps i) qs) = sqA ps qs i1 by rw [hi1]; rfl)
   have HC := Lib.hid hc
   clear hc hin hi1
   go_upto_region 8 with (fail)
   refine rgT [] HR ?_
   refine pV (.bool true) (by intro w; go_simp <;> (first | (rw [HC.out]; done) | exact HC.out | (simp [HC.out]; done) | (trace_state; done))) ?_
   refine Seq.done fun ws7 hws => ?_
   have HS7 := hws.st
   clear HR hws
   go_upto_region 9 with (fail)
   refine rgT [] HS7 ?_
   refine Seq.index (m := 6) i rfl rfl rfl rfl rfl (by kernel_rfl) rfl HC.out (nZ ?_)
   refine Seq.loadAtF rfl rfl rfl rfl HG.out (n := 6) (cs' := VC (px ps i) (py ps i)) (PC_room (lt_of_pts HL.out HC.out)) (by kernel_rfl) (PC_at (lt_of_pts HL.out HC.out)) (nZ ?_)
   refine aL6 ?_
   intro bk10 _ _ hbk10_r
   refine nZ ?_
   refine sV (VC_one _ _) ?_
   refine Seq.done fun ws8 hws => ?_
   have HS8 := hws.q1 (p := bk10)
   clear HS7 hws
   go_upto_region 10 with (fail)
   have HPbk8 := HS8.p1
   refine wS [0] (Reg.fin.put Reg.fin_no _ _) (StR.move (StR.no HPbk8)) ?_
   refine gV ?_
   refine lV ?_
   refine pU ?_
   refine cX rfl rfl (fun w h => near_G (k := 1 * k + 0) HT.out HZQ.out HLQ.out HCQ.out ((HZP.out.x (lt_of_pts HL.out HC.out)).more (by omega)) ((HZP.out.y (lt_of_pts HL.out HC.out)).more (by omega)) rfl (by omega) _ w h (h.came HG2.out)) ?_
   refine cX rfl rfl (min_q (k := (96 * k + 27)) HT.out (HZA.out.more (by omega)) ((nearQ_rz (k := 1 * k + 0) HZQ.out ((HZP.out.x (lt_of_pts HL.out HC.out)).more (by omega)) ((HZP.out.y (lt_of_pts HL.out HC.out)).more (by omega)) (by rw [HLQ.out]; have := HCQ.out.1; omega)).more (by omega)) HE.out (by omega)) ?_
   refine sV (RC_one _) ?_
   refine Seq.done fun ws9 hws => ?_
   have HS9 := hws.q1 (p := bk8)
   clear HS8 hws HPbk8
   go_upto_region 11 with (fail)
   refine rgT [] HS9 ?_
   refine pV (.int .i64 (i1 : Int)) (by intro w; go_simp <;> (first | (rw [HI1.out.1]; done) | exact HI1.out.1 | (simp [HI1.out.1]; done) | (trace_state; done))) ?_
   refine pU ?_
   refine Seq.done fun ws10 hws => ?_
   have HS10 := hws.st
   clear HS9 hws
   go_wp2_with fail
   go_roundg (n - i1)
   case measure => rw [HGK.out]; exact HI1.out.2.1
   case rel => exact ⟨i1, rfl, rfl, HI1.out.2.2, Lib.hid (HS10.sub (.cons_cons _ (.cons _ (.refl _))))⟩
  ·have hin' : i = n := by omega
   subst hin'
   have HC := Lib.hid (show i ≤ i from Nat.le_refl _)
   clear hc hin
   go_upto_region 8 with (fail)
   refine rgT [] HR ?_
   refine pV (.bool false) (by intro w; go_simp <;> (first | (rw [HC.out]; done) | exact HC.out | (simp [HC.out]; done) | (trace_state; done))) ?_
   refine Seq.done fun ws7 hws => ?_
   have HS7 := hws.st
   clear HR hws
   go_upto_region 12 with (fail)
   refine rgT [] HS7 ?_
   refine pU ?_
   refine pV (.int .i64 (m : Int)) (by intro w; go_simp; try rfl) ?_
   refine pU ?_
   refine Seq.done fun ws8 hws => ?_
   have HS8 := hws.st
   clear HS7 hws
   have HSA := Lib.hid (show sqA ps qs i = sa from HSA0.out)
   rw [HSA.out] at HS8
   go_wp2_with fail
   go_loopg [44] m (fun kk s44 wr => ∃ j : Nat, kk = m - j ∧ s44 = .int .i64 (j : Int) ∧ j ≤ m ∧ Hid (St w [(bk8, 27, RC (sqB ps qs sa j)), (bk4, 27, #[.bool false, .string ⟨#[]⟩, .string ⟨#[]⟩])] wr))
   case atStart => exact ⟨0, rfl, rfl, by omega, Lib.hid HS8⟩
   case round =>
    obtain ⟨j, hgk2, rfl, hjm, hS2⟩ := hrel
    have HGK2 := Lib.hid hgk2; clear hgk2
    have HR2 := hS2.out; clear hS2
    have HZB := Lib.hid (ZB.out j hjm)
    by_cases hc2 : j < m
    ·obtain ⟨j1, hj1⟩ : ∃ j1 : Nat, j1 = j + 1 := ⟨_, rfl⟩
     have HJ1 := Lib.hid (show IntKind.i64.wrap ((j : Int) + 1) = (j1 : Int) ∧ m - j1 < m - j ∧ j1 ≤ m from ⟨by have := HCQ.out.2.1; rw [i64_s _ (by omega) (by omega)]; omega, by omega, by omega⟩)
     have HZB1 := Lib.hid (ZB.out j1 HJ1.out.2.2)
     have HE2 := Lib.hid (show minQ (sqB ps qs sa j) (nearQ (px qs j) (py qs j) ps) = sqB ps qs sa j1 by rw [hj1]; rfl)
     have HC2 := Lib.hid hc2
     clear hc2 hjm hj1
     go_upto_region 13 with (fail)
     refine rgT [] HR2 ?_
     refine pV (.bool true) (by intro w; go_simp <;> (first | (rw [HC2.out]; done) | exact HC2.out | (simp [HC2.out]; done) | (trace_state; done))) ?_
     refine Seq.done fun ws9 hws => ?_
     have HS9 := hws.st
     clear HR2 hws
     go_upto_region 14 with (fail)
     refine rgT [] HS9 ?_
     refine Seq.index (m := 6) j rfl rfl rfl rfl rfl (by kernel_rfl) rfl HC2.out (nZ ?_)
     refine Seq.loadAtF rfl rfl rfl rfl HG2.out (n := 6) (cs' := VC (px qs j) (py qs j)) (PC_room (lt_of_pts HLQ.out HC2.out)) (by kernel_rfl) (PC_at (lt_of_pts HLQ.out HC2.out)) (nZ ?_)
     refine aL6 ?_
     intro bk12 _ _ hbk12_r
     refine nZ ?_
     refine sV (VC_one _ _) ?_
     refine Seq.done fun ws10 hws => ?_
     have HS10 := hws.q1 (p := bk12)
     clear HS9 hws
     go_upto_region 15 with (fail)
     have HPbk8 := HS10.p1
     refine wS [0] (Reg.fin.put Reg.fin_no _ _) (StR.move (StR.no HPbk8)) ?_
     refine gV ?_
     refine lV ?_
     refine pU ?_
     refine cX rfl rfl (fun w h => near_G (k := 1 * k + 0) HT.out HZP.out HL.out HCV.out ((HZQ.out.x (lt_of_pts HLQ.out HC2.out)).more (by omega)) ((HZQ.out.y (lt_of_pts HLQ.out HC2.out)).more (by omega)) rfl (by omega) _ w h (h.came HG.out)) ?_
     refine cX rfl rfl (min_q (k := (96 * k + 27)) HT.out (HZB.out.more (by omega)) ((nearQ_rz (k := 1 * k + 0) HZP.out ((HZQ.out.x (lt_of_pts HLQ.out HC2.out)).more (by omega)) ((HZQ.out.y (lt_of_pts HLQ.out HC2.out)).more (by omega)) (by rw [HL.out]; have := HCV.out.1; omega)).more (by omega)) HE2.out (by omega)) ?_
     refine sV (RC_one _) ?_
     refine Seq.done fun ws11 hws => ?_
     have HS11 := hws.q1 (p := bk8)
     clear HS10 hws HPbk8
     go_upto_region 16 with (fail)
     refine rgT [] HS11 ?_
     refine pV (.int .i64 (j1 : Int)) (by intro w; go_simp <;> (first | (rw [HJ1.out.1]; done) | exact HJ1.out.1 | (simp [HJ1.out.1]; done) | (trace_state; done))) ?_
     refine pU ?_
     refine Seq.done fun ws12 hws => ?_
     have HS12 := hws.st
     clear HS11 hws
     go_wp2_with fail
     go_roundg (m - j1)
     case measure => rw [HGK2.out]; exact HJ1.out.2.1
     case rel => exact ⟨j1, rfl, rfl, HJ1.out.2.2, Lib.hid (HS12.sub (.cons_cons _ (.cons _ (.refl _))))⟩
    ·have HSE := Lib.hid (show sqQ ps qs = sqB ps qs sa j by rw [← HSA.out]; unfold sqQ; rw [HM.out, if_neg (by decide), HL.out, HLQ.out, show j = m by omega])
     have HC2 := Lib.hid (show m ≤ j by omega)
     clear hc2 hjm
     go_upto_region 13 with (fail)
     refine rgT [] HR2 ?_
     refine pV (.bool false) (by intro w; go_simp <;> (first | (rw [HC2.out]; done) | exact HC2.out | (simp [HC2.out]; done) | (trace_state; done))) ?_
     refine Seq.done fun ws9 hws => ?_
     have HS9 := hws.st
     clear HR2 hws
     go_upto_region 17 with (fail)
     have HPbk4 := HS9.p1
     refine wp_seq_text [] (StR.move (StR.no HPbk4)) ?_
     refine lV ?_
     refine sV (RC_one _) ?_
     refine pU ?_
     refine Seq.done fun ws10 hws => ?_
     have HS10 := hws.q1 (p := bk4)
     clear HS9 hws HPbk4
     go_wp2_with fail
     exact ret_own2 rfl rfl rfl rfl HS10 (by repeat first|exact mC|apply mT) (n := 3) rfl (by kernel_rfl) ⟨by rw [HSE.out]; rfl, HS10.below⟩
theorem sq_q2 {k n m : Nat} {ps qs : Pts} {W : World} {l : List Own} (hT : Tab W) (hz : Pz k ps) (hl : ps.length = n) (hcv : 3 ≤ n ∧ n ≤ 64 ∧ Cvx ps) (hz2 : Pz k qs) (hl2 : qs.length = m) (hcv2 : 3 ≤ m ∧ m ≤ 64 ∧ Cvx qs) {z0 : Rat} (hz0 : sqQ ps qs = z0) (hk : k ≤ 1000000) (g g2 : Nat) (w : World) (h : St W l w) (hg : Blk w g 29 (PC ps)) (hg2 : Blk w g2 29 (PC qs)) :
  Calls Tryz.prog 53 #[.slice (some ⟨g, 0, none⟩) n n, .slice (some ⟨g2, 0, none⟩) m m] w fun e w' => e = .returned (.tuple #[.agg (RC z0), .int .i64 0]) ∧ Below w.heap.size w w' := by
 rw [← hz0]
 cases hx : meetB ps qs with
 | true => exact sq_t hT hz hl hcv hz2 hl2 hcv2 hx hk g g2 w h hg hg2
 | false => exact sq_f hT hz hl hcv hz2 hl2 hcv2 hx hk g g2 w h hg hg2
set_option maxRecDepth 20000 in
theorem aat_q {x y : Int} {z0 z1 : Rat} {W : World} {l : List Own} (hT : Tab W) (hx : (-9223372036854775808 ≤ x ∧ x ≤ 9223372036854775807)) (hy : (-9223372036854775808 ≤ y ∧ y ≤ 9223372036854775807)) (hz0 : (x : Rat) = z0) (hz1 : (y : Rat) = z1) (w : World) (h : St W l w) :
  Calls Tryz.prog 58 #[.int .i64 x, .int .i64 y] w fun e w' => e = .returned (.agg (VC z0 z1)) ∧ Below w.heap.size w w' := by
 subst hz0 hz1
 have HT := Lib.hid (tabS hT h); clear hT h
 have HI := Lib.hid (And.intro hx hy); clear hx hy
 go_enter Tryz.func58, Tryz.ntmps58
 have HS : St w [] w := St.start
 go_upto_region 0 with (fail)
 refine rgT [] HS ?_
 refine aL6 ?_
 intro bk4 _ _ hbk4_r
 refine nZ ?_
 refine Seq.done fun ws1 hws => ?_
 have HS1 := hws.q1 (p := bk4)
 clear HS hws
 go_upto_region 1 with (fail)
 refine wp_seq_text [] (StR.move (StR.no HS1)) ?_
 refine pU ?_
 refine cL (of_q HT.out HI.out.1.1 HI.out.1.2 rfl) ?_
 refine pU ?_
 refine cL (of_q HT.out HI.out.2.1 HI.out.2.2 rfl) ?_
 refine pV (.agg (VC ((x : Int) : Rat) ((y : Int) : Rat))) (fun w => bld_Vec rfl rfl rfl w) ?_
 refine sV (VC_one _ _) ?_
 refine Seq.done fun ws2 hws => ?_
 have HS2 := hws.q1 (p := bk4)
 clear HS1 hws
 go_wp2_with fail
 exact rO HS2 ⟨rfl, HS2.below⟩
section
variable {P : Program} {ops : Array Oper} {W : World} {l : List Own} {Q : Exit → Act → World → Prop} {gs : List Nat} {k : Nat} {o : Oper} {rest : List Oper} {a : Act} {R : Reg}
theorem Seq.callFreshV {f : FuncId} {y : Operand} {xs : List Operand} {ts : Array TypeId} {vs cap : Array Value} {n : Option Nat} {x : TypeId × Array Value} (ho : o.op = .call { callee := .value y, args := xs.toArray, argTypes := ts }) (hk : kd gs k o = .fresh) (hw : wants ops o a = true)
  (hy : a.eval y = .func (.func f) #[] cap) (hx : xs.map a.eval = vs.toList) (hf : goesIn P f = true)
  (hc : ∀ w, StR W l R w → Calls P f (vs ++ cap) w (fun e w' => ∃ p, w.heap.size ≤ p ∧ e = .returned (mk n p) ∧ Below w.heap.size w w' ∧ Blk w' p x.1 x.2))
  (h : ∀ p, W.heap.size ≤ p → (∀ e ∈ l, e.1 ≠ p) → R p = none → Seq P ops Q W l gs (k + 1) rest (a.put o.dst (mk n p)) (R.put p x)) : Seq P ops Q W l gs k (o :: rest) a R := by
 refine .inl (.inr ⟨hw, ?_⟩)
 rw [hk]
 refine ⟨n, x, ⟨by simp [isCall, ho], fun w hs => ?_⟩, fun p hp => h p hp.1 hp.2.1 hp.2.2⟩
 have hr : (execOp a.eval o).run P w = .ok (.enter f (vs ++ cap)) w := by
  unfold goesIn at hf
  cases hp : P.funcs[f]? with
  | none => simp [hp] at hf
  | some fn =>
    simp only [hp, Bool.and_eq_true, bne_iff_ne, ne_eq] at hf
    have hb : fn.body.isNone = false := by cases hq : fn.body <;> simp_all
    have hv : (xs.map a.eval).toArray = vs := by rw [hx]
    unfold execOp
    simp only [ho, resolve, hy]
    simp [invoke, callFunc, Deferred.ofValue, hp, hf.1, hb, hv, go_sem]
    intro hq; rw [hq] at hb; cases hb
 rw [hr]
 exact ⟨Below.refl _ _, hc w hs⟩
end
set_option maxHeartbeats 2000000 in
set_option maxRecDepth 20000 in
theorem square_0 {c : Nat} {W : World} {l : List Own} (hT : Tab W) (w : World) (h : St W l w) (hg : Blk w c 30 #[.func (.func 58) #[] #[]]) :
  Calls Tryz.prog 59 #[.int .i64 0, .int .i64 0, .pointer (some ⟨c, 0, none⟩)] w fun e w' => ∃ p, w.heap.size ≤ p ∧ e = .returned (mk (some 4) p) ∧ Below w.heap.size w w' ∧ Blk w' p 29 (PC [((0 : Rat), (0 : Rat)), ((1 : Rat), (0 : Rat)), ((1 : Rat), (1 : Rat)), ((0 : Rat), (1 : Rat))]) := by
 have HT := Lib.hid (tabS hT h); clear hT h
 have HG := Lib.hid hg; clear hg
 go_enter Tryz.func59, Tryz.ntmps59
 have HS : St w [] w := St.start
 go_upto_region 0 with (fail)
 refine rgT [] HS ?_
 refine pU ?_
 refine Seq.done fun ws1 hws => ?_
 have HS1 := hws.st
 clear HS hws
 go_upto_region 1 with (fail)
 refine rgW [] HS1 ?_
 refine Seq.loadCellF rfl rfl rfl rfl HG.out (v := .func (.func 58) #[] #[]) rfl (by kernel_rfl) rfl (nZ ?_)
 iterate 2 refine pU ?_
 refine Seq.callV rfl rfl rfl rfl rfl (by kernel_rfl) (aat_q (x := 0) (y := 0) HT.out (by omega) (by omega) rfl rfl) (nZ ?_)
 refine Seq.loadCellF rfl rfl rfl rfl HG.out (v := .func (.func 58) #[] #[]) rfl (by kernel_rfl) rfl (nZ ?_)
 refine pU ?_
 refine pV (.int .i64 1) (by intro w; go_simp; try rfl) ?_
 refine pU ?_
 refine Seq.callV rfl rfl rfl rfl rfl (by kernel_rfl) (aat_q (x := 1) (y := 0) HT.out (by omega) (by omega) rfl rfl) (nZ ?_)
 refine Seq.loadCellF rfl rfl rfl rfl HG.out (v := .func (.func 58) #[] #[]) rfl (by kernel_rfl) rfl (nZ ?_)
 refine pU ?_
 refine pV (.int .i64 1) (by intro w; go_simp; try rfl) ?_
 refine pU ?_
 refine pV (.int .i64 1) (by intro w; go_simp; try rfl) ?_
 refine Seq.callV rfl rfl rfl rfl rfl (by kernel_rfl) (aat_q (x := 1) (y := 1) HT.out (by omega) (by omega) rfl rfl) (nZ ?_)
 refine Seq.loadCellF rfl rfl rfl rfl HG.out (v := .func (.func 58) #[] #[]) rfl (by kernel_rfl) rfl (nZ ?_)
 iterate 2 refine pU ?_
 refine pV (.int .i64 1) (by intro w; go_simp; try rfl) ?_
 refine Seq.callV rfl rfl rfl rfl rfl (by kernel_rfl) (aat_q (x := 0) (y := 1) HT.out (by omega) (by omega) rfl rfl) (nZ ?_)
 refine Seq.slice (n := 4) (e := 29) (cs := PC [((0 : Rat), (0 : Rat)), ((1 : Rat), (0 : Rat)), ((1 : Rat), (1 : Rat)), ((0 : Rat), (1 : Rat))]) rfl rfl (fun w => slcP_4 rfl rfl rfl rfl rfl w) ?_
 intro bk26 _ _ hbk26_r
 refine nZ ?_
 refine pU ?_
 refine Seq.done fun ws2 hws => ?_
 have HS2 := hws.q1 (p := bk26)
 clear HS1 hws
 go_wp2_with fail
 go_ret
 have hb := (HS2.blk (bk26, _, _) (by repeat first|exact mC|apply mT))
 exact ⟨_, hb.1, rfl, HS2.below, hb.2⟩
theorem square_0_z : Pz 2 [((0 : Rat), (0 : Rat)), ((1 : Rat), (0 : Rat)), ((1 : Rat), (1 : Rat)), ((0 : Rat), (1 : Rat))] := by
 intro p hp
 simp only [List.mem_cons, List.not_mem_nil, or_false] at hp
 rcases hp with rfl | rfl | rfl | rfl
 ·exact ⟨Rz.lit (z := 0) rfl (by decide), Rz.lit (z := 0) rfl (by decide)⟩
 ·exact ⟨Rz.lit (z := 1) rfl (by decide), Rz.lit (z := 0) rfl (by decide)⟩
 ·exact ⟨Rz.lit (z := 1) rfl (by decide), Rz.lit (z := 1) rfl (by decide)⟩
 ·exact ⟨Rz.lit (z := 0) rfl (by decide), Rz.lit (z := 1) rfl (by decide)⟩
set_option maxHeartbeats 2000000 in
set_option maxRecDepth 20000 in
theorem square_4 {c : Nat} {W : World} {l : List Own} (hT : Tab W) (w : World) (h : St W l w) (hg : Blk w c 30 #[.func (.func 58) #[] #[]]) :
  Calls Tryz.prog 59 #[.int .i64 4, .int .i64 5, .pointer (some ⟨c, 0, none⟩)] w fun e w' => ∃ p, w.heap.size ≤ p ∧ e = .returned (mk (some 4) p) ∧ Below w.heap.size w w' ∧ Blk w' p 29 (PC [((4 : Rat), (5 : Rat)), ((5 : Rat), (5 : Rat)), ((5 : Rat), (6 : Rat)), ((4 : Rat), (6 : Rat))]) := by
 have HT := Lib.hid (tabS hT h); clear hT h
 have HG := Lib.hid hg; clear hg
 go_enter Tryz.func59, Tryz.ntmps59
 have HS : St w [] w := St.start
 go_upto_region 0 with (fail)
 refine rgT [] HS ?_
 refine pU ?_
 refine Seq.done fun ws1 hws => ?_
 have HS1 := hws.st
 clear HS hws
 go_upto_region 1 with (fail)
 refine rgW [] HS1 ?_
 refine Seq.loadCellF rfl rfl rfl rfl HG.out (v := .func (.func 58) #[] #[]) rfl (by kernel_rfl) rfl (nZ ?_)
 iterate 2 refine pU ?_
 refine Seq.callV rfl rfl rfl rfl rfl (by kernel_rfl) (aat_q (x := 4) (y := 5) HT.out (by omega) (by omega) rfl rfl) (nZ ?_)
 refine Seq.loadCellF rfl rfl rfl rfl HG.out (v := .func (.func 58) #[] #[]) rfl (by kernel_rfl) rfl (nZ ?_)
 refine pU ?_
 refine pV (.int .i64 5) (by intro w; go_simp; try rfl) ?_
 refine pU ?_
 refine Seq.callV rfl rfl rfl rfl rfl (by kernel_rfl) (aat_q (x := 5) (y := 5) HT.out (by omega) (by omega) rfl rfl) (nZ ?_)
 refine Seq.loadCellF rfl rfl rfl rfl HG.out (v := .func (.func 58) #[] #[]) rfl (by kernel_rfl) rfl (nZ ?_)
 refine pU ?_
 refine pV (.int .i64 5) (by intro w; go_simp; try rfl) ?_
 refine pU ?_
 refine pV (.int .i64 6) (by intro w; go_simp; try rfl) ?_
 refine Seq.callV rfl rfl rfl rfl rfl (by kernel_rfl) (aat_q (x := 5) (y := 6) HT.out (by omega) (by omega) rfl rfl) (nZ ?_)
 refine Seq.loadCellF rfl rfl rfl rfl HG.out (v := .func (.func 58) #[] #[]) rfl (by kernel_rfl) rfl (nZ ?_)
 iterate 2 refine pU ?_
 refine pV (.int .i64 6) (by intro w; go_simp; try rfl) ?_
 refine Seq.callV rfl rfl rfl rfl rfl (by kernel_rfl) (aat_q (x := 4) (y := 6) HT.out (by omega) (by omega) rfl rfl) (nZ ?_)
 refine Seq.slice (n := 4) (e := 29) (cs := PC [((4 : Rat), (5 : Rat)), ((5 : Rat), (5 : Rat)), ((5 : Rat), (6 : Rat)), ((4 : Rat), (6 : Rat))]) rfl rfl (fun w => slcP_4 rfl rfl rfl rfl rfl w) ?_
 intro bk26 _ _ hbk26_r
 refine nZ ?_
 refine pU ?_
 refine Seq.done fun ws2 hws => ?_
 have HS2 := hws.q1 (p := bk26)
 clear HS1 hws
 go_wp2_with fail
 go_ret
 have hb := (HS2.blk (bk26, _, _) (by repeat first|exact mC|apply mT))
 exact ⟨_, hb.1, rfl, HS2.below, hb.2⟩
theorem square_4_z : Pz 2 [((4 : Rat), (5 : Rat)), ((5 : Rat), (5 : Rat)), ((5 : Rat), (6 : Rat)), ((4 : Rat), (6 : Rat))] := by
 intro p hp
 simp only [List.mem_cons, List.not_mem_nil, or_false] at hp
 rcases hp with rfl | rfl | rfl | rfl
 ·exact ⟨Rz.lit (z := 4) rfl (by decide), Rz.lit (z := 5) rfl (by decide)⟩
 ·exact ⟨Rz.lit (z := 5) rfl (by decide), Rz.lit (z := 5) rfl (by decide)⟩
 ·exact ⟨Rz.lit (z := 5) rfl (by decide), Rz.lit (z := 6) rfl (by decide)⟩
 ·exact ⟨Rz.lit (z := 4) rfl (by decide), Rz.lit (z := 6) rfl (by decide)⟩
theorem sq0_cvx : Cvx [((0 : Rat), (0 : Rat)), ((1 : Rat), (0 : Rat)), ((1 : Rat), (1 : Rat)), ((0 : Rat), (1 : Rat))] := cvx_of (by decide +kernel)
theorem sq4_cvx : Cvx [((4 : Rat), (5 : Rat)), ((5 : Rat), (5 : Rat)), ((5 : Rat), (6 : Rat)), ((4 : Rat), (6 : Rat))] := cvx_of (by decide +kernel)
theorem sq_25 : sqQ [((0 : Rat), (0 : Rat)), ((1 : Rat), (0 : Rat)), ((1 : Rat), (1 : Rat)), ((0 : Rat), (1 : Rat))] [((4 : Rat), (5 : Rat)), ((5 : Rat), (5 : Rat)), ((5 : Rat), (6 : Rat)), ((4 : Rat), (6 : Rat))] = 25 := by decide +kernel
set_option maxHeartbeats 2000000 in
set_option maxRecDepth 20000 in
theorem abegun_q {W : World} {l : List Own} (hT : Tab W) (w : World) (h : St W l w) :
  Calls Tryz.prog 9 #[] w fun e w' => e = .returned (.bool true) ∧ Below w.heap.size w w' := by
 have HT := Lib.hid (tabS hT h); clear hT h
 go_enter Tryz.func9, Tryz.ntmps9
 have HS : St w [] w := St.start
 go_upto_region 0 with (fail)
 refine rgT [] HS ?_
 refine pU ?_
 refine Seq.done fun ws1 hws => ?_
 have HS1 := hws.st
 clear HS hws
 go_upto_region 1 with (fail)
 refine rgT [] HS1 ?_
 refine Seq.alloc rfl rfl rfl (z := .nilFunc) (cs := #[.nilFunc]) (by kernel_rfl) rfl ?_
 intro bk1 _ _ hbk1_r
 refine nZ ?_
 refine Seq.storeAt (v := .func (.func 58) #[] #[]) rfl rfl rfl rfl rfl (by repeat first|exact rS|refine rN ‹_› ?_) (by simp [Value.cells]) (by kernel_rfl) (by intro u hu; simp [Value.cells] at hu; subst hu; rfl) (cs' := #[.func (.func 58) #[] #[]]) (by simp [Value.cells]) (nZ ?_)
 refine Seq.done fun ws2 hws => ?_
 have HS2 := hws.q1 (p := bk1)
 clear HS1 hws
 go_upto_region 2 with (fail)
 refine rgT [] HS2 ?_
 iterate 2 refine pU ?_
 refine Seq.done fun ws3 hws => ?_
 have HS3 := hws.st
 clear HS2 hws
 go_upto_region 3 with (fail)
 refine rgT [1000001, 1000003, 9] HS3 ?_
 refine pU ?_
 refine Seq.callFreshV (n := some 4) (x := (29, PC [((0 : Rat), (0 : Rat)), ((1 : Rat), (0 : Rat)), ((1 : Rat), (1 : Rat)), ((0 : Rat), (1 : Rat))])) rfl rfl rfl rfl rfl (by kernel_rfl) (fun w h => square_0 HT.out w h.st (h.st.blk (bk1, _, _) (by repeat first|exact mC|apply mT)).2) ?_
 intro bk8 _ _ hbk8_r
 refine nZ ?_
 refine pU ?_
 refine Seq.callFreshV (n := some 4) (x := (29, PC [((4 : Rat), (5 : Rat)), ((5 : Rat), (5 : Rat)), ((5 : Rat), (6 : Rat)), ((4 : Rat), (6 : Rat))])) rfl rfl rfl rfl rfl (by kernel_rfl) (fun w h => square_4 HT.out w h.st (h.st.blk (bk1, _, _) (by repeat first|exact mC|apply mT)).2) ?_
 intro bk10 _ _ hbk10_r
 obtain ⟨_, _, hbk10_r⟩ := Reg.ne2 hbk10_r
 refine nZ ?_
 refine Seq.callAny rfl rfl rfl rfl (by kernel_rfl) (fun w h => sq_q2 (k := 2) (n := 4) (m := 4) HT.out square_0_z rfl ⟨by omega, by omega, sq0_cvx⟩ square_4_z rfl ⟨by omega, by omega, sq4_cvx⟩ sq_25 (by omega) _ _ w h.st (h.reg _ _ _ (by repeat first|exact rS|refine rN ‹_› ?_)).2.2 (h.reg _ _ _ (by repeat first|exact rS|refine rN ‹_› ?_)).2.2) (nZ ?_)
 refine pU ?_
 refine pV (.agg (RC (25 : Rat))) (fun w => rfl) ?_
 refine pV (.int .i64 0) (fun w => rfl) ?_
 refine aL3 ?_
 intro bk3 _ _ hbk3_r
 obtain ⟨_, _, hbk3_r⟩ := Reg.ne2 hbk3_r
 obtain ⟨_, _, hbk3_r⟩ := Reg.ne2 hbk3_r
 refine nZ ?_
 refine sV (RC_one _) ?_
 refine pU ?_
 refine Seq.done fun ws4 hws => ?_
 have HS4 : St w [(bk8, 29, PC [((0 : Rat), (0 : Rat)), ((1 : Rat), (0 : Rat)), ((1 : Rat), (1 : Rat)), ((0 : Rat), (1 : Rat))]), (bk10, 29, PC [((4 : Rat), (5 : Rat)), ((5 : Rat), (5 : Rat)), ((5 : Rat), (6 : Rat)), ((4 : Rat), (6 : Rat))]), (bk3, 27, RC (25 : Rat)), (bk1, 30, #[.func (.func 58) #[] #[]])] ws4 := hws.list3 (by repeat first|exact rS|refine rN ‹_› ?_) (by repeat first|exact rS|refine rN ‹_› ?_) (by repeat first|exact rS|refine rN ‹_› ?_) (by assumption) (by assumption) (by assumption)
 clear HS3 hws
 go_upto_region 4 with (fail)
 refine rgW [] HS4 ?_
 refine cL (pbegun_q HT.out) ?_
 iterate 5 refine pU ?_
 refine lV ?_
 refine cX rfl rfl (of_q HT.out (by omega) (by omega) rfl) ?_
 refine Seq.eqR rfl rfl rfl rfl rfl (b := true) (decide_eq_true rfl) (nZ ?_)
 iterate 2 refine pU ?_
 refine Seq.done fun ws5 hws => ?_
 have HS5 := hws.st
 clear HS4 hws
 go_wp2_with fail
 go_ret
 exact ⟨rfl, HS5.below⟩
end Go.Proofs.YtmchjmflkaiakaaGreatDoor
