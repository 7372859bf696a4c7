/- apart.Sq, poly.Area at points with cells behind (printed by apx.py) -/
import Derived.Test.YtmchjmflkaiakaaGreatDoorAp1
import Derived.Test.YtmchjmflkaiakaaGreatDoorApX2
import Derived.Test.YtmchjmflkaiakaaGreatDoorPo6
import Derived.Deep.LoopGhost
set_option maxHeartbeats 4000000
set_option maxRecDepth 20000
namespace Go.Proofs.YtmchjmflkaiakaaGreatDoor
open Go.RowKit
set_option linter.unusedVariables false
set_option linter.unusedSimpArgs false
variable {W : World} {l : List Own}
theorem sq_tx {k n m cc1 cc2 : Nat} {J1 J2 : List Value} {ps qs : Pts} (hT : Tab W) (hz : Pz k ps) (hl : ps.length = n) (hcv : 3 ≤ n ∧ n ≤ 64 ∧ Cvx ps) (hz2 : Pz k qs) (hl2 : qs.length = m) (hcv2 : 3 ≤ m ∧ m ≤ 64 ∧ Cvx qs) (hx : meetB ps qs = true) (hk : k ≤ 1000000) (g g2 : Nat) (w : World) (h : St W l w) (hg : Blk w g 29 (PX J1 ps)) (hg2 : Blk w g2 29 (PX J2 qs)) : Rt 53 #[.slice (some ⟨g, 0, none⟩) n cc1, .slice (some ⟨g2, 0, none⟩) m cc2] w (.tuple #[.agg (RC (sqQ ps qs)), .int .i64 0]) := by
 have HSQ := yh (show sqQ ps qs = 0 from sq_zero hx)
 have HM := yh hx; clear hx
 have HT := yh (tabS hT h); clear hT h
 have HG := yh hg; clear hg
 have HL := yh hl; clear hl
 have HNZ := yh (show ¬ n = 0 by have := hcv.1; omega)
 have HZP := yh (show Pz (1 * k + 0) ps by rw [Nat.one_mul]; exact hz); clear hz
 have HG2 := yh hg2; clear hg2
 have HLQ := yh hl2; clear hl2
 have HZQ := yh (show Pz (1 * k + 0) qs by rw [Nat.one_mul]; exact hz2); clear hz2
 have HCV := yh hcv; clear hcv
 have HCQ := yh hcv2; clear hcv2
 go_enter Tryz.func53, Tryz.ntmps53
 have HS : St w [] w := St.start
 go_upto_region 0 with fail
 refine rgT [] HS ?_
 refine aL3 ?_
 intro bk4 _ _ e4
 refine nZ ?_
 refine pU ?_
 refine dn1 bk4 fun _ HS1=>?_
 clear HS
 go_upto_region 1 with fail
 refine rgT [] HS1 ?_
 iterate 2 refine pU ?_
 refine cX rfl rfl (fun w h => meet_x (k := 1 * k + 0) HT.out HZP.out HL.out HCV.out HZQ.out HLQ.out HCQ.out HM.out (by omega) _ _ w h (h.came HG.out) (h.came HG2.out)) ?_
 refine pU ?_
 refine pV (.bool true) (fun w => rfl) ?_
 refine pV (.int .i64 0) (fun w => rfl) ?_
 iterate 2 refine pU ?_
 refine dnS fun _ HS2=>?_
 clear HS1
 go_upto_region 2 with fail
 refine rgT [] HS2 ?_
 iterate 2 refine pU ?_
 refine dnS fun _ HS3=>?_
 clear HS2
 go_upto_region 4 with fail
 refine rgT [] HS3 ?_
 refine pU ?_
 refine dnS fun _ HS4=>?_
 clear HS3
 go_upto_region 5 with fail
 refine wp_seq_text [] (StR.move (StR.no HS4)) ?_
 refine cX rfl rfl (of_q HT.out (by omega) (by omega) (show ((0 : Int) : Rat) = (0 : Rat) from rfl)) ?_
 refine sV (RC_one _) ?_
 refine pU ?_
 refine dn1 bk4 fun _ HS5=>?_
 clear HS4
 go_wp2_with fail
 exact ret_own2 rfl rfl rfl rfl HS5 (by repeat first|exact mC|apply mT) (n := 3) rfl (by kernel_rfl) ⟨by rw [HSQ.out]; rfl, HS5.below⟩
theorem sq_fx {k n m cc1 cc2 : Nat} {J1 J2 : List Value} {ps qs : Pts} (hT : Tab W) (hz : Pz k ps) (hl : ps.length = n) (hcv : 3 ≤ n ∧ n ≤ 64 ∧ Cvx ps) (hz2 : Pz k qs) (hl2 : qs.length = m) (hcv2 : 3 ≤ m ∧ m ≤ 64 ∧ Cvx qs) (hx : meetB ps qs = false) (hk : k ≤ 1000000) (g g2 : Nat) (w : World) (h : St W l w) (hg : Blk w g 29 (PX J1 ps)) (hg2 : Blk w g2 29 (PX J2 qs)) : Rt 53 #[.slice (some ⟨g, 0, none⟩) n cc1, .slice (some ⟨g2, 0, none⟩) m cc2] w (.tuple #[.agg (RC (sqQ ps qs)), .int .i64 0]) := by
 have hza := sqA_rz hz hz2 (by omega) (by omega)
 have hzb := fun v hv => sqB_rz (v := v) hz hz2 (by omega) (by omega) hv
 obtain ⟨sa, hsa⟩ : ∃ z, sqA ps qs n = z := ⟨_, rfl⟩
 have ZA := yh (show ∀ i, i ≤ n → Rz (96 * k + 27) (sqA ps qs i) from fun i hi => hza i (by omega))
 have ZB := yh (show ∀ j, j ≤ m → Rz (96 * k + 27) (sqB ps qs sa j) from fun j hj => hzb sa (hsa ▸ ZA.out n (Nat.le_refl _)) j (by omega))
 have HZA := yh (ZA.out 0 (by omega))
 have HSA0 := yh hsa
 have HPOS := yh (show 0 < n by omega)
 clear hza hzb hsa
 have HM := yh hx; clear hx
 have HT := yh (tabS hT h); clear hT h
 have HG := yh hg; clear hg
 have HL := yh hl; clear hl
 have HNZ := yh (show ¬ n = 0 by have := hcv.1; omega)
 have HZP := yh (show Pz (1 * k + 0) ps by rw [Nat.one_mul]; exact hz); clear hz
 have HG2 := yh hg2; clear hg2
 have HLQ := yh hl2; clear hl2
 have HZQ := yh (show Pz (1 * k + 0) qs by rw [Nat.one_mul]; exact hz2); clear hz2
 have HCV := yh hcv; clear hcv
 have HCQ := yh hcv2; clear hcv2
 go_enter Tryz.func53, Tryz.ntmps53
 have HS : St w [] w := St.start
 go_upto_region 0 with fail
 refine rgT [] HS ?_
 refine aL3 ?_
 intro bk4 _ _ e4
 refine nZ ?_
 refine pU ?_
 refine dn1 bk4 fun _ HS1=>?_
 clear HS
 go_upto_region 1 with fail
 refine rgT [] HS1 ?_
 iterate 2 refine pU ?_
 refine cX rfl rfl (fun w h => meet_x (k := 1 * k + 0) HT.out HZP.out HL.out HCV.out HZQ.out HLQ.out HCQ.out HM.out (by omega) _ _ w h (h.came HG.out) (h.came HG2.out)) ?_
 refine pU ?_
 refine pV (.bool false) (fun w => rfl) ?_
 refine pV (.int .i64 0) (fun w => rfl) ?_
 iterate 2 refine pU ?_
 refine dnS fun _ HS2=>?_
 clear HS1
 go_upto_region 2 with fail
 refine rgT [] HS2 ?_
 iterate 2 refine pU ?_
 refine dnS fun _ HS3=>?_
 clear HS2
 go_upto_region 4 with fail
 refine rgT [] HS3 ?_
 refine pU ?_
 refine dnS fun _ HS4=>?_
 clear HS3
 go_upto_region 6 with fail
 refine rgT [] HS4 ?_
 refine pU ?_
 refine iX 6 0 HPOS.out ?_
 refine lF HG.out (VC (px ps 0) (py ps 0)) (PX_room (lt_of_pts HL.out HPOS.out)) (PX_at (lt_of_pts HL.out HPOS.out)) ?_
 refine pU ?_
 refine cX rfl rfl (fun w h => near_xG (k := 1 * k + 0) HT.out HZQ.out HLQ.out HCQ.out ((HZP.out.x (lt_of_pts HL.out HPOS.out)).more (by omega)) ((HZP.out.y (lt_of_pts HL.out HPOS.out)).more (by omega)) rfl (by omega) _ w h (h.came HG2.out)) ?_
 refine aL3 ?_
 intro bk8 _ _ e8
 refine nZ ?_
 refine sV (RC_one _) ?_
 refine dn1 bk8 fun _ HS5=>?_
 clear HS4
 go_upto_region 7 with fail
 refine rgT [] HS5 ?_
 refine pU ?_
 refine pV (.int .i64 (n : Int)) (by intro w; go_simp; try rfl) ?_
 refine pU ?_
 refine dnS fun _ HS6=>?_
 clear HS5
 go_wp2_with fail
 go_loopg [32] n (fun kk s32 wr => ∃ i : Nat, kk = n - i ∧ s32 = .int .i64 (i : Int) ∧ i ≤ n ∧ Hid (St w [(bk8, 27, RC (sqA ps qs i)), (bk4, 27, #[.bool false, .string ⟨#[]⟩, .string ⟨#[]⟩])] wr))
 case atStart => exact ⟨0, rfl, rfl, by omega, yh HS6⟩
 case round =>
  obtain ⟨i, hgk, rfl, hin, hS⟩ := hrel
  have HGK := yh hgk; clear hgk
  have HR := hS.out; clear hS
  have HZA := yh (ZA.out i hin)
  by_cases hc : i < n
  ·obtain ⟨i1, hi1⟩ : ∃ i1 : Nat, i1 = i + 1 := ⟨_, rfl⟩
   have HI1 := yh (show IntKind.i64.wrap ((i : Int) + 1) = (i1 : Int) ∧ n - i1 < n - i ∧ i1 ≤ n from ⟨by have := HCV.out.2.1; rw [i64_s _ (by omega) (by omega)]; omega, by omega, by omega⟩)
   have HZA1 := yh (ZA.out i1 HI1.out.2.2)
   have HE := yh (show minQ (sqA ps qs i) (nearQ (px ps i) (py ps i) qs) = sqA ps qs i1 by rw [hi1]; rfl)
   have HC := yh hc
   clear hc hin hi1
   go_upto_region 8 with fail
   refine rgT [] HR ?_
   refine pV (.bool true) (by intro w; go_simp <;> (first | (rw [HC.out]; done) | exact HC.out | (simp [HC.out]; done))) ?_
   refine dnS fun ws7 HS7=>?_
   clear HR
   go_upto_region 9 with fail
   refine rgT [] HS7 ?_
   refine iX 6 i HC.out ?_
   refine lF HG.out (VC (px ps i) (py ps i)) (PX_room (lt_of_pts HL.out HC.out)) (PX_at (lt_of_pts HL.out HC.out)) ?_
   refine aL6 ?_
   intro bk10 _ _ e10
   refine nZ ?_
   refine sV (VC_one _ _) ?_
   refine dn1 bk10 fun ws8 HS8=>?_
   clear HS7
   go_upto_region 10 with fail
   have HPbk8 := HS8.p1
   refine wS [0] (Reg.fin.put Reg.fin_no _ _) (StR.move (StR.no HPbk8)) ?_
   refine gV ?_
   refine lV ?_
   refine pU ?_
   refine cX rfl rfl (fun w h => near_xG (k := 1 * k + 0) HT.out HZQ.out HLQ.out HCQ.out ((HZP.out.x (lt_of_pts HL.out HC.out)).more (by omega)) ((HZP.out.y (lt_of_pts HL.out HC.out)).more (by omega)) rfl (by omega) _ w h (h.came HG2.out)) ?_
   refine cX rfl rfl (min_q (k := (96 * k + 27)) HT.out (zm HZA) ((nearQ_rz (k := 1 * k + 0) HZQ.out ((HZP.out.x (lt_of_pts HL.out HC.out)).more (by omega)) ((HZP.out.y (lt_of_pts HL.out HC.out)).more (by omega)) (by rw [HLQ.out]; have := HCQ.out.1; omega)).more (by omega)) HE.out (by omega)) ?_
   refine sV (RC_one _) ?_
   refine dn1 bk8 fun ws9 HS9=>?_
   clear HS8 HPbk8
   go_upto_region 11 with fail
   refine rgT [] HS9 ?_
   refine pV (.int .i64 (i1 : Int)) (by intro w; go_simp <;> (first | (rw [HI1.out.1]; done) | exact HI1.out.1 | (simp [HI1.out.1]; done))) ?_
   refine pU ?_
   refine dnS fun ws10 HS10=>?_
   clear HS9
   go_wp2_with fail
   go_roundg (n - i1)
   case measure => rw [HGK.out]; exact HI1.out.2.1
   case rel => exact ⟨i1, rfl, rfl, HI1.out.2.2, yh (HS10.sub (.cons_cons _ (.cons _ (.refl _))))⟩
  ·have hin' : i = n := by omega
   subst hin'
   have HC := yh (show i ≤ i from Nat.le_refl _)
   clear hc hin
   go_upto_region 8 with fail
   refine rgT [] HR ?_
   refine pV (.bool false) (by intro w; go_simp <;> (first | (rw [HC.out]; done) | exact HC.out | (simp [HC.out]; done))) ?_
   refine dnS fun _ HS7=>?_
   clear HR
   go_upto_region 12 with fail
   refine rgT [] HS7 ?_
   refine pU ?_
   refine pV (.int .i64 (m : Int)) (by intro w; go_simp; try rfl) ?_
   refine pU ?_
   refine dnS fun _ HS8=>?_
   clear HS7
   have HSA := yh (show sqA ps qs i = sa from HSA0.out)
   rw [HSA.out] at HS8
   go_wp2_with fail
   go_loopg [44] m (fun kk s44 wr => ∃ j : Nat, kk = m - j ∧ s44 = .int .i64 (j : Int) ∧ j ≤ m ∧ Hid (St w [(bk8, 27, RC (sqB ps qs sa j)), (bk4, 27, #[.bool false, .string ⟨#[]⟩, .string ⟨#[]⟩])] wr))
   case atStart => exact ⟨0, rfl, rfl, by omega, yh HS8⟩
   case round =>
    obtain ⟨j, hgk2, rfl, hjm, hS2⟩ := hrel
    have HGK2 := yh hgk2; clear hgk2
    have HR2 := hS2.out; clear hS2
    have HZB := yh (ZB.out j hjm)
    by_cases hc2 : j < m
    ·obtain ⟨j1, hj1⟩ : ∃ j1 : Nat, j1 = j + 1 := ⟨_, rfl⟩
     have HJ1 := yh (show IntKind.i64.wrap ((j : Int) + 1) = (j1 : Int) ∧ m - j1 < m - j ∧ j1 ≤ m from ⟨by have := HCQ.out.2.1; rw [i64_s _ (by omega) (by omega)]; omega, by omega, by omega⟩)
     have HZB1 := yh (ZB.out j1 HJ1.out.2.2)
     have HE2 := yh (show minQ (sqB ps qs sa j) (nearQ (px qs j) (py qs j) ps) = sqB ps qs sa j1 by rw [hj1]; rfl)
     have HC2 := yh hc2
     clear hc2 hjm hj1
     go_upto_region 13 with fail
     refine rgT [] HR2 ?_
     refine pV (.bool true) (by intro w; go_simp <;> (first | (rw [HC2.out]; done) | exact HC2.out | (simp [HC2.out]; done))) ?_
     refine dnS fun ws9 HS9=>?_
     clear HR2
     go_upto_region 14 with fail
     refine rgT [] HS9 ?_
     refine iX 6 j HC2.out ?_
     refine lF HG2.out (VC (px qs j) (py qs j)) (PX_room (lt_of_pts HLQ.out HC2.out)) (PX_at (lt_of_pts HLQ.out HC2.out)) ?_
     refine aL6 ?_
     intro bk12 _ _ e12
     refine nZ ?_
     refine sV (VC_one _ _) ?_
     refine dn1 bk12 fun ws10 HS10=>?_
     clear HS9
     go_upto_region 15 with fail
     have HPbk8 := HS10.p1
     refine wS [0] (Reg.fin.put Reg.fin_no _ _) (StR.move (StR.no HPbk8)) ?_
     refine gV ?_
     refine lV ?_
     refine pU ?_
     refine cX rfl rfl (fun w h => near_xG (k := 1 * k + 0) HT.out HZP.out HL.out HCV.out ((HZQ.out.x (lt_of_pts HLQ.out HC2.out)).more (by omega)) ((HZQ.out.y (lt_of_pts HLQ.out HC2.out)).more (by omega)) rfl (by omega) _ w h (h.came HG.out)) ?_
     refine cX rfl rfl (min_q (k := (96 * k + 27)) HT.out (zm HZB) ((nearQ_rz (k := 1 * k + 0) HZP.out ((HZQ.out.x (lt_of_pts HLQ.out HC2.out)).more (by omega)) ((HZQ.out.y (lt_of_pts HLQ.out HC2.out)).more (by omega)) (by rw [HL.out]; have := HCV.out.1; omega)).more (by omega)) HE2.out (by omega)) ?_
     refine sV (RC_one _) ?_
     refine dn1 bk8 fun _ HS11=>?_
     clear HS10 HPbk8
     go_upto_region 16 with fail
     refine rgT [] HS11 ?_
     refine pV (.int .i64 (j1 : Int)) (by intro w; go_simp <;> (first | (rw [HJ1.out.1]; done) | exact HJ1.out.1 | (simp [HJ1.out.1]; done))) ?_
     refine pU ?_
     refine dnS fun _ HS12=>?_
     clear HS11
     go_wp2_with fail
     go_roundg (m - j1)
     case measure => rw [HGK2.out]; exact HJ1.out.2.1
     case rel => exact ⟨j1, rfl, rfl, HJ1.out.2.2, yh (HS12.sub (.cons_cons _ (.cons _ (.refl _))))⟩
    ·have HSE := yh (show sqQ ps qs = sqB ps qs sa j by rw [← HSA.out]; unfold sqQ; rw [HM.out, if_neg (by decide), HL.out, HLQ.out, show j = m by omega])
     have HC2 := yh (show m ≤ j by omega)
     clear hc2 hjm
     go_upto_region 13 with fail
     refine rgT [] HR2 ?_
     refine pV (.bool false) (by intro w; go_simp <;> (first | (rw [HC2.out]; done) | exact HC2.out | (simp [HC2.out]; done))) ?_
     refine dnS fun _ HS9=>?_
     clear HR2
     go_upto_region 17 with fail
     have HPbk4 := HS9.p1
     refine wp_seq_text [] (StR.move (StR.no HPbk4)) ?_
     refine lV ?_
     refine sV (RC_one _) ?_
     refine pU ?_
     refine dn1 bk4 fun _ HS10=>?_
     clear HS9 HPbk4
     go_wp2_with fail
     exact ret_own2 rfl rfl rfl rfl HS10 (by repeat first|exact mC|apply mT) (n := 3) rfl (by kernel_rfl) ⟨by rw [HSE.out]; rfl, HS10.below⟩
theorem sq_x {k n m cc1 cc2 : Nat} {J1 J2 : List Value} {ps qs : Pts} (hT : Tab W) (hz : Pz k ps) (hl : ps.length = n) (hcv : 3 ≤ n ∧ n ≤ 64 ∧ Cvx ps) (hz2 : Pz k qs) (hl2 : qs.length = m) (hcv2 : 3 ≤ m ∧ m ≤ 64 ∧ Cvx qs) {z0 : Rat} (hz0 : sqQ ps qs = z0) (hk : k ≤ 1000000) (g g2 : Nat) (w : World) (h : St W l w) (hg : Blk w g 29 (PX J1 ps)) (hg2 : Blk w g2 29 (PX J2 qs)) : Rt 53 #[.slice (some ⟨g, 0, none⟩) n cc1, .slice (some ⟨g2, 0, none⟩) m cc2] w (.tuple #[.agg (RC z0), .int .i64 0]) := by
 rw [← hz0]
 cases hx : meetB ps qs with
 | true => exact sq_tx hT hz hl hcv hz2 hl2 hcv2 hx hk g g2 w h hg hg2
 | false => exact sq_fx hT hz hl hcv hz2 hl2 hcv2 hx hk g g2 w h hg hg2
theorem area_x {k n cc1 : Nat} {J1 : List Value} {ps : Pts} (hT : Tab W) (hz : Pz k ps) (hl : ps.length = n) (hcv : 3 ≤ n ∧ n ≤ 16 ∧ Cvx ps) (hk : k ≤ 100000) (g : Nat) (w : World) (h : St W l w) (hg : Blk w g 29 (PX J1 ps)) : Rt 57 #[.slice (some ⟨g, 0, none⟩) n cc1] w (.agg (RC (areaQ ps))) := by
 have HT := yh (tabS hT h); clear hT h
 have HG := yh hg; clear hg
 have HL := yh hl; clear hl
 have HNZ := yh (show ¬ n = 0 by have := hcv.1; omega)
 have HZP := yh (show Pz (1 * k + 0) ps by rw [Nat.one_mul]; exact hz); clear hz
 have HKN := yh (show k ≤ 100000 ∧ n ≤ 16 from ⟨hk, hcv.2.1⟩)
 have hcv : 3 ≤ n ∧ n ≤ 64 ∧ Cvx ps := ⟨hcv.1, by omega, hcv.2.2⟩
 have HCV := yh hcv; clear hcv hk
 go_enter Tryz.func57, Tryz.ntmps57
 have HS : St w [] w := St.start
 go_upto_region 0 with fail
 refine rgT [] HS ?_
 refine aL3 ?_
 intro bk2 _ _ e2
 refine nZ ?_
 refine dn1 bk2 fun _ HS1=>?_
 clear HS
 go_upto_region 1 with fail
 refine rgT [] HS1 ?_
 refine cX rfl rfl (of_q HT.out (by omega) (by omega) (show ((0 : Int) : Rat) = (0 : Rat) from rfl)) ?_
 refine aL3 ?_
 intro bk3 _ _ e3
 refine nZ ?_
 refine sV (RC_one _) ?_
 refine dn1 bk3 fun _ HS2=>?_
 clear HS1
 go_upto_region 2 with fail
 refine rgT [] HS2 ?_
 refine pU ?_
 refine cX rfl rfl (fun w h => convex_x (k := (1 * k + 0)) HT.out (HZP.out.more (by omega)) HL.out HCV.out (by have := HKN.out.1; omega) _ w h (h.came HG.out)) ?_
 refine pU ?_
 refine dnS fun _ HS3=>?_
 clear HS2
 go_upto_region 4 with fail
 refine rgT [] HS3 ?_
 refine pU ?_
 refine pV (.int .i64 (n : Int)) (by intro w; go_simp; try rfl) ?_
 refine pU ?_
 refine dnS fun _ HS4=>?_
 clear HS3
 go_wp2_with fail
 go_loopg [15] n (fun kk s15 wr => ∃ i : Nat, kk = n - i ∧ s15 = .int .i64 (i : Int) ∧ i ≤ n ∧ Hid (Rz (fz k i) (areaS ps i)) ∧ Hid (St w [(bk3, 27, RC (areaS ps i)), (bk2, 27, #[.bool false, .string ⟨#[]⟩, .string ⟨#[]⟩])] wr))
 case atStart => exact ⟨0, rfl, rfl, by omega, yh Rz.zero2, yh HS4⟩
 case round =>
  obtain ⟨i, hgk, rfl, hin, hZ, hS⟩ := hrel
  have HGK := yh hgk; clear hgk
  have HR := hS.out; clear hS
  have HZS := yh (show Rz (0 * k + 1000000000000) (areaS ps i) from hZ.out.more (by have := fz_le HKN.out.1 (show i ≤ 16 by have := HKN.out.2; omega); omega))
  by_cases hc : i < n
  ·have hc' := hc
   obtain ⟨i1, hi1⟩ : ∃ i1 : Nat, i1 = i + 1 := ⟨_, rfl⟩
   obtain ⟨j, hj⟩ : ∃ j : Nat, j = i1 % n := ⟨_, rfl⟩
   have hn64 : n ≤ 64 := HCV.out.2.1
   have HI1 := yh (show IntKind.i64.wrap ((i : Int) + 1) = (i1 : Int) ∧ n - i1 < n - i ∧ i1 ≤ n ∧ (i1 : Int).tmod (n : Int) = (j : Int) ∧ j < n from ⟨by rw [i64_s _ (by omega) (by omega)]; omega, by omega, by omega, by rw [hj]; exact Int.tmod_eq_emod_of_nonneg (by omega), by rw [hj]; exact Nat.mod_lt _ (by omega)⟩)
   have HC := yh hc
   clear hc hn64
   have hS1 : areaS ps i + (px ps i * py ps j - py ps i * px ps j) = areaS ps i1 := by rw [hj, hi1]; simp only [areaS]; rw [HL.out]
   have hx := HZP.out.x (lt_of_pts HL.out HC.out)
   have hy := HZP.out.y (lt_of_pts HL.out HC.out)
   have hx2 := HZP.out.x (lt_of_pts HL.out HI1.out.2.2.2.2)
   have hy2 := HZP.out.y (lt_of_pts HL.out HI1.out.2.2.2.2)
   have hzn : Rz (fz k i1) (areaS ps i1) := by
    rw [← hS1, hi1]
    simp only [fz]
    exact (hZ.out.add ((hx.mul hy2).sub (hy.mul hx2))).more (by omega)
   have HZS1 := yh (show Rz (0 * k + 1000000000000) (areaS ps i1) from hzn.more (by have := fz_le HKN.out.1 (show i1 ≤ 16 by have := HKN.out.2; omega); omega))
   have HZN := yh (yh hzn)
   have HE := yh hS1
   clear hS1 hx hy hx2 hy2 hzn hi1 hj hin hc' hZ
   go_upto_region 5 with fail
   refine rgT [] HR ?_
   refine pV (.bool true) (by intro w; go_simp <;> (first | (rw [HC.out]; done) | exact HC.out | (simp [HC.out]; done))) ?_
   refine dnS fun ws5 HS5=>?_
   clear HR
   go_upto_region 6 with fail
   refine rgT [] HS5 ?_
   refine pU ?_
   refine iX 6 i HC.out ?_
   refine lF HG.out (VC (px ps i) (py ps i)) (PX_room (lt_of_pts HL.out HC.out)) (PX_at (lt_of_pts HL.out HC.out)) ?_
   refine aL6 ?_
   intro bk5 _ _ e5
   refine nZ ?_
   refine pU ?_
   refine sV (VC_one _ _) ?_
   refine dn1 bk5 fun ws6 HS6=>?_
   clear HS5
   go_upto_region 7 with fail
   have HPbk3 := HS6.p1
   refine wS [0] (Reg.fin.put Reg.fin_no _ _) (StR.move (StR.no HPbk3)) ?_
   refine gV ?_
   refine lV ?_
   iterate 2 refine pU ?_
   refine pV (.int .i64 (i1 : Int)) (by intro w; go_simp <;> (first | (rw [HI1.out.1]; done) | exact HI1.out.1 | (simp [HI1.out.1]; done))) ?_
   refine pU ?_
   refine pV (.int .i64 (n : Int)) (by intro w; go_simp; try rfl) ?_
   refine pV (.int .i64 (j : Int)) (by intro w; go_simp <;> (first | (rw [HNZ.out]; done) | (rw [HI1.out.2.2.2.1]; done) | exact HNZ.out | exact HI1.out.2.2.2.1 | (simp [HNZ.out, HI1.out.2.2.2.1]; done))) ?_
   refine iX 6 j HI1.out.2.2.2.2 ?_
   refine lF HG.out (VC (px ps j) (py ps j)) (PX_room (lt_of_pts HL.out HI1.out.2.2.2.2)) (PX_at (lt_of_pts HL.out HI1.out.2.2.2.2)) ?_
   refine cX rfl rfl (cross_q (k := (1 * k + 0)) HT.out ((HZP.out.x (lt_of_pts HL.out HC.out)).more (by have := HKN.out.1; omega)) ((HZP.out.y (lt_of_pts HL.out HC.out)).more (by have := HKN.out.1; omega)) ((HZP.out.x (lt_of_pts HL.out HI1.out.2.2.2.2)).more (by have := HKN.out.1; omega)) ((HZP.out.y (lt_of_pts HL.out HI1.out.2.2.2.2)).more (by have := HKN.out.1; omega))  rfl (by have := HKN.out.1; omega)) ?_
   refine cX rfl rfl (add_q (k := (8 * k + 1000000000000)) HT.out (HZS.out.more (by have := HKN.out.1; omega)) ((((HZP.out.x (lt_of_pts HL.out HC.out)).mul (HZP.out.y (lt_of_pts HL.out HI1.out.2.2.2.2))).sub ((HZP.out.y (lt_of_pts HL.out HC.out)).mul (HZP.out.x (lt_of_pts HL.out HI1.out.2.2.2.2)))).more (by have := HKN.out.1; omega)) HE.out (by have := HKN.out.1; omega)) ?_
   refine sV (RC_one _) ?_
   refine dn1 bk3 fun ws7 HS7=>?_
   clear HS6 HPbk3
   go_upto_region 8 with fail
   refine rgT [] HS7 ?_
   refine pV (.int .i64 (i1 : Int)) (by intro w; go_simp <;> (first | (rw [HI1.out.1]; done) | exact HI1.out.1 | (simp [HI1.out.1]; done))) ?_
   refine pU ?_
   refine dnS fun _ HS8=>?_
   clear HS7
   go_wp2_with fail
   go_roundg (n - i1)
   case measure => rw [HGK.out]; exact HI1.out.2.1
   case rel => exact ⟨i1, rfl, rfl, HI1.out.2.2.1, HZN.out, yh (HS8.sub (.cons_cons _ (.cons _ (.refl _))))⟩
  ·obtain ⟨hf, eh⟩ : ∃ z, ((1 : Int) : Rat) / ((2 : Int) : Rat) = z := ⟨_, rfl⟩
   obtain ⟨ar, ear⟩ : ∃ z, areaQ ps = z := ⟨_, rfl⟩
   have Z_hf := yh (show Rz 4 hf from eh ▸ num_s 1 2 (by decide) (by decide) (by decide))
   have HE := yh (show hf * areaS ps i = ar by rw [← ear, ← eh]; unfold areaQ; rw [HL.out, show i = n by omega])
   have HAR := yh ear
   have EH := yh eh; clear eh ear
   have HC := yh (show n ≤ i by omega)
   clear hc hin hZ
   go_upto_region 5 with fail
   refine rgT [] HR ?_
   refine pV (.bool false) (by intro w; go_simp <;> (first | (rw [HC.out]; done) | exact HC.out | (simp [HC.out]; done))) ?_
   refine dnS fun _ HS5=>?_
   clear HR
   go_upto_region 9 with fail
   refine rgT [] HS5 ?_
   refine cX rfl rfl (make_q HT.out (by have := HKN.out.1; omega) (by have := HKN.out.1; omega) (by have := HKN.out.1; omega) (by have := HKN.out.1; omega) (by have := HKN.out.1; omega) EH.out) ?_
   refine pU ?_
   refine pV (.agg (RC hf)) (fun w => rfl) ?_
   refine pV (.int .i64 0) (fun w => rfl) ?_
   refine aL3 ?_
   intro bk6 _ _ e6
   refine nZ ?_
   refine sV (RC_one _) ?_
   refine pU ?_
   refine dn1 bk6 fun _ HS6=>?_
   clear HS5
   go_upto_region 10 with fail
   have HPbk2 := HS6.p2
   refine wp_seq_text [] (StR.move (StR.no HPbk2)) ?_
   iterate 2 refine lV ?_
   refine cX rfl rfl (mul_q (k := 1000000000000) HT.out (Z_hf.out.more (by have := HKN.out.1; omega)) (HZS.out.more (by have := HKN.out.1; omega)) HE.out (by have := HKN.out.1; omega)) ?_
   refine sV (RC_one _) ?_
   refine dn1 bk2 fun _ HS7=>?_
   clear HS6 HPbk2
   go_wp2_with fail
   exact ret_own rfl rfl rfl HS7 (by repeat first|exact mC|apply mT) (n := 3) rfl (by kernel_rfl) ⟨by rw [HAR.out], HS7.below⟩
theorem area_xG {k n cc1 : Nat} {J1 : List Value} {ps : Pts} {z0 : Rat} (hT : Tab W) (hz : Pz k ps) (hl : ps.length = n) (hcv : 3 ≤ n ∧ n ≤ 16 ∧ Cvx ps) (hz0 : areaQ ps = z0) (hk : k ≤ 100000) (g : Nat) (w : World) (h : St W l w) (hg : Blk w g 29 (PX J1 ps)) : Rt 57 #[.slice (some ⟨g, 0, none⟩) n cc1] w (.agg (RC z0)) := by
 rw [← hz0]; exact area_x hT hz hl hcv hk g w h hg
end Go.Proofs.YtmchjmflkaiakaaGreatDoor
