/- Joined texts: ApX1 ApX2. -/
import Derived.Test.YtmchjmflkaiakaaGreatDoorAp1
import Derived.Test.YtmchjmflkaiakaaGreatDoorHuI
import Derived.Deep.LoopGhost
set_option maxHeartbeats 4000000
set_option maxRecDepth 20000
namespace Go.Proofs.YtmchjmflkaiakaaGreatDoor
open Go.RowKit
set_option linter.unusedVariables false
set_option linter.unusedSimpArgs false
theorem near_x {k n cc1 : Nat} {J1 : List Value} {ps : Pts} {v1 v2 : Rat} {W : World} {l : List Own} (hT : Tab W) (hz : Pz k ps) (hl : ps.length = n) (hcv : 3 ≤ n ∧ n ≤ 64 ∧ Cvx ps) (Zv1 : Rz k v1) (Zv2 : Rz k v2) (hk : k ≤ 1000000000) (g : Nat) (w : World) (h : St W l w) (hg : Blk w g 29 (PX J1 ps)) : Rt 96 #[.agg (VC v1 v2), .slice (some ⟨g, 0, none⟩) n cc1] w (.agg (RC (nearQ v1 v2 ps))) := by
 have HT := yh (tabS hT h); clear hT h
 have HG := yh hg; clear hg
 have HL := yh hl; clear hl
 have HNZ := yh (show ¬ n = 0 by have := hcv.1; omega)
 have HZP := yh (show Pz (1 * k + 0) ps by rw [Nat.one_mul]; exact hz); clear hz
 have HCV := yh (show 3 ≤ n ∧ n ≤ 64 ∧ True from ⟨hcv.1, hcv.2.1, trivial⟩)
 have HPOS := yh (show 0 < n ∧ 1 < n from ⟨by have := hcv.1; omega, by have := hcv.1; omega⟩)
 have Z_v1 := yh Zv1; clear Zv1
 have Z_v2 := yh Zv2; clear Zv2
 have HZN := yh (show Rz (96 * k + 27) (nearF v1 v2 ps 0) from near_rz (show Pz k ps by have := HZP.out; rwa [Nat.one_mul] at this) Z_v1.out Z_v2.out (by rw [HL.out]; omega) 0 (by omega))
 clear hcv
 go_enter Tryz.func96, Tryz.ntmps96
 have HS : St w [] w := St.start
 go_upto_region 0 with fail
 refine rgT [] HS ?_
 refine bX (VC v1 v2) ?_
 intro bk2 _ _ e2
 refine nZ ?_
 refine aL3 ?_
 intro bk4 _ _ e4
 obtain ⟨_, _, e4⟩ := Reg.ne2 e4
 refine nZ ?_
 refine dn2 bk2 bk4 fun _ HS1=>?_
 clear HS
 go_upto_region 1 with fail
 refine rgW [] HS1 ?_
 refine lV ?_
 refine pU ?_
 refine iX 6 0 HPOS.out.1 ?_
 refine lF HG.out (VC (px ps 0) (py ps 0)) (PX_room (lt_of_pts HL.out HPOS.out.1)) (PX_at (lt_of_pts HL.out HPOS.out.1)) ?_
 refine pU ?_
 refine iX 6 1 HPOS.out.2 ?_
 refine lF HG.out (VC (px ps 1) (py ps 1)) (PX_room (lt_of_pts HL.out HPOS.out.2)) (PX_at (lt_of_pts HL.out HPOS.out.2)) ?_
 refine cX rfl rfl (te_q (k := (1 * k + 0)) HT.out (zm Z_v1) (zm Z_v2) ((HZP.out.x (lt_of_pts HL.out HPOS.out.1)).more (by omega)) ((HZP.out.y (lt_of_pts HL.out HPOS.out.1)).more (by omega)) ((HZP.out.x (lt_of_pts HL.out HPOS.out.2)).more (by omega)) ((HZP.out.y (lt_of_pts HL.out HPOS.out.2)).more (by omega)) rfl (by omega)) ?_
 refine aL3 ?_
 intro bk5 _ _ e5
 refine nZ ?_
 refine sV (RC_one _) ?_
 refine dn1 bk5 fun _ HS2=>?_
 clear HS1
 go_upto_region 2 with fail
 refine rgT [] HS2 ?_
 refine pU ?_
 refine pV (.int .i64 (n : Int)) (by intro w; go_simp; try rfl) ?_
 refine pU ?_
 refine dnS fun _ HS3=>?_
 clear HS2
 go_wp2_with fail
 go_loopg [18] n (fun kk s18 wr => ∃ i : Nat, kk = n - i ∧ s18 = .int .i64 (i : Int) ∧ i ≤ n ∧ Hid (St w [(bk5, 27, RC (nearF v1 v2 ps i)), (bk2, 29, VC v1 v2), (bk4, 27, #[.bool false, .string ⟨#[]⟩, .string ⟨#[]⟩])] wr))
 case atStart => exact ⟨0, rfl, rfl, by omega, yh HS3⟩
 case round =>
  obtain ⟨i, hgk, rfl, hin, hS⟩ := hrel
  have HGK := yh hgk; clear hgk
  have HR := hS.out; clear hS
  have HZN := yh (show Rz (96 * k + 27) (nearF v1 v2 ps i) from near_rz (show Pz k ps by have := HZP.out; rwa [Nat.one_mul] at this) (by have := Z_v1.out; exact this) Z_v2.out (by rw [HL.out]; have := HCV.out.1; omega) i (by rw [HL.out]; exact hin))
  by_cases hc : i < n
  ·have hc' := hc
   obtain ⟨i1, hi1⟩ : ∃ i1 : Nat, i1 = i + 1 := ⟨_, rfl⟩
   obtain ⟨j, hj⟩ : ∃ j : Nat, j = i1 % n := ⟨_, rfl⟩
   have hn64 : n ≤ 64 := HCV.out.2.1
   have HI1 := yh (show IntKind.i64.wrap ((i : Int) + 1) = (i1 : Int) ∧ n - i1 < n - i ∧ i1 ≤ n ∧ (i1 : Int).tmod (n : Int) = (j : Int) ∧ j < n from ⟨by rw [i64_s _ (by omega) (by omega)]; omega, by omega, by omega, by rw [hj]; exact Int.tmod_eq_emod_of_nonneg (by omega), by rw [hj]; exact Nat.mod_lt _ (by omega)⟩)
   have HC := yh hc
   clear hc hn64
   have HE := yh (show minQ (nearF v1 v2 ps i) (teQ v1 v2 (px ps i) (py ps i) (px ps j) (py ps j)) = nearF v1 v2 ps i1 by rw [hj, hi1]; simp only [nearF]; rw [HL.out])
   have HZN1 := yh (show Rz (96 * k + 27) (nearF v1 v2 ps i1) from near_rz (show Pz k ps by have := HZP.out; rwa [Nat.one_mul] at this) Z_v1.out Z_v2.out (by rw [HL.out]; have := HCV.out.1; omega) i1 (by rw [HL.out]; omega))
   clear hi1 hj hin hc'
   go_upto_region 3 with fail
   refine rgT [] HR ?_
   refine pV (.bool true) (by intro w; go_simp <;> (first | (rw [HC.out]; done) | exact HC.out | (simp [HC.out]; done))) ?_
   refine dnS fun ws4 HS4=>?_
   clear HR
   go_upto_region 4 with fail
   refine rgT [] HS4 ?_
   refine pU ?_
   refine iX 6 i HC.out ?_
   refine lF HG.out (VC (px ps i) (py ps i)) (PX_room (lt_of_pts HL.out HC.out)) (PX_at (lt_of_pts HL.out HC.out)) ?_
   refine aL6 ?_
   intro bk7 _ _ e7
   refine nZ ?_
   refine pU ?_
   refine sV (VC_one _ _) ?_
   refine dn1 bk7 fun ws5 HS5=>?_
   clear HS4
   go_upto_region 5 with fail
   have HPbk5 := HS5.p1
   refine wS [0] (Reg.fin.put Reg.fin_no _ _) (StR.move (StR.no HPbk5)) ?_
   refine gV ?_
   iterate 2 refine lV ?_
   iterate 2 refine pU ?_
   refine pV (.int .i64 (i1 : Int)) (by intro w; go_simp <;> (first | (rw [HI1.out.1]; done) | exact HI1.out.1 | (simp [HI1.out.1]; done))) ?_
   refine pU ?_
   refine pV (.int .i64 (n : Int)) (by intro w; go_simp; try rfl) ?_
   refine pV (.int .i64 (j : Int)) (by intro w; go_simp <;> (first | (rw [HNZ.out]; done) | (rw [HI1.out.2.2.2.1]; done) | exact HNZ.out | exact HI1.out.2.2.2.1 | (simp [HNZ.out, HI1.out.2.2.2.1]; done))) ?_
   refine iX 6 j HI1.out.2.2.2.2 ?_
   refine lF HG.out (VC (px ps j) (py ps j)) (PX_room (lt_of_pts HL.out HI1.out.2.2.2.2)) (PX_at (lt_of_pts HL.out HI1.out.2.2.2.2)) ?_
   refine cX rfl rfl (te_q (k := (1 * k + 0)) HT.out (zm Z_v1) (zm Z_v2) ((HZP.out.x (lt_of_pts HL.out HC.out)).more (by omega)) ((HZP.out.y (lt_of_pts HL.out HC.out)).more (by omega)) ((HZP.out.x (lt_of_pts HL.out HI1.out.2.2.2.2)).more (by omega)) ((HZP.out.y (lt_of_pts HL.out HI1.out.2.2.2.2)).more (by omega)) rfl (by omega)) ?_
   refine cX rfl rfl (min_q (k := (96 * k + 27)) HT.out (zm HZN) ((te_rz (k := (1 * k + 0)) (zm Z_v1) (zm Z_v2) ((HZP.out.x (lt_of_pts HL.out HC.out)).more (by omega)) ((HZP.out.y (lt_of_pts HL.out HC.out)).more (by omega)) ((HZP.out.x (lt_of_pts HL.out HI1.out.2.2.2.2)).more (by omega)) ((HZP.out.y (lt_of_pts HL.out HI1.out.2.2.2.2)).more (by omega))).more (by omega)) HE.out (by omega)) ?_
   refine sV (RC_one _) ?_
   refine dn1 bk5 fun _ HS6=>?_
   clear HS5 HPbk5
   go_upto_region 6 with fail
   refine rgT [] HS6 ?_
   refine pV (.int .i64 (i1 : Int)) (by intro w; go_simp <;> (first | (rw [HI1.out.1]; done) | exact HI1.out.1 | (simp [HI1.out.1]; done))) ?_
   refine pU ?_
   refine dnS fun _ HS7=>?_
   clear HS6
   go_wp2_with fail
   go_roundg (n - i1)
   case measure => rw [HGK.out]; exact HI1.out.2.1
   case rel => exact ⟨i1, rfl, rfl, HI1.out.2.2.1, yh (HS7.sub (.cons_cons _ (.cons _ (.refl _))))⟩
  ·have HE := yh (show nearQ v1 v2 ps = nearF v1 v2 ps i by unfold nearQ; rw [HL.out, show i = n by omega])
   have HC := yh (show n ≤ i by omega)
   clear hc hin
   go_upto_region 3 with fail
   refine rgT [] HR ?_
   refine pV (.bool false) (by intro w; go_simp <;> (first | (rw [HC.out]; done) | exact HC.out | (simp [HC.out]; done))) ?_
   refine dnS fun _ HS4=>?_
   clear HR
   go_upto_region 7 with fail
   have HPbk4 := HS4.p2
   refine wp_seq_text [] (StR.move (StR.no HPbk4)) ?_
   refine lV ?_
   refine sV (RC_one _) ?_
   refine dn1 bk4 fun _ HS5=>?_
   clear HS4 HPbk4
   go_wp2_with fail
   exact ret_own rfl rfl rfl HS5 (by repeat first|exact mC|apply mT) (n := 3) rfl (by kernel_rfl) ⟨by rw [HE.out], HS5.below⟩
theorem near_xG {k n cc1 : Nat} {J1 : List Value} {ps : Pts} {v1 v2 z0 : Rat} {W : World} {l : List Own} (hT : Tab W) (hz : Pz k ps) (hl : ps.length = n) (hcv : 3 ≤ n ∧ n ≤ 64 ∧ Cvx ps) (Zv1 : Rz k v1) (Zv2 : Rz k v2) (hz0 : nearQ v1 v2 ps = z0) (hk : k ≤ 1000000000) (g : Nat) (w : World) (h : St W l w) (hg : Blk w g 29 (PX J1 ps)) : Rt 96 #[.agg (VC v1 v2), .slice (some ⟨g, 0, none⟩) n cc1] w (.agg (RC z0)) := by
 rw [← hz0]; exact near_x hT hz hl hcv Zv1 Zv2 hk g w h hg
variable {W : World} {l : List Own}
theorem beyond_x {k n m cc1 cc2 : Nat} {J1 J2 : List Value} {ps qs : Pts} (hT : Tab W) (hz : Pz k ps) (hl : ps.length = n) (hcv : 3 ≤ n ∧ n ≤ 64 ∧ Cvx ps) (hz2 : Pz k qs) (hl2 : qs.length = m) (hcv2 : 3 ≤ m ∧ m ≤ 64 ∧ Cvx qs) (hk : k ≤ 1000000) (g g2 : Nat) (w : World) (h : St W l w) (hg : Blk w g 29 (PX J1 ps)) (hg2 : Blk w g2 29 (PX J2 qs)) : Rt 98 #[.slice (some ⟨g, 0, none⟩) n cc1, .slice (some ⟨g2, 0, none⟩) m cc2] w (.tuple #[.agg (bydC ps qs), .bool (bydB ps qs)]) := by
 have HT := yh (tabS hT h); clear hT h
 have HG := yh hg; clear hg
 have HL := yh hl; clear hl
 have HNZ := yh (show ¬ n = 0 by have := hcv.1; omega)
 have HZP := yh (show Pz (1 * k + 0) ps by rw [Nat.one_mul]; exact hz); clear hz
 have HG2 := yh hg2; clear hg2
 have HLQ := yh hl2; clear hl2
 have HZQ := yh (show Pz (1 * k + 0) qs by rw [Nat.one_mul]; exact hz2); clear hz2
 have HCV := yh hcv; clear hcv
 have HCQ := yh hcv2; clear hcv2
 go_enter Tryz.func98, Tryz.ntmps98
 have HS : St w [] w := St.start
 go_upto_region 0 with fail
 refine rgT [] HS ?_
 refine aL6 ?_
 intro bk4 _ _ e4
 refine nZ ?_
 refine pU ?_
 refine dn1 bk4 fun _ HS1=>?_
 clear HS
 go_upto_region 1 with fail
 refine rgT [] HS1 ?_
 refine pU ?_
 refine pV (.int .i64 (n : Int)) (by intro w; go_simp; try rfl) ?_
 refine pU ?_
 refine dnS fun _ HS2=>?_
 clear HS1
 go_wp2_with fail
 go_loopg [15] n (fun kk s15 wr => ∃ i : Nat, kk = n - i ∧ s15 = .int .i64 (i : Int) ∧ i ≤ n ∧ Hid (∀ q, q < i → sepB ps qs q = false) ∧ Hid (St w [(bk4, 29, #[.bool false, .string ⟨#[]⟩, .string ⟨#[]⟩, .bool false, .string ⟨#[]⟩, .string ⟨#[]⟩])] wr))
 case atStart => exact ⟨0, rfl, rfl, by omega, yh (fun q hq => absurd hq (by omega)), yh HS2⟩
 case round =>
  obtain ⟨i, hgk, rfl, hin, hno, hS⟩ := hrel
  have HGK := yh hgk; clear hgk
  have HR := hS.out; clear hS
  by_cases hc : i < n
  ·have hc' := hc
   obtain ⟨i1, hi1⟩ : ∃ i1 : Nat, i1 = i + 1 := ⟨_, rfl⟩
   obtain ⟨jn, hjn⟩ : ∃ j : Nat, j = i1 % n := ⟨_, rfl⟩
   have hn64 : n ≤ 64 := HCV.out.2.1
   have HI1 := yh (show IntKind.i64.wrap ((i : Int) + 1) = (i1 : Int) ∧ n - i1 < n - i ∧ i1 ≤ n ∧ (i1 : Int).tmod (n : Int) = (jn : Int) ∧ jn < n from ⟨by rw [i64_s _ (by omega) (by omega)]; omega, by omega, by omega, by rw [hjn]; exact Int.tmod_eq_emod_of_nonneg (by omega), by rw [hjn]; exact Nat.mod_lt _ (by omega)⟩)
   have HC := yh hc
   have HIJ := yh (And.intro hi1 hjn)
   have HNO := yh hno.out
   clear hc hn64 hi1 hjn hin hno
   go_upto_region 2 with fail
   refine rgT [] HR ?_
   refine pV (.bool true) (by intro w; go_simp <;> (first | (rw [HC.out]; done) | exact HC.out | (simp [HC.out]; done))) ?_
   refine dnS fun ws3 HS3=>?_
   clear HR
   go_upto_region 3 with fail
   refine rgT [] HS3 ?_
   refine pU ?_
   refine iX 6 i HC.out ?_
   refine lF HG.out (VC (px ps i) (py ps i)) (PX_room (lt_of_pts HL.out HC.out)) (PX_at (lt_of_pts HL.out HC.out)) ?_
   refine aL6 ?_
   intro bk7 _ _ e7
   refine nZ ?_
   refine pU ?_
   refine sV (VC_one _ _) ?_
   refine dn1 bk7 fun ws4 HS4=>?_
   clear HS3
   go_upto_region 4 with fail
   refine rgW [] HS4 ?_
   iterate 2 refine pU ?_
   refine pV (.int .i64 (i1 : Int)) (by intro w; go_simp <;> (first | (rw [HI1.out.1]; done) | exact HI1.out.1 | (simp [HI1.out.1]; done))) ?_
   refine pU ?_
   refine pV (.int .i64 (n : Int)) (by intro w; go_simp; try rfl) ?_
   refine pV (.int .i64 (jn : Int)) (by intro w; go_simp <;> (first | (rw [HNZ.out]; done) | (rw [HI1.out.2.2.2.1]; done) | exact HNZ.out | exact HI1.out.2.2.2.1 | (simp [HNZ.out, HI1.out.2.2.2.1]; done))) ?_
   refine iX 6 jn HI1.out.2.2.2.2 ?_
   refine lF HG.out (VC (px ps jn) (py ps jn)) (PX_room (lt_of_pts HL.out HI1.out.2.2.2.2)) (PX_at (lt_of_pts HL.out HI1.out.2.2.2.2)) ?_
   refine lV ?_
   refine cX rfl rfl (vsub_q (k := (1 * k + 0)) HT.out ((HZP.out.x (lt_of_pts HL.out HI1.out.2.2.2.2)).more (by omega)) ((HZP.out.y (lt_of_pts HL.out HI1.out.2.2.2.2)).more (by omega)) ((HZP.out.x (lt_of_pts HL.out HC.out)).more (by omega)) ((HZP.out.y (lt_of_pts HL.out HC.out)).more (by omega))  rfl rfl (by omega)) ?_
   refine aL6 ?_
   intro bk8 _ _ e8
   refine nZ ?_
   refine sV (VC_one _ _) ?_
   refine dn1 bk8 fun _ HS5=>?_
   clear HS4
   go_upto_region 5 with fail
   refine rgW [] HS5 ?_
   refine pU ?_
   refine lA (RC ((py ps jn) - (py ps i))) ?_
   refine pU ?_
   refine lA (RC ((px ps jn) - (px ps i))) ?_
   refine cX rfl rfl (neg_q (k := (4 * k + 1)) HT.out (((HZP.out.x (lt_of_pts HL.out HI1.out.2.2.2.2)).sub (HZP.out.x (lt_of_pts HL.out HC.out))).more (by omega)) rfl (by omega)) ?_
   refine pV (.agg (VC ((py ps jn) - (py ps i)) (-((px ps jn) - (px ps i))))) (fun w => bld_Vec rfl rfl rfl w) ?_
   refine aL6 ?_
   intro bk9 _ _ e9
   refine nZ ?_
   refine sV (VC_one _ _) ?_
   refine dn1 bk9 fun _ HS6=>?_
   clear HS5
   go_upto_region 6 with fail
   refine rgT [] HS6 ?_
   refine pU ?_
   refine dnS fun _ HS7=>?_
   clear HS6
   go_upto_region 7 with fail
   refine rgT [] HS7 ?_
   refine pU ?_
   refine pV (.int .i64 (m : Int)) (by intro w; go_simp; try rfl) ?_
   refine pU ?_
   refine dnS fun _ HS8=>?_
   clear HS7
   go_wp2_with fail
   go_loopg [10, 38] m (fun kk s10 s38 wr => ∃ q : Nat, ∃ f : Bool, kk = m - q ∧ s10 = .bool f ∧ s38 = .int .i64 (q : Int) ∧ q ≤ m ∧ Hid (f = farF ps qs i q) ∧ Hid (St w [(bk9, 29, VC ((py ps jn) - (py ps i)) (-((px ps jn) - (px ps i)))), (bk8, 29, VC ((px ps jn) - (px ps i)) ((py ps jn) - (py ps i))), (bk7, 29, VC (px ps i) (py ps i)), (bk4, 29, #[.bool false, .string ⟨#[]⟩, .string ⟨#[]⟩, .bool false, .string ⟨#[]⟩, .string ⟨#[]⟩])] wr))
   case atStart => exact ⟨0, true, rfl, rfl, rfl, by omega, yh rfl, yh HS8⟩
   case round =>
    obtain ⟨q, f, hgk2, rfl, rfl, hqm, hf, hS2⟩ := hrel
    have HGK2 := yh hgk2; clear hgk2
    have HR2 := hS2.out; clear hS2
    have hf := hf.out
    by_cases hc2 : q < m
    ·obtain ⟨q1, hq1⟩ : ∃ q1 : Nat, q1 = q + 1 := ⟨_, rfl⟩
     have HQ1 := yh (show IntKind.i64.wrap ((q : Int) + 1) = (q1 : Int) ∧ m - q1 < m - q ∧ q1 ≤ m from ⟨by have := HCQ.out.2.1; rw [i64_s _ (by omega) (by omega)]; omega, by omega, by omega⟩)
     have HC2 := yh hc2
     cases f with
     | true =>
       obtain ⟨sv, hsv⟩ : ∃ v, sgnQ ((py ps jn - py ps i) * (px qs q - px ps i) + (-(px ps jn - px ps i)) * (py qs q - py ps i)) = v := ⟨_, rfl⟩
       have HE := yh (show decide (0 < sv) = farF ps qs i q1 by
        rw [hq1]; simp only [farF]; rw [← hf, Bool.true_and, ← hsv, sgn_dec]
        unfold dt; rw [HL.out, ← HIJ.out.1, ← HIJ.out.2])
       have HSV := yh hsv; clear hsv
       clear hc2 hqm hq1 hf
       go_upto_region 8 with fail
       refine rgT [] HR2 ?_
       refine pV (.bool true) (by intro w; go_simp <;> (first | (rw [HC2.out]; done) | exact HC2.out | (simp [HC2.out]; done))) ?_
       refine dnS fun ws9 HS9=>?_
       clear HR2
       go_upto_region 9 with fail
       refine rgT [] HS9 ?_
       refine iX 6 q HC2.out ?_
       refine lF HG2.out (VC (px qs q) (py qs q)) (PX_room (lt_of_pts HLQ.out HC2.out)) (PX_at (lt_of_pts HLQ.out HC2.out)) ?_
       refine aL6 ?_
       intro bk12 _ _ e12
       refine nZ ?_
       refine sV (VC_one _ _) ?_
       refine dn1 bk12 fun ws10 HS10=>?_
       clear HS9
       go_upto_region 10 with fail
       refine rgW [] HS10 ?_
       iterate 2 refine pU ?_
       iterate 3 refine lV ?_
       refine cX rfl rfl (vsub_q (k := (1 * k + 0)) HT.out ((HZQ.out.x (lt_of_pts HLQ.out HC2.out)).more (by omega)) ((HZQ.out.y (lt_of_pts HLQ.out HC2.out)).more (by omega)) ((HZP.out.x (lt_of_pts HL.out HC.out)).more (by omega)) ((HZP.out.y (lt_of_pts HL.out HC.out)).more (by omega))  rfl rfl (by omega)) ?_
       refine cX rfl rfl (dot_q (k := (4 * k + 1)) HT.out (((HZP.out.y (lt_of_pts HL.out HI1.out.2.2.2.2)).sub (HZP.out.y (lt_of_pts HL.out HC.out))).more (by omega)) (((HZP.out.x (lt_of_pts HL.out HI1.out.2.2.2.2)).sub (HZP.out.x (lt_of_pts HL.out HC.out))).neg.more (by omega)) (((HZQ.out.x (lt_of_pts HLQ.out HC2.out)).sub (HZP.out.x (lt_of_pts HL.out HC.out))).more (by omega)) (((HZQ.out.y (lt_of_pts HLQ.out HC2.out)).sub (HZP.out.y (lt_of_pts HL.out HC.out))).more (by omega))  rfl (by omega)) ?_
       refine cX rfl rfl (sign_q (k := (32 * k + 9)) HT.out (((((HZP.out.y (lt_of_pts HL.out HI1.out.2.2.2.2)).sub (HZP.out.y (lt_of_pts HL.out HC.out))).mul ((HZQ.out.x (lt_of_pts HLQ.out HC2.out)).sub (HZP.out.x (lt_of_pts HL.out HC.out)))).add (((HZP.out.x (lt_of_pts HL.out HI1.out.2.2.2.2)).sub (HZP.out.x (lt_of_pts HL.out HC.out))).neg.mul ((HZQ.out.y (lt_of_pts HLQ.out HC2.out)).sub (HZP.out.y (lt_of_pts HL.out HC.out))))).more (by omega)) HSV.out (by omega)) ?_
       iterate 3 refine pU ?_
       refine dnS fun ws11 HS11=>?_
       clear HS10
       go_upto_region 11 with fail
       refine rgT [] HS11 ?_
       refine pV (.int .i64 (q1 : Int)) (by intro w; go_simp <;> (first | (rw [HQ1.out.1]; done) | exact HQ1.out.1 | (simp [HQ1.out.1]; done))) ?_
       refine pU ?_
       refine dnS fun ws12 HS12=>?_
       clear HS11
       go_wp2_with fail
       go_roundg (m - q1)
       case measure => rw [HGK2.out]; exact HQ1.out.2.1
       case rel => exact ⟨q1, _, rfl, rfl, rfl, HQ1.out.2.2, yh (yh HE.out).out, yh HS12.drop⟩
     | false =>
       have HE := yh (show false = farF ps qs i q1 by rw [hq1]; simp only [farF]; rw [← hf, Bool.false_and])
       clear hc2 hqm hq1 hf
       go_upto_region 8 with fail
       refine rgT [] HR2 ?_
       refine pV (.bool true) (by intro w; go_simp <;> (first | (rw [HC2.out]; done) | exact HC2.out | (simp [HC2.out]; done))) ?_
       refine dnS fun ws9 HS9=>?_
       clear HR2
       go_upto_region 9 with fail
       refine rgT [] HS9 ?_
       refine iX 6 q HC2.out ?_
       refine lF HG2.out (VC (px qs q) (py qs q)) (PX_room (lt_of_pts HLQ.out HC2.out)) (PX_at (lt_of_pts HLQ.out HC2.out)) ?_
       refine aL6 ?_
       intro bk12 _ _ e12
       refine nZ ?_
       refine sV (VC_one _ _) ?_
       refine dn1 bk12 fun ws10 HS10=>?_
       clear HS9
       go_upto_region 10 with fail
       refine rgW [] HS10 ?_
       iterate 2 refine pU ?_
       iterate 7 refine nW ?_
       iterate 2 refine pU ?_
       refine dnS fun ws11 HS11=>?_
       clear HS10
       go_upto_region 11 with fail
       refine rgT [] HS11 ?_
       refine pV (.int .i64 (q1 : Int)) (by intro w; go_simp <;> (first | (rw [HQ1.out.1]; done) | exact HQ1.out.1 | (simp [HQ1.out.1]; done))) ?_
       refine pU ?_
       refine dnS fun _ HS12=>?_
       clear HS11
       go_wp2_with fail
       go_roundg (m - q1)
       case measure => rw [HGK2.out]; exact HQ1.out.2.1
       case rel => exact ⟨q1, _, rfl, rfl, rfl, HQ1.out.2.2, yh (yh HE.out).out, yh HS12.drop⟩
    ·have HC2 := yh (show m ≤ q by omega)
     have hfs : f = sepB ps qs i := by rw [hf, ← farF_sep, HLQ.out, show q = m by omega]
     have hil : i < ps.length := by rw [HL.out]; exact HC.out
     cases f with
     | true =>
       have HE := yh (show bydB ps qs = true ∧ bydC ps qs = VC (py ps jn - py ps i) (-(px ps jn - px ps i)) ∧ True from ⟨bydB_at hil hfs.symm, by
        unfold bydC; rw [bydI_at hil hfs.symm HNO.out]; simp only [nrx, nry]; rw [HL.out, ← HIJ.out.1, ← HIJ.out.2], trivial⟩)
       clear hc2 hqm hf hfs hil
       go_upto_region 8 with fail
       refine rgT [] HR2 ?_
       refine pV (.bool false) (by intro w; go_simp <;> (first | (rw [HC2.out]; done) | exact HC2.out | (simp [HC2.out]; done))) ?_
       refine dnS fun ws9 HS9=>?_
       clear HR2
       go_upto_region 12 with fail
       refine rgT [] HS9 ?_
       refine pU ?_
       refine dnS fun ws10 HS10=>?_
       clear HS9
       go_upto_region 13 with fail
       have HPbk4 := HS10.p3
       refine wp_seq_text [] (StR.move (StR.no HPbk4)) ?_
       refine lV ?_
       refine sV (VC_one _ _) ?_
       refine pU ?_
       refine dn1 bk4 fun ws11 HS11=>?_
       clear HS10 HPbk4
       go_wp2_with fail
       exact ret_own2 rfl rfl rfl rfl HS11 (by repeat first|exact mC|apply mT) (n := 6) rfl (by kernel_rfl) ⟨by rw [HE.out.1, HE.out.2.1]; rfl, HS11.below⟩
     | false =>
       have HE := yh (yh (show ∀ q, q < i1 → sepB ps qs q = false from fun z hz => by
        rcases Nat.lt_or_ge z i with h | h
        ·exact HNO.out z h
        ·have : z = i := by have := HIJ.out.1; omega
         rw [this]; exact hfs.symm))
       clear hc2 hqm hf hfs hil
       go_upto_region 8 with fail
       refine rgT [] HR2 ?_
       refine pV (.bool false) (by intro w; go_simp <;> (first | (rw [HC2.out]; done) | exact HC2.out | (simp [HC2.out]; done))) ?_
       refine dnS fun _ HS9=>?_
       clear HR2
       go_upto_region 12 with fail
       refine rgT [] HS9 ?_
       refine pU ?_
       refine dnS fun _ HS10=>?_
       clear HS9
       go_upto_region 14 with fail
       refine rgT [] HS10 ?_
       refine pV (.int .i64 (i1 : Int)) (by intro w; go_simp <;> (first | (rw [HI1.out.1]; done) | exact HI1.out.1 | (simp [HI1.out.1]; done))) ?_
       refine pU ?_
       refine dnS fun _ HS11=>?_
       clear HS10
       go_wp2_with fail
       go_roundg (n - i1)
       case measure => rw [HGK.out]; exact HI1.out.2.1
       case rel => exact ⟨i1, rfl, rfl, HI1.out.2.2.1, HE.out, yh (HS11.sub (.cons _ (.cons _ (.cons _ (.refl _)))))⟩
  ·have hno' := hno.out
   have HE := yh (show bydB ps qs = false ∧ bydC ps qs = #[.bool false, .string ⟨#[]⟩, .string ⟨#[]⟩, .bool false, .string ⟨#[]⟩, .string ⟨#[]⟩] from ⟨bydB_no (fun q hq => hno' q (by rw [HL.out] at hq; omega)), by unfold bydC; rw [bydI_no (fun q hq => hno' q (by rw [HL.out] at hq; omega))]⟩)
   have HC := yh (show n ≤ i by omega)
   clear hc hin hno hno'
   go_upto_region 2 with fail
   refine rgT [] HR ?_
   refine pV (.bool false) (by intro w; go_simp <;> (first | (rw [HC.out]; done) | exact HC.out | (simp [HC.out]; done))) ?_
   refine dnS fun _ HS3=>?_
   clear HR
   go_upto_region 15 with fail
   refine wp_seq_text [] (StR.move (StR.no HS3)) ?_
   refine pV (.agg (#[.bool false, .string ⟨#[]⟩, .string ⟨#[]⟩, .bool false, .string ⟨#[]⟩, .string ⟨#[]⟩])) (by intro w; go_simp; try rfl) ?_
   refine Seq.store rfl rfl rfl rfl rfl (by repeat first|exact rS|refine rN ‹_› ?_) (n := 6) rfl rfl (by kernel_rfl) (by intro u hu; simp at hu; rcases hu with rfl | rfl | rfl | rfl | rfl | rfl <;> rfl) (nZ ?_)
   refine pU ?_
   refine dn1 bk4 fun _ HS4=>?_
   clear HS3
   go_wp2_with fail
   exact ret_own2 rfl rfl rfl rfl HS4 (by repeat first|exact mC|apply mT) (n := 6) rfl (by kernel_rfl) ⟨by rw [HE.out.1, HE.out.2]; rfl, HS4.below⟩
theorem both_x {k n m cc1 cc2 : Nat} {J1 J2 : List Value} {ps qs : Pts} (hT : Tab W) (hz : Pz k ps) (hl : ps.length = n) (hcv : 3 ≤ n ∧ n ≤ 64 ∧ Cvx ps) (hz2 : Pz k qs) (hl2 : qs.length = m) (hcv2 : 3 ≤ m ∧ m ≤ 64 ∧ Cvx qs) (hk : k ≤ 1000000) (g g2 : Nat) (w : World) (h : St W l w) (hg : Blk w g 29 (PX J1 ps)) (hg2 : Blk w g2 29 (PX J2 qs)) : Rt 97 #[.slice (some ⟨g, 0, none⟩) n cc1, .slice (some ⟨g2, 0, none⟩) m cc2] w (.int .i64 0) := by
 have HT := yh (tabS hT h); clear hT h
 have HG := yh hg; clear hg
 have HL := yh hl; clear hl
 have HNZ := yh (show ¬ n = 0 by have := hcv.1; omega)
 have HZP := yh (show Pz (1 * k + 0) ps by rw [Nat.one_mul]; exact hz); clear hz
 have HG2 := yh hg2; clear hg2
 have HLQ := yh hl2; clear hl2
 have HZQ := yh (show Pz (1 * k + 0) qs by rw [Nat.one_mul]; exact hz2); clear hz2
 have HCV := yh hcv; clear hcv
 have HCQ := yh hcv2; clear hcv2
 go_enter Tryz.func97, Tryz.ntmps97
 have HS : St w [] w := St.start
 go_upto_region 0 with fail
 refine rgT [] HS ?_
 refine pU ?_
 refine dnS fun _ HS1=>?_
 clear HS
 go_upto_region 1 with fail
 refine rgT [] HS1 ?_
 refine pU ?_
 refine cX rfl rfl (fun w h => convex_x (k := 1 * k + 0) HT.out HZP.out HL.out HCV.out (by omega) _ w h (h.came HG.out)) ?_
 refine pU ?_
 refine dnS fun _ HS2=>?_
 clear HS1
 go_upto_region 2 with fail
 refine rgT [] HS2 ?_
 iterate 2 refine pU ?_
 refine dnS fun _ HS3=>?_
 clear HS2
 go_upto_region 4 with fail
 refine rgT [] HS3 ?_
 refine pU ?_
 refine cX rfl rfl (fun w h => convex_x (k := 1 * k + 0) HT.out HZQ.out HLQ.out HCQ.out (by omega) _ w h (h.came HG2.out)) ?_
 refine pU ?_
 refine dnS fun _ HS4=>?_
 clear HS3
 go_wp2_with fail
 go_ret
 exact ⟨rfl, HS4.below⟩
theorem beyond_xG {k n m cc1 cc2 : Nat} {J1 J2 : List Value} {ps qs : Pts} (hT : Tab W) (hz : Pz k ps) (hl : ps.length = n) (hcv : 3 ≤ n ∧ n ≤ 64 ∧ Cvx ps) (hz2 : Pz k qs) (hl2 : qs.length = m) (hcv2 : 3 ≤ m ∧ m ≤ 64 ∧ Cvx qs) {z0 : Bool} {z1 : Array Value} (hz0 : bydB ps qs = z0) (hz1 : bydC ps qs = z1) (hk : k ≤ 1000000) (g g2 : Nat) (w : World) (h : St W l w) (hg : Blk w g 29 (PX J1 ps)) (hg2 : Blk w g2 29 (PX J2 qs)) : Rt 98 #[.slice (some ⟨g, 0, none⟩) n cc1, .slice (some ⟨g2, 0, none⟩) m cc2] w (.tuple #[.agg z1, .bool z0]) := by
 rw [← hz0, ← hz1]; exact beyond_x hT hz hl hcv hz2 hl2 hcv2 hk g g2 w h hg hg2
theorem meet_fx {k n m cc1 cc2 : Nat} {J1 J2 : List Value} {ps qs : Pts} (hT : Tab W) (hz : Pz k ps) (hl : ps.length = n) (hcv : 3 ≤ n ∧ n ≤ 64 ∧ Cvx ps) (hz2 : Pz k qs) (hl2 : qs.length = m) (hcv2 : 3 ≤ m ∧ m ≤ 64 ∧ Cvx qs) (hx : bydB ps qs = false) (hk : k ≤ 1000000) (g g2 : Nat) (w : World) (h : St W l w) (hg : Blk w g 29 (PX J1 ps)) (hg2 : Blk w g2 29 (PX J2 qs)) : Rt 54 #[.slice (some ⟨g, 0, none⟩) n cc1, .slice (some ⟨g2, 0, none⟩) m cc2] w (.tuple #[.bool (meetB ps qs), .int .i64 0]) := by
 obtain ⟨yb, hyb⟩ : ∃ z, bydB qs ps = z := ⟨_, rfl⟩
 obtain ⟨c1, hc1⟩ : ∃ z, bydC ps qs = z := ⟨_, rfl⟩
 obtain ⟨c2, hc2⟩ : ∃ z, bydC qs ps = z := ⟨_, rfl⟩
 have HM := yh (show meetB ps qs = !yb by unfold meetB; rw [hx, hyb]; rfl)
 have HSZ := yh (show c1.size = 6 ∧ (∀ u ∈ c1, u.oneCell' = true) ∧ c2.size = 6 ∧ (∀ u ∈ c2, u.oneCell' = true) from ⟨hc1 ▸ bydC_size _ _, hc1 ▸ bydC_one _ _, hc2 ▸ bydC_size _ _, hc2 ▸ bydC_one _ _⟩)
 have HX := yh (And.intro hx (And.intro hc1 (And.intro hyb hc2))); clear hx hc1 hyb hc2
 have HT := yh (tabS hT h); clear hT h
 have HG := yh hg; clear hg
 have HL := yh hl; clear hl
 have HNZ := yh (show ¬ n = 0 by have := hcv.1; omega)
 have HZP := yh (show Pz (1 * k + 0) ps by rw [Nat.one_mul]; exact hz); clear hz
 have HG2 := yh hg2; clear hg2
 have HLQ := yh hl2; clear hl2
 have HZQ := yh (show Pz (1 * k + 0) qs by rw [Nat.one_mul]; exact hz2); clear hz2
 have HCV := yh hcv; clear hcv
 have HCQ := yh hcv2; clear hcv2
 go_enter Tryz.func54, Tryz.ntmps54
 have HS : St w [] w := St.start
 go_upto_region 0 with fail
 refine rgT [] HS ?_
 iterate 2 refine pU ?_
 refine dnS fun _ HS1=>?_
 clear HS
 go_upto_region 1 with fail
 refine rgT [] HS1 ?_
 iterate 2 refine pU ?_
 refine cX rfl rfl (fun w h => both_x (k := 1 * k + 0) HT.out HZP.out HL.out HCV.out HZQ.out HLQ.out HCQ.out  (by omega) _ _ w h (h.came HG.out) (h.came HG2.out)) ?_
 refine pU ?_
 refine dnS fun _ HS2=>?_
 clear HS1
 go_upto_region 2 with fail
 refine rgT [] HS2 ?_
 iterate 2 refine pU ?_
 refine dnS fun _ HS3=>?_
 clear HS2
 go_upto_region 4 with fail
 refine rgT [] HS3 ?_
 iterate 2 refine pU ?_
 refine cX rfl rfl (fun w h => beyond_xG (k := 1 * k + 0) HT.out HZP.out HL.out HCV.out HZQ.out HLQ.out HCQ.out HX.out.1 HX.out.2.1 (by omega) _ _ w h (h.came HG.out) (h.came HG2.out)) ?_
 refine pU ?_
 refine pV (.agg (c1)) (fun w => rfl) ?_
 refine pV (.bool false) (fun w => rfl) ?_
 refine aL6 ?_
 intro bk7 _ _ e7
 refine nZ ?_
 refine Seq.store rfl rfl rfl rfl rfl (by repeat first|exact rS|refine rN ‹_› ?_) (n := 6) rfl HSZ.out.1 (by kernel_rfl) HSZ.out.2.1 (nZ ?_)
 refine pU ?_
 refine dn1 bk7 fun _ HS4=>?_
 clear HS3
 go_upto_region 5 with fail
 refine rgT [] HS4 ?_
 iterate 2 refine pU ?_
 refine cX rfl rfl (fun w h => beyond_xG (k := 1 * k + 0) HT.out HZQ.out HLQ.out HCQ.out HZP.out HL.out HCV.out HX.out.2.2.1 HX.out.2.2.2 (by omega) _ _ w h (h.came HG2.out) (h.came HG.out)) ?_
 refine pU ?_
 refine pV (.agg (c2)) (fun w => rfl) ?_
 refine pV (.bool yb) (fun w => rfl) ?_
 refine aL6 ?_
 intro bk9 _ _ e9
 refine nZ ?_
 refine Seq.store rfl rfl rfl rfl rfl (by repeat first|exact rS|refine rN ‹_› ?_) (n := 6) rfl HSZ.out.2.2.1 (by kernel_rfl) HSZ.out.2.2.2 (nZ ?_)
 refine pU ?_
 refine dn1 bk9 fun _ HS5=>?_
 clear HS4
 go_upto_region 6 with fail
 refine rgT [] HS5 ?_
 iterate 8 refine pU ?_
 refine dnS fun _ HS6=>?_
 clear HS5
 go_wp2_with fail
 go_ret2
 exact ⟨by rw [HM.out]; rfl, HS6.below⟩
theorem meet_tx {k n m cc1 cc2 : Nat} {J1 J2 : List Value} {ps qs : Pts} (hT : Tab W) (hz : Pz k ps) (hl : ps.length = n) (hcv : 3 ≤ n ∧ n ≤ 64 ∧ Cvx ps) (hz2 : Pz k qs) (hl2 : qs.length = m) (hcv2 : 3 ≤ m ∧ m ≤ 64 ∧ Cvx qs) (hx : bydB ps qs = true) (hk : k ≤ 1000000) (g g2 : Nat) (w : World) (h : St W l w) (hg : Blk w g 29 (PX J1 ps)) (hg2 : Blk w g2 29 (PX J2 qs)) : Rt 54 #[.slice (some ⟨g, 0, none⟩) n cc1, .slice (some ⟨g2, 0, none⟩) m cc2] w (.tuple #[.bool (meetB ps qs), .int .i64 0]) := by
 obtain ⟨yb, hyb⟩ : ∃ z, bydB qs ps = z := ⟨_, rfl⟩
 obtain ⟨c1, hc1⟩ : ∃ z, bydC ps qs = z := ⟨_, rfl⟩
 obtain ⟨c2, hc2⟩ : ∃ z, bydC qs ps = z := ⟨_, rfl⟩
 have HM := yh (show meetB ps qs = false by unfold meetB; rw [hx, hyb]; rfl)
 have HSZ := yh (show c1.size = 6 ∧ (∀ u ∈ c1, u.oneCell' = true) ∧ c2.size = 6 ∧ (∀ u ∈ c2, u.oneCell' = true) from ⟨hc1 ▸ bydC_size _ _, hc1 ▸ bydC_one _ _, hc2 ▸ bydC_size _ _, hc2 ▸ bydC_one _ _⟩)
 have HX := yh (And.intro hx (And.intro hc1 (And.intro hyb hc2))); clear hx hc1 hyb hc2
 have HT := yh (tabS hT h); clear hT h
 have HG := yh hg; clear hg
 have HL := yh hl; clear hl
 have HNZ := yh (show ¬ n = 0 by have := hcv.1; omega)
 have HZP := yh (show Pz (1 * k + 0) ps by rw [Nat.one_mul]; exact hz); clear hz
 have HG2 := yh hg2; clear hg2
 have HLQ := yh hl2; clear hl2
 have HZQ := yh (show Pz (1 * k + 0) qs by rw [Nat.one_mul]; exact hz2); clear hz2
 have HCV := yh hcv; clear hcv
 have HCQ := yh hcv2; clear hcv2
 go_enter Tryz.func54, Tryz.ntmps54
 have HS : St w [] w := St.start
 go_upto_region 0 with fail
 refine rgT [] HS ?_
 iterate 2 refine pU ?_
 refine dnS fun _ HS1=>?_
 clear HS
 go_upto_region 1 with fail
 refine rgT [] HS1 ?_
 iterate 2 refine pU ?_
 refine cX rfl rfl (fun w h => both_x (k := 1 * k + 0) HT.out HZP.out HL.out HCV.out HZQ.out HLQ.out HCQ.out  (by omega) _ _ w h (h.came HG.out) (h.came HG2.out)) ?_
 refine pU ?_
 refine dnS fun _ HS2=>?_
 clear HS1
 go_upto_region 2 with fail
 refine rgT [] HS2 ?_
 iterate 2 refine pU ?_
 refine dnS fun _ HS3=>?_
 clear HS2
 go_upto_region 4 with fail
 refine rgT [] HS3 ?_
 iterate 2 refine pU ?_
 refine cX rfl rfl (fun w h => beyond_xG (k := 1 * k + 0) HT.out HZP.out HL.out HCV.out HZQ.out HLQ.out HCQ.out HX.out.1 HX.out.2.1 (by omega) _ _ w h (h.came HG.out) (h.came HG2.out)) ?_
 refine pU ?_
 refine pV (.agg (c1)) (fun w => rfl) ?_
 refine pV (.bool true) (fun w => rfl) ?_
 refine aL6 ?_
 intro bk7 _ _ e7
 refine nZ ?_
 refine Seq.store rfl rfl rfl rfl rfl (by repeat first|exact rS|refine rN ‹_› ?_) (n := 6) rfl HSZ.out.1 (by kernel_rfl) HSZ.out.2.1 (nZ ?_)
 refine pU ?_
 refine dn1 bk7 fun _ HS4=>?_
 clear HS3
 go_upto_region 5 with fail
 refine rgT [] HS4 ?_
 iterate 2 refine pU ?_
 refine cX rfl rfl (fun w h => beyond_xG (k := 1 * k + 0) HT.out HZQ.out HLQ.out HCQ.out HZP.out HL.out HCV.out HX.out.2.2.1 HX.out.2.2.2 (by omega) _ _ w h (h.came HG2.out) (h.came HG.out)) ?_
 refine pU ?_
 refine pV (.agg (c2)) (fun w => rfl) ?_
 refine pV (.bool yb) (fun w => rfl) ?_
 refine aL6 ?_
 intro bk9 _ _ e9
 refine nZ ?_
 refine Seq.store rfl rfl rfl rfl rfl (by repeat first|exact rS|refine rN ‹_› ?_) (n := 6) rfl HSZ.out.2.2.1 (by kernel_rfl) HSZ.out.2.2.2 (nZ ?_)
 refine pU ?_
 refine dn1 bk9 fun _ HS5=>?_
 clear HS4
 go_upto_region 6 with fail
 refine rgT [] HS5 ?_
 iterate 3 refine pU ?_
 iterate 2 refine nW ?_
 iterate 3 refine pU ?_
 refine dnS fun _ HS6=>?_
 clear HS5
 go_wp2_with fail
 go_ret2
 exact ⟨by rw [HM.out]; rfl, HS6.below⟩
theorem meet_x {k n m cc1 cc2 : Nat} {J1 J2 : List Value} {ps qs : Pts} (hT : Tab W) (hz : Pz k ps) (hl : ps.length = n) (hcv : 3 ≤ n ∧ n ≤ 64 ∧ Cvx ps) (hz2 : Pz k qs) (hl2 : qs.length = m) (hcv2 : 3 ≤ m ∧ m ≤ 64 ∧ Cvx qs) {z0 : Bool} (hz0 : meetB ps qs = z0) (hk : k ≤ 1000000) (g g2 : Nat) (w : World) (h : St W l w) (hg : Blk w g 29 (PX J1 ps)) (hg2 : Blk w g2 29 (PX J2 qs)) : Rt 54 #[.slice (some ⟨g, 0, none⟩) n cc1, .slice (some ⟨g2, 0, none⟩) m cc2] w (.tuple #[.bool z0, .int .i64 0]) := by
 rw [← hz0]
 cases hx : bydB ps qs with
 | true => exact meet_tx hT hz hl hcv hz2 hl2 hcv2 hx hk g g2 w h hg hg2
 | false => exact meet_fx hT hz hl hcv hz2 hl2 hcv2 hx hk g g2 w h hg hg2
end Go.Proofs.YtmchjmflkaiakaaGreatDoor
