/- poly.check, Convex, Has at points with cells behind (printed by hullc.py out of span/XPo1, XPo2). -/
import Derived.Test.YtmchjmflkaiakaaGreatDoorHuB
import Derived.Test.YtmchjmflkaiakaaGreatDoorPo3
import Derived.Deep.LoopGhost
set_option maxHeartbeats 4000000
set_option maxRecDepth 20000
namespace Go.Proofs.YtmchjmflkaiakaaGreatDoor
open Go.RowKit
set_option linter.unusedVariables false
set_option linter.unusedSimpArgs false
theorem check_x {k n c most : Nat} {J : List Value} {ps : Pts} {W : World} {l : List Own} (hT : Tab W) (hz : Pz k ps) (hl : ps.length = n) (h3 : 3 ≤ n) (hn : n ≤ most) (hm : most ≤ 1000) (hcv : Cvx ps) (hk : k ≤ 137438953471) (g : Nat) (w : World) (h : St W l w) (hg : Blk w g 29 (PX J ps)) : Rt 99 #[.slice (some ⟨g, 0, none⟩) n c, .int .i64 (most : Int)] w (.int .i64 0) := by
 have HT := yh (tabS hT h); clear hT h
 have HG := yh hg; clear hg
 have HZP := yh (show Pz (1 * k + 0) ps by rw [Nat.one_mul]; exact hz); clear hz
 have HCV := yh hcv; clear hcv
 have HN := yh (show n ≤ most ∧ (3 : Int) ≤ (n : Int) ∧ n ≤ 1000 ∧ 3 ≤ n from ⟨by omega, by omega, by omega, h3⟩)
 have HNZ := yh (show ¬ n = 0 by omega)
 have HL := yh hl; clear hl h3 hn hm
 go_enter Tryz.func99, Tryz.ntmps99
 have HS : St w [] w := St.start
 go_upto_region 0 with fail
 refine rgT [] HS ?_
 refine pU ?_
 refine dnS fun _ HS1=>?_
 clear HS
 go_upto_region 1 with fail
 refine rgT [] HS1 ?_
 refine pU ?_
 refine pV (.int .i64 (n : Int)) (by intro w; go_simp; try rfl) ?_
 refine pU ?_
 refine dnS fun _ HS2=>?_
 clear HS1
 go_upto_region 2 with fail
 refine rgT [] HS2 ?_
 iterate 2 refine pU ?_
 refine pV (.bool false) (by intro w; go_simp <;> (first | (rw [HN.out.1]; done) | exact HN.out.1 | (simp [HN.out.1]; done))) ?_
 refine pU ?_
 refine dnS fun _ HS3=>?_
 clear HS2
 go_upto_region 4 with fail
 refine rgT [] HS3 ?_
 refine pU ?_
 refine pV (.bool false) (by intro w; go_simp <;> (first | (rw [HN.out.2.1]; done) | exact HN.out.2.1 | (simp [HN.out.2.1]; done))) ?_
 refine pU ?_
 refine dnS fun _ HS4=>?_
 clear HS3
 go_upto_region 6 with fail
 refine rgT [] HS4 ?_
 refine pU ?_
 refine pV (.int .i64 (n : Int)) (by intro w; go_simp; try rfl) ?_
 refine pU ?_
 refine dnS fun _ HS5=>?_
 clear HS4
 go_wp2_with fail
 go_loopg [20] n (fun kk s20 wr => ∃ i : Nat, kk = n - i ∧ s20 = .int .i64 (i : Int) ∧ i ≤ n ∧ Hid (St w [] wr))
 case atStart => exact ⟨0, rfl, rfl, by omega, yh HS5⟩
 case round =>
  obtain ⟨i, hgk, rfl, hin, hS⟩ := hrel
  have HGK := yh hgk; clear hgk
  have HR := hS.out; clear hS
  by_cases hc : i < n
  ·have HC := yh hc
   obtain ⟨i1, hi1⟩ : ∃ i1 : Nat, i1 = i + 1 := ⟨_, rfl⟩
   have HI1 := yh (show IntKind.i64.wrap ((i : Int) + 1) = (i1 : Int) ∧ n - i1 < n - i ∧ i1 ≤ n from ⟨by have := HN.out.2.2.1; rw [i64_s _ (by omega) (by omega)]; omega, by omega, by omega⟩)
   have HI0 := yh hi1; clear hi1 hc
   go_upto_region 7 with fail
   refine rgT [] HR ?_
   refine pV (.bool true) (by intro w; go_simp <;> (first | (rw [HC.out]; done) | exact HC.out | (simp [HC.out]; done))) ?_
   refine dnS fun ws6 HS6=>?_
   clear HR
   go_upto_region 8 with fail
   refine rgT [] HS6 ?_
   refine pU ?_
   refine iX 6 i HC.out ?_
   refine lF HG.out (VC (px ps i) (py ps i)) (PX_room (lt_of_pts HL.out HC.out)) (PX_at (lt_of_pts HL.out HC.out)) ?_
   refine aL6 ?_
   intro bk7 _ _ e7
   refine nZ ?_
   refine pU ?_
   refine sV (VC_one _ _) ?_
   refine dn1 bk7 fun ws7 HS7=>?_
   clear HS6
   go_upto_region 9 with fail
   refine rgT [] HS7 ?_
   refine pU ?_
   refine dnS fun _ HS8=>?_
   clear HS7
   go_wp2_with fail
   go_loopg [8] (n - 2) (fun kk s8 wr => ∃ k2 : Nat, kk = n - k2 ∧ s8 = .int .i64 (k2 : Int) ∧ (2 ≤ k2 ∧ k2 ≤ n) ∧ Hid (St w [(bk7, 29, VC (px ps i) (py ps i))] wr))
   case atStart => exact ⟨2, rfl, rfl, ⟨by omega, by have := HN.out.2.2.2; omega⟩, yh HS8⟩
   case round =>
    obtain ⟨k2, hgk2, rfl, hk2, hS2⟩ := hrel
    have HGK2 := yh hgk2; clear hgk2
    have HR2 := hS2.out; clear hS2
    by_cases hc2 : k2 < n
    ·obtain ⟨j, hj⟩ : ∃ j : Nat, j = i1 % n := ⟨_, rfl⟩
     obtain ⟨s, hs⟩ : ∃ s : Nat, s = i + k2 := ⟨_, rfl⟩
     obtain ⟨m, hm⟩ : ∃ m : Nat, m = s % n := ⟨_, rfl⟩
     obtain ⟨k3, hk3⟩ : ∃ k3 : Nat, k3 = k2 + 1 := ⟨_, rfl⟩
     obtain ⟨v, hv, hv0⟩ : ∃ v, sgnQ (lfp ps i j m) = v ∧ decide (v ≤ 0) = false := ⟨_, rfl, sgn_pos (by
      have h1 := HCV.out i (by rw [HL.out]; exact HC.out) k2 hk2.1 (by rw [HL.out]; exact hc2)
      rw [HL.out, ← HI0.out, ← hs, ← hj, ← hm] at h1; exact h1)⟩
     have HV := yh hv; clear hv
     have HB := yh (show j < n ∧ m < n ∧ (i1 : Int).tmod (n : Int) = (j : Int) ∧ IntKind.i64.wrap ((i : Int) + (k2 : Int)) = (s : Int) ∧ (s : Int).tmod (n : Int) = (m : Int) from ⟨by rw [hj]; exact Nat.mod_lt _ (by omega), by rw [hm]; exact Nat.mod_lt _ (by omega), by rw [hj]; exact Int.tmod_eq_emod_of_nonneg (by omega), by have := HN.out.2.2.1; rw [i64_s _ (by omega) (by omega)]; omega, by rw [hm]; exact Int.tmod_eq_emod_of_nonneg (by omega)⟩)
     have HC2 := yh hc2
     have HK3 := yh (show IntKind.i64.wrap ((k2 : Int) + 1) = (k3 : Int) ∧ n - k3 < n - k2 ∧ (2 ≤ k3 ∧ k3 ≤ n) from ⟨by have := HN.out.2.2.1; rw [i64_s _ (by omega) (by omega)]; omega, by omega, by omega, by omega⟩)
     clear hj hs hm hk3 hk2 hc2 hin
     go_upto_region 10 with fail
     refine rgT [] HR2 ?_
     iterate 2 refine pU ?_
     refine pV (.bool true) (by intro w; go_simp <;> (first | (rw [HC2.out]; done) | exact HC2.out | (simp [HC2.out]; done))) ?_
     refine dnS fun ws9 HS9=>?_
     clear HR2
     go_upto_region 12 with fail
     refine rgW [] HS9 ?_
     refine lV ?_
     iterate 2 refine pU ?_
     refine pV (.int .i64 (i1 : Int)) (by intro w; go_simp <;> (first | (rw [HI1.out.1]; done) | exact HI1.out.1 | (simp [HI1.out.1]; done))) ?_
     refine pU ?_
     refine pV (.int .i64 (j : Int)) (by intro w; go_simp <;> (first | (rw [HNZ.out]; done) | (rw [HB.out.2.2.1]; done) | exact HNZ.out | exact HB.out.2.2.1 | (simp [HNZ.out, HB.out.2.2.1]; done))) ?_
     refine iX 6 j HB.out.1 ?_
     refine lF HG.out (VC (px ps j) (py ps j)) (PX_room (lt_of_pts HL.out HB.out.1)) (PX_at (lt_of_pts HL.out HB.out.1)) ?_
     iterate 3 refine pU ?_
     refine pV (.int .i64 (s : Int)) (by intro w; go_simp <;> (first | (rw [HB.out.2.2.2.1]; done) | exact HB.out.2.2.2.1 | (simp [HB.out.2.2.2.1]; done))) ?_
     refine pU ?_
     refine pV (.int .i64 (m : Int)) (by intro w; go_simp <;> (first | (rw [HNZ.out]; done) | (rw [HB.out.2.2.2.2]; done) | exact HNZ.out | exact HB.out.2.2.2.2 | (simp [HNZ.out, HB.out.2.2.2.2]; done))) ?_
     refine iX 6 m HB.out.2.1 ?_
     refine lF HG.out (VC (px ps m) (py ps m)) (PX_room (lt_of_pts HL.out HB.out.2.1)) (PX_at (lt_of_pts HL.out HB.out.2.1)) ?_
     refine cX rfl rfl (left_q (k := (1 * k + 0)) HT.out ((HZP.out.x (lt_of_pts HL.out HC.out)).more (by omega)) ((HZP.out.y (lt_of_pts HL.out HC.out)).more (by omega)) ((HZP.out.x (lt_of_pts HL.out HB.out.1)).more (by omega)) ((HZP.out.y (lt_of_pts HL.out HB.out.1)).more (by omega)) ((HZP.out.x (lt_of_pts HL.out HB.out.2.1)).more (by omega)) ((HZP.out.y (lt_of_pts HL.out HB.out.2.1)).more (by omega)) HV.out (by omega)) ?_
     refine pU ?_
     refine dnS fun ws10 HS10=>?_
     clear HS9
     go_upto_region 11 with fail
     refine rgT [] HS10 ?_
     refine pU ?_
     refine pV (.int .i64 (k3 : Int)) (by intro w; go_simp <;> (first | (rw [HK3.out.1]; done) | exact HK3.out.1 | (simp [HK3.out.1]; done))) ?_
     refine pU ?_
     refine dnS fun _ HS11=>?_
     clear HS10
     go_wp2_with fail
     go_roundg (n - k3)
     case measure => rw [HGK2.out]; exact HK3.out.2.1
     case rel => exact ⟨k3, rfl, rfl, HK3.out.2.2, yh HS11⟩
    ·have HC2 := yh (show n ≤ k2 by omega)
     clear hc2 hk2 hin
     go_upto_region 10 with fail
     refine rgT [] HR2 ?_
     iterate 2 refine pU ?_
     refine pV (.bool false) (by intro w; go_simp <;> (first | (rw [HC2.out]; done) | exact HC2.out | (simp [HC2.out]; done))) ?_
     refine dnS fun _ HS9=>?_
     clear HR2
     go_upto_region 14 with fail
     refine rgT [] HS9 ?_
     refine pV (.int .i64 (i1 : Int)) (by intro w; go_simp <;> (first | (rw [HI1.out.1]; done) | exact HI1.out.1 | (simp [HI1.out.1]; done))) ?_
     refine pU ?_
     refine dnS fun _ HS10=>?_
     clear HS9
     go_wp2_with fail
     go_roundg (n - i1)
     case measure => rw [HGK.out]; exact HI1.out.2.1
     case rel => exact ⟨i1, rfl, rfl, HI1.out.2.2, yh HS10.drop⟩
  ·have HC := yh (show n ≤ i by omega)
   clear hc hin
   go_upto_region 7 with fail
   refine rgT [] HR ?_
   refine pV (.bool false) (by intro w; go_simp <;> (first | (rw [HC.out]; done) | exact HC.out | (simp [HC.out]; done))) ?_
   refine dnS fun _ HS6=>?_
   clear HR
   go_upto_region 15 with fail
   refine rgT [] HS6 ?_
   refine pU ?_
   refine dnS fun _ HS7=>?_
   clear HS6
   go_wp2_with fail
   go_ret
   exact ⟨rfl, HS7.below⟩
theorem convex_x {k n c : Nat} {J : List Value} {ps : Pts} {W : World} {l : List Own} (hT : Tab W) (hz : Pz k ps) (hl : ps.length = n) (hcv : 3 ≤ n ∧ n ≤ 64 ∧ Cvx ps) (hk : k ≤ 100000000000) (g : Nat) (w : World) (h : St W l w) (hg : Blk w g 29 (PX J ps)) : Rt 55 #[.slice (some ⟨g, 0, none⟩) n c] w (.int .i64 0) := by
 have HT := yh (tabS hT h); clear hT h
 have HG := yh hg; clear hg
 have HL := yh hl; clear hl
 have HNZ := yh (show ¬ n = 0 by have := hcv.1; omega)
 have HZP := yh (show Pz (1 * k + 0) ps by rw [Nat.one_mul]; exact hz); clear hz
 have HCV := yh hcv; clear hcv
 go_enter Tryz.func55, Tryz.ntmps55
 have HS : St w [] w := St.start
 go_upto_region 0 with fail
 refine rgT [] HS ?_
 refine pU ?_
 refine dnS fun _ HS1=>?_
 clear HS
 go_upto_region 1 with fail
 refine rgT [] HS1 ?_
 refine pU ?_
 refine cX rfl rfl (fun w h => check_x (k := 1 * k + 0) (most := 64) HT.out HZP.out HL.out HCV.out.1 (by have := HCV.out.2.1; omega) (by omega) HCV.out.2.2 (by omega) _ w h (h.came HG.out)) ?_
 refine pU ?_
 refine dnS fun _ HS2=>?_
 clear HS1
 go_wp2_with fail
 go_ret
 exact ⟨rfl, HS2.below⟩
end Go.Proofs.YtmchjmflkaiakaaGreatDoor
