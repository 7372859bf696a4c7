/- poly.check, Convex, Has at points with cells behind (printed by hullc.py out of span/XPo1, XPo2). -/
import Derived.Test.YtmchjmflkaiakaaGreatDoorHuB
import Derived.Test.YtmchjmflkaiakaaGreatDoorPo2
import Derived.Deep.LoopGhost

namespace Go.Proofs.YtmchjmflkaiakaaGreatDoor
open Go.RowKit
set_option linter.unusedVariables false
set_option linter.unusedSimpArgs false

set_option maxHeartbeats 4000000 in
set_option maxRecDepth 20000 in
theorem check_x {k n c most : Nat} {J : List Value} {ps : Pts} {W : World} {l : List Own} (hT : Tab W) (hz : Pz k ps) (hl : ps.length = n) (h3 : 3 ≤ n) (hn : n ≤ most) (hm : most ≤ 1000) (hcv : Cvx ps) (hk : k ≤ 137438953471) (g : Nat) (w : World) (h : St W l w) (hg : Blk w g 29 (PX J ps)) :
  Calls Tryz.prog 99 #[.slice (some ⟨g, 0, none⟩) n c, .int .i64 (most : Int)] w fun e w' => e = .returned (.int .i64 0) ∧ Below w.heap.size w w' := by
 have HT := Lib.hid (tabS hT h); clear hT h
 have HG := Lib.hid hg; clear hg
 have HZP := Lib.hid (show Pz (1 * k + 0) ps by rw [Nat.one_mul]; exact hz); clear hz
 have HCV := Lib.hid hcv; clear hcv
 have HN := Lib.hid (show n ≤ most ∧ (3 : Int) ≤ (n : Int) ∧ n ≤ 1000 ∧ 3 ≤ n from ⟨by omega, by omega, by omega, h3⟩)
 have HNZ := Lib.hid (show ¬ n = 0 by omega)
 have HL := Lib.hid hl; clear hl h3 hn hm
 go_enter Tryz.func99, Tryz.ntmps99
 have HS : St w [] w := St.start
 go_upto_region 0 with (fail)
 refine rgT [] HS ?_
 refine pU ?_
 refine Seq.done fun ws1 hws => ?_
 have HS1 := hws.st
 clear HS hws
 go_upto_region 1 with (fail)
 refine rgT [] HS1 ?_
 refine pU ?_
 refine pV (.int .i64 (n : Int)) (by intro w; go_simp; try rfl) ?_
 refine pU ?_
 refine Seq.done fun ws2 hws => ?_
 have HS2 := hws.st
 clear HS1 hws
 go_upto_region 2 with (fail)
 refine rgT [] HS2 ?_
 iterate 2 refine pU ?_
 refine pV (.bool false) (by intro w; go_simp <;> (first | (rw [HN.out.1]; done) | exact HN.out.1 | (simp [HN.out.1]; done) | (trace_state; done))) ?_
 refine pU ?_
 refine Seq.done fun ws3 hws => ?_
 have HS3 := hws.st
 clear HS2 hws
 go_upto_region 4 with (fail)
 refine rgT [] HS3 ?_
 refine pU ?_
 refine pV (.bool false) (by intro w; go_simp <;> (first | (rw [HN.out.2.1]; done) | exact HN.out.2.1 | (simp [HN.out.2.1]; done) | (trace_state; done))) ?_
 refine pU ?_
 refine Seq.done fun ws4 hws => ?_
 have HS4 := hws.st
 clear HS3 hws
 go_upto_region 6 with (fail)
 refine rgT [] HS4 ?_
 refine pU ?_
 refine pV (.int .i64 (n : Int)) (by intro w; go_simp; try rfl) ?_
 refine pU ?_
 refine Seq.done fun ws5 hws => ?_
 have HS5 := hws.st
 clear HS4 hws
 go_wp2_with fail
 go_loopg [20] n (fun kk s20 wr => ∃ i : Nat, kk = n - i ∧ s20 = .int .i64 (i : Int) ∧ i ≤ n ∧ Hid (St w [] wr))
 case atStart => exact ⟨0, rfl, rfl, by omega, Lib.hid HS5⟩
 case round =>
  obtain ⟨i, hgk, rfl, hin, hS⟩ := hrel
  have HGK := Lib.hid hgk; clear hgk
  have HR := hS.out; clear hS
  by_cases hc : i < n
  ·have HC := Lib.hid hc
   obtain ⟨i1, hi1⟩ : ∃ i1 : Nat, i1 = i + 1 := ⟨_, rfl⟩
   have HI1 := Lib.hid (show IntKind.i64.wrap ((i : Int) + 1) = (i1 : Int) ∧ n - i1 < n - i ∧ i1 ≤ n from ⟨by have := HN.out.2.2.1; rw [i64_s _ (by omega) (by omega)]; omega, by omega, by omega⟩)
   have HI0 := Lib.hid hi1; clear hi1 hc
   go_upto_region 7 with (fail)
   refine rgT [] HR ?_
   refine pV (.bool true) (by intro w; go_simp <;> (first | (rw [HC.out]; done) | exact HC.out | (simp [HC.out]; done) | (trace_state; done))) ?_
   refine Seq.done fun ws6 hws => ?_
   have HS6 := hws.st
   clear HR hws
   go_upto_region 8 with (fail)
   refine rgT [] HS6 ?_
   refine pU ?_
   refine Seq.index (m := 6) i rfl rfl rfl rfl rfl (by kernel_rfl) rfl HC.out (nZ ?_)
   refine Seq.loadAtF rfl rfl rfl rfl HG.out (n := 6) (cs' := VC (px ps i) (py ps i)) (PX_room (lt_of_pts HL.out HC.out)) (by kernel_rfl) (PX_at (lt_of_pts HL.out HC.out)) (nZ ?_)
   refine aL6 ?_
   intro bk7 _ _ hbk7_r
   refine nZ ?_
   refine pU ?_
   refine sV (VC_one _ _) ?_
   refine Seq.done fun ws7 hws => ?_
   have HS7 := hws.q1 (p := bk7)
   clear HS6 hws
   go_upto_region 9 with (fail)
   refine rgT [] HS7 ?_
   refine pU ?_
   refine Seq.done fun ws8 hws => ?_
   have HS8 := hws.st
   clear HS7 hws
   go_wp2_with fail
   go_loopg [8] (n - 2) (fun kk s8 wr => ∃ k2 : Nat, kk = n - k2 ∧ s8 = .int .i64 (k2 : Int) ∧ (2 ≤ k2 ∧ k2 ≤ n) ∧ Hid (St w [(bk7, 29, VC (px ps i) (py ps i))] wr))
   case atStart => exact ⟨2, rfl, rfl, ⟨by omega, by have := HN.out.2.2.2; omega⟩, Lib.hid HS8⟩
   case round =>
    obtain ⟨k2, hgk2, rfl, hk2, hS2⟩ := hrel
    have HGK2 := Lib.hid hgk2; clear hgk2
    have HR2 := hS2.out; clear hS2
    by_cases hc2 : k2 < n
    ·obtain ⟨j, hj⟩ : ∃ j : Nat, j = i1 % n := ⟨_, rfl⟩
     obtain ⟨s, hs⟩ : ∃ s : Nat, s = i + k2 := ⟨_, rfl⟩
     obtain ⟨m, hm⟩ : ∃ m : Nat, m = s % n := ⟨_, rfl⟩
     obtain ⟨k3, hk3⟩ : ∃ k3 : Nat, k3 = k2 + 1 := ⟨_, rfl⟩
     obtain ⟨v, hv, hv0⟩ : ∃ v, sgnQ (lfp ps i j m) = v ∧ decide (v ≤ 0) = false := ⟨_, rfl, sgn_pos (by
      have h1 := HCV.out i (by rw [HL.out]; exact HC.out) k2 hk2.1 (by rw [HL.out]; exact hc2)
      rw [HL.out, ← HI0.out, ← hs, ← hj, ← hm] at h1; exact h1)⟩
     have HV := Lib.hid hv; clear hv
     have HB := Lib.hid (show j < n ∧ m < n ∧ (i1 : Int).tmod (n : Int) = (j : Int) ∧ IntKind.i64.wrap ((i : Int) + (k2 : Int)) = (s : Int) ∧ (s : Int).tmod (n : Int) = (m : Int) from ⟨by rw [hj]; exact Nat.mod_lt _ (by omega), by rw [hm]; exact Nat.mod_lt _ (by omega), by rw [hj]; exact Int.tmod_eq_emod_of_nonneg (by omega), by have := HN.out.2.2.1; rw [i64_s _ (by omega) (by omega)]; omega, by rw [hm]; exact Int.tmod_eq_emod_of_nonneg (by omega)⟩)
     have HC2 := Lib.hid hc2
     have HK3 := Lib.hid (show IntKind.i64.wrap ((k2 : Int) + 1) = (k3 : Int) ∧ n - k3 < n - k2 ∧ (2 ≤ k3 ∧ k3 ≤ n) from ⟨by have := HN.out.2.2.1; rw [i64_s _ (by omega) (by omega)]; omega, by omega, by omega, by omega⟩)
     clear hj hs hm hk3 hk2 hc2 hin
     go_upto_region 10 with (fail)
     refine rgT [] HR2 ?_
     iterate 2 refine pU ?_
     refine pV (.bool true) (by intro w; go_simp <;> (first | (rw [HC2.out]; done) | exact HC2.out | (simp [HC2.out]; done) | (trace_state; done))) ?_
     refine Seq.done fun ws9 hws => ?_
     have HS9 := hws.st
     clear HR2 hws
     go_upto_region 12 with (fail)
     refine rgW [] HS9 ?_
     refine lV ?_
     iterate 2 refine pU ?_
     refine pV (.int .i64 (i1 : Int)) (by intro w; go_simp <;> (first | (rw [HI1.out.1]; done) | exact HI1.out.1 | (simp [HI1.out.1]; done) | (trace_state; done))) ?_
     refine pU ?_
     refine pV (.int .i64 (j : Int)) (by intro w; go_simp <;> (first | (rw [HNZ.out]; done) | (rw [HB.out.2.2.1]; done) | exact HNZ.out | exact HB.out.2.2.1 | (simp [HNZ.out, HB.out.2.2.1]; done) | (trace_state; done))) ?_
     refine Seq.index (m := 6) j rfl rfl rfl rfl rfl (by kernel_rfl) rfl HB.out.1 (nZ ?_)
     refine Seq.loadAtF rfl rfl rfl rfl HG.out (n := 6) (cs' := VC (px ps j) (py ps j)) (PX_room (lt_of_pts HL.out HB.out.1)) (by kernel_rfl) (PX_at (lt_of_pts HL.out HB.out.1)) (nZ ?_)
     iterate 3 refine pU ?_
     refine pV (.int .i64 (s : Int)) (by intro w; go_simp <;> (first | (rw [HB.out.2.2.2.1]; done) | exact HB.out.2.2.2.1 | (simp [HB.out.2.2.2.1]; done) | (trace_state; done))) ?_
     refine pU ?_
     refine pV (.int .i64 (m : Int)) (by intro w; go_simp <;> (first | (rw [HNZ.out]; done) | (rw [HB.out.2.2.2.2]; done) | exact HNZ.out | exact HB.out.2.2.2.2 | (simp [HNZ.out, HB.out.2.2.2.2]; done) | (trace_state; done))) ?_
     refine Seq.index (m := 6) m rfl rfl rfl rfl rfl (by kernel_rfl) rfl HB.out.2.1 (nZ ?_)
     refine Seq.loadAtF rfl rfl rfl rfl HG.out (n := 6) (cs' := VC (px ps m) (py ps m)) (PX_room (lt_of_pts HL.out HB.out.2.1)) (by kernel_rfl) (PX_at (lt_of_pts HL.out HB.out.2.1)) (nZ ?_)
     refine cX rfl rfl (left_q (k := (1 * k + 0)) HT.out ((HZP.out.x (lt_of_pts HL.out HC.out)).more (by omega)) ((HZP.out.y (lt_of_pts HL.out HC.out)).more (by omega)) ((HZP.out.x (lt_of_pts HL.out HB.out.1)).more (by omega)) ((HZP.out.y (lt_of_pts HL.out HB.out.1)).more (by omega)) ((HZP.out.x (lt_of_pts HL.out HB.out.2.1)).more (by omega)) ((HZP.out.y (lt_of_pts HL.out HB.out.2.1)).more (by omega)) HV.out (by omega)) ?_
     refine pU ?_
     refine Seq.done fun ws10 hws => ?_
     have HS10 := hws.st
     clear HS9 hws
     go_upto_region 11 with (fail)
     refine rgT [] HS10 ?_
     refine pU ?_
     refine pV (.int .i64 (k3 : Int)) (by intro w; go_simp <;> (first | (rw [HK3.out.1]; done) | exact HK3.out.1 | (simp [HK3.out.1]; done) | (trace_state; done))) ?_
     refine pU ?_
     refine Seq.done fun ws11 hws => ?_
     have HS11 := hws.st
     clear HS10 hws
     go_wp2_with fail
     go_roundg (n - k3)
     case measure => rw [HGK2.out]; exact HK3.out.2.1
     case rel => exact ⟨k3, rfl, rfl, HK3.out.2.2, Lib.hid HS11⟩
    ·have HC2 := Lib.hid (show n ≤ k2 by omega)
     clear hc2 hk2 hin
     go_upto_region 10 with (fail)
     refine rgT [] HR2 ?_
     iterate 2 refine pU ?_
     refine pV (.bool false) (by intro w; go_simp <;> (first | (rw [HC2.out]; done) | exact HC2.out | (simp [HC2.out]; done) | (trace_state; done))) ?_
     refine Seq.done fun ws9 hws => ?_
     have HS9 := hws.st
     clear HR2 hws
     go_upto_region 14 with (fail)
     refine rgT [] HS9 ?_
     refine pV (.int .i64 (i1 : Int)) (by intro w; go_simp <;> (first | (rw [HI1.out.1]; done) | exact HI1.out.1 | (simp [HI1.out.1]; done) | (trace_state; done))) ?_
     refine pU ?_
     refine Seq.done fun ws10 hws => ?_
     have HS10 := hws.st
     clear HS9 hws
     go_wp2_with fail
     go_roundg (n - i1)
     case measure => rw [HGK.out]; exact HI1.out.2.1
     case rel => exact ⟨i1, rfl, rfl, HI1.out.2.2, Lib.hid HS10.drop⟩
  ·have HC := Lib.hid (show n ≤ i by omega)
   clear hc hin
   go_upto_region 7 with (fail)
   refine rgT [] HR ?_
   refine pV (.bool false) (by intro w; go_simp <;> (first | (rw [HC.out]; done) | exact HC.out | (simp [HC.out]; done) | (trace_state; done))) ?_
   refine Seq.done fun ws6 hws => ?_
   have HS6 := hws.st
   clear HR hws
   go_upto_region 15 with (fail)
   refine rgT [] HS6 ?_
   refine pU ?_
   refine Seq.done fun ws7 hws => ?_
   have HS7 := hws.st
   clear HS6 hws
   go_wp2_with fail
   go_ret
   exact ⟨rfl, HS7.below⟩
set_option maxHeartbeats 2000000 in
set_option maxRecDepth 20000 in
theorem convex_x {k n c : Nat} {J : List Value} {ps : Pts} {W : World} {l : List Own} (hT : Tab W) (hz : Pz k ps) (hl : ps.length = n) (hcv : 3 ≤ n ∧ n ≤ 64 ∧ Cvx ps) (hk : k ≤ 100000000000) (g : Nat) (w : World) (h : St W l w) (hg : Blk w g 29 (PX J ps)) :
  Calls Tryz.prog 55 #[.slice (some ⟨g, 0, none⟩) n c] w fun e w' => e = .returned (.int .i64 0) ∧ Below w.heap.size w w' := by
 have HT := Lib.hid (tabS hT h); clear hT h
 have HG := Lib.hid hg; clear hg
 have HL := Lib.hid hl; clear hl
 have HNZ := Lib.hid (show ¬ n = 0 by have := hcv.1; omega)
 have HZP := Lib.hid (show Pz (1 * k + 0) ps by rw [Nat.one_mul]; exact hz); clear hz
 have HCV := Lib.hid hcv; clear hcv
 go_enter Tryz.func55, Tryz.ntmps55
 have HS : St w [] w := St.start
 go_upto_region 0 with (fail)
 refine rgT [] HS ?_
 refine pU ?_
 refine Seq.done fun ws1 hws => ?_
 have HS1 := hws.st
 clear HS hws
 go_upto_region 1 with (fail)
 refine rgT [] HS1 ?_
 refine pU ?_
 refine cX rfl rfl (fun w h => check_x (k := 1 * k + 0) (most := 64) HT.out HZP.out HL.out HCV.out.1 (by have := HCV.out.2.1; omega) (by omega) HCV.out.2.2 (by omega) _ w h (h.came HG.out)) ?_
 refine pU ?_
 refine Seq.done fun ws2 hws => ?_
 have HS2 := hws.st
 clear HS1 hws
 go_wp2_with fail
 go_ret
 exact ⟨rfl, HS2.below⟩
set_option maxHeartbeats 4000000 in
set_option maxRecDepth 20000 in
theorem phas_x {k n c : Nat} {J : List Value} {ps : Pts} {v1 v2 : Rat} {z0 : Bool} {W : World} {l : List Own} (hT : Tab W) (hz : Pz k ps) (hl : ps.length = n) (hcv : 3 ≤ n ∧ n ≤ 64 ∧ Cvx ps) (Zv1 : Rz k v1) (Zv2 : Rz k v2) (hz0 : hasB ps v1 v2 = z0) (hk : k ≤ 100000000000) (g : Nat) (w : World) (h : St W l w) (hg : Blk w g 29 (PX J ps)) :
  Calls Tryz.prog 23 #[.slice (some ⟨g, 0, none⟩) n c, .agg (VC v1 v2)] w fun e w' => e = .returned (.bool z0) ∧ Below w.heap.size w w' := by
 subst hz0
 have HT := Lib.hid (tabS hT h); clear hT h
 have HG := Lib.hid hg; clear hg
 have HL := Lib.hid hl; clear hl
 have HNZ := Lib.hid (show ¬ n = 0 by have := hcv.1; omega)
 have HZP := Lib.hid (show Pz (1 * k + 0) ps by rw [Nat.one_mul]; exact hz); clear hz
 have HCV := Lib.hid hcv; clear hcv
 have Z_v1 := Lib.hid Zv1; clear Zv1
 have Z_v2 := Lib.hid Zv2; clear Zv2
 go_enter Tryz.func23, Tryz.ntmps23
 have HS : St w [] w := St.start
 go_upto_region 0 with (fail)
 refine rgT [] HS ?_
 refine bX (VC v1 v2) ?_
 intro bk3 _ _ hbk3_r
 refine nZ ?_
 refine pU ?_
 refine Seq.done fun ws1 hws => ?_
 have HS1 := hws.q1 (p := bk3)
 clear HS hws
 go_upto_region 1 with (fail)
 refine rgT [] HS1 ?_
 refine pU ?_
 refine cX rfl rfl (fun w h => convex_x (k := (1 * k + 0)) HT.out (HZP.out.more (by omega)) HL.out HCV.out (by omega) _ w h (h.came HG.out)) ?_
 refine pU ?_
 refine Seq.done fun ws2 hws => ?_
 have HS2 := hws.st
 clear HS1 hws
 go_upto_region 3 with (fail)
 refine rgT [] HS2 ?_
 refine pU ?_
 refine pV (.int .i64 (n : Int)) (by intro w; go_simp; try rfl) ?_
 refine pU ?_
 refine Seq.done fun ws3 hws => ?_
 have HS3 := hws.st
 clear HS2 hws
 go_wp2_with fail
 go_loopg [12] n (fun kk s12 wr => ∃ i : Nat, kk = n - i ∧ s12 = .int .i64 (i : Int) ∧ i ≤ n ∧ Hid (∀ j, j < i → hasAt ps v1 v2 j = true) ∧ Hid (St w [(bk3, 29, VC v1 v2)] wr))
 case atStart => exact ⟨0, rfl, rfl, by omega, Lib.hid (fun j hj => absurd hj (by omega)), Lib.hid HS3⟩
 case round =>
  obtain ⟨i, hgk, rfl, hin, hall, hS⟩ := hrel
  have HGK := Lib.hid hgk; clear hgk
  have HR := hS.out; clear hS
  by_cases hc : i < n
  ·have hc' := hc
   obtain ⟨i1, hi1⟩ : ∃ i1 : Nat, i1 = i + 1 := ⟨_, rfl⟩
   obtain ⟨j, hj⟩ : ∃ j : Nat, j = i1 % n := ⟨_, rfl⟩
   have hn64 : n ≤ 64 := HCV.out.2.1
   have HI1 := Lib.hid (show IntKind.i64.wrap ((i : Int) + 1) = (i1 : Int) ∧ n - i1 < n - i ∧ i1 ≤ n ∧ (i1 : Int).tmod (n : Int) = (j : Int) ∧ j < n from ⟨by rw [i64_s _ (by omega) (by omega)]; omega, by omega, by omega, by rw [hj]; exact Int.tmod_eq_emod_of_nonneg (by omega), by rw [hj]; exact Nat.mod_lt _ (by omega)⟩)
   have HC := Lib.hid hc
   clear hc hn64
   by_cases hp : hasAt ps v1 v2 i = true
   ·obtain ⟨v, hv, hv0⟩ : ∃ v, sgnQ (lf (px ps i) (py ps i) (px ps j) (py ps j) v1 v2) = v ∧ decide (v < 0) = false := ⟨_, rfl, by
     unfold hasAt at hp; rw [HL.out, ← hi1, ← hj, decide_eq_true_eq] at hp
     exact decide_eq_false (by unfold sgnQ cmpQ; grind)⟩
    have HV := Lib.hid hv; clear hv
    have HE := Lib.hid (Lib.hid (show ∀ j, j < i1 → hasAt ps v1 v2 j = true from fun q hq => by
     rcases Nat.lt_or_ge q i with h | h
     ·exact hall.out q h
     ·have : q = i := by omega
      rw [this]; exact hp))
    clear hp hi1 hj hin hc' hall
    go_upto_region 4 with (fail)
    refine rgT [] HR ?_
    refine pV (.bool true) (by intro w; go_simp <;> (first | (rw [HC.out]; done) | exact HC.out | (simp [HC.out]; done) | (trace_state; done))) ?_
    refine Seq.done fun ws4 hws => ?_
    have HS4 := hws.st
    clear HR hws
    go_upto_region 5 with (fail)
    refine rgT [] HS4 ?_
    refine pU ?_
    refine Seq.index (m := 6) i rfl rfl rfl rfl rfl (by kernel_rfl) rfl HC.out (nZ ?_)
    refine Seq.loadAtF rfl rfl rfl rfl HG.out (n := 6) (cs' := VC (px ps i) (py ps i)) (PX_room (lt_of_pts HL.out HC.out)) (by kernel_rfl) (PX_at (lt_of_pts HL.out HC.out)) (nZ ?_)
    refine aL6 ?_
    intro bk6 _ _ hbk6_r
    refine nZ ?_
    refine pU ?_
    refine sV (VC_one _ _) ?_
    refine Seq.done fun ws5 hws => ?_
    have HS5 := hws.q1 (p := bk6)
    clear HS4 hws
    go_upto_region 6 with (fail)
    refine rgW [] HS5 ?_
    refine lV ?_
    iterate 2 refine pU ?_
    refine pV (.int .i64 (i1 : Int)) (by intro w; go_simp <;> (first | (rw [HI1.out.1]; done) | exact HI1.out.1 | (simp [HI1.out.1]; done) | (trace_state; done))) ?_
    refine pU ?_
    refine pV (.int .i64 (n : Int)) (by intro w; go_simp; try rfl) ?_
    refine pV (.int .i64 (j : Int)) (by intro w; go_simp <;> (first | (rw [HNZ.out]; done) | (rw [HI1.out.2.2.2.1]; done) | exact HNZ.out | exact HI1.out.2.2.2.1 | (simp [HNZ.out, HI1.out.2.2.2.1]; done) | (trace_state; done))) ?_
    refine Seq.index (m := 6) j rfl rfl rfl rfl rfl (by kernel_rfl) rfl HI1.out.2.2.2.2 (nZ ?_)
    refine Seq.loadAtF rfl rfl rfl rfl HG.out (n := 6) (cs' := VC (px ps j) (py ps j)) (PX_room (lt_of_pts HL.out HI1.out.2.2.2.2)) (by kernel_rfl) (PX_at (lt_of_pts HL.out HI1.out.2.2.2.2)) (nZ ?_)
    refine lV ?_
    refine cX rfl rfl (left_q (k := (1 * k + 0)) HT.out ((HZP.out.x (lt_of_pts HL.out HC.out)).more (by omega)) ((HZP.out.y (lt_of_pts HL.out HC.out)).more (by omega)) ((HZP.out.x (lt_of_pts HL.out HI1.out.2.2.2.2)).more (by omega)) ((HZP.out.y (lt_of_pts HL.out HI1.out.2.2.2.2)).more (by omega)) (Z_v1.out.more (by omega)) (Z_v2.out.more (by omega)) HV.out (by omega)) ?_
    refine pU ?_
    refine Seq.done fun ws6 hws => ?_
    have HS6 := hws.st
    clear HS5 hws
    go_upto_region 8 with (fail)
    refine rgT [] HS6 ?_
    refine pV (.int .i64 (i1 : Int)) (by intro w; go_simp <;> (first | (rw [HI1.out.1]; done) | exact HI1.out.1 | (simp [HI1.out.1]; done) | (trace_state; done))) ?_
    refine pU ?_
    refine Seq.done fun ws7 hws => ?_
    have HS7 := hws.st
    clear HS6 hws
    go_wp2_with fail
    go_roundg (n - i1)
    case measure => rw [HGK.out]; exact HI1.out.2.1
    case rel => exact ⟨i1, rfl, rfl, HI1.out.2.2.1, HE.out, Lib.hid HS7.drop⟩
   ·obtain ⟨v, hv, hv0⟩ : ∃ v, sgnQ (lf (px ps i) (py ps i) (px ps j) (py ps j) v1 v2) = v ∧ decide (v < 0) = true := ⟨_, rfl, by
     unfold hasAt at hp; rw [HL.out, ← hi1, ← hj, decide_eq_true_eq] at hp
     exact decide_eq_true (by unfold sgnQ cmpQ; grind)⟩
    have HV := Lib.hid hv; clear hv
    have HE := Lib.hid (show hasB ps v1 v2 = false by
     rw [← Bool.not_eq_true, hasB_at]
     intro H
     exact hp (H i (by rw [HL.out]; exact hc')))
    clear hp hi1 hj hin hc' hall
    go_upto_region 4 with (fail)
    refine rgT [] HR ?_
    refine pV (.bool true) (by intro w; go_simp <;> (first | (rw [HC.out]; done) | exact HC.out | (simp [HC.out]; done) | (trace_state; done))) ?_
    refine Seq.done fun ws4 hws => ?_
    have HS4 := hws.st
    clear HR hws
    go_upto_region 5 with (fail)
    refine rgT [] HS4 ?_
    refine pU ?_
    refine Seq.index (m := 6) i rfl rfl rfl rfl rfl (by kernel_rfl) rfl HC.out (nZ ?_)
    refine Seq.loadAtF rfl rfl rfl rfl HG.out (n := 6) (cs' := VC (px ps i) (py ps i)) (PX_room (lt_of_pts HL.out HC.out)) (by kernel_rfl) (PX_at (lt_of_pts HL.out HC.out)) (nZ ?_)
    refine aL6 ?_
    intro bk6 _ _ hbk6_r
    refine nZ ?_
    refine pU ?_
    refine sV (VC_one _ _) ?_
    refine Seq.done fun ws5 hws => ?_
    have HS5 := hws.q1 (p := bk6)
    clear HS4 hws
    go_upto_region 6 with (fail)
    refine rgW [] HS5 ?_
    refine lV ?_
    iterate 2 refine pU ?_
    refine pV (.int .i64 (i1 : Int)) (by intro w; go_simp <;> (first | (rw [HI1.out.1]; done) | exact HI1.out.1 | (simp [HI1.out.1]; done) | (trace_state; done))) ?_
    refine pU ?_
    refine pV (.int .i64 (n : Int)) (by intro w; go_simp; try rfl) ?_
    refine pV (.int .i64 (j : Int)) (by intro w; go_simp <;> (first | (rw [HNZ.out]; done) | (rw [HI1.out.2.2.2.1]; done) | exact HNZ.out | exact HI1.out.2.2.2.1 | (simp [HNZ.out, HI1.out.2.2.2.1]; done) | (trace_state; done))) ?_
    refine Seq.index (m := 6) j rfl rfl rfl rfl rfl (by kernel_rfl) rfl HI1.out.2.2.2.2 (nZ ?_)
    refine Seq.loadAtF rfl rfl rfl rfl HG.out (n := 6) (cs' := VC (px ps j) (py ps j)) (PX_room (lt_of_pts HL.out HI1.out.2.2.2.2)) (by kernel_rfl) (PX_at (lt_of_pts HL.out HI1.out.2.2.2.2)) (nZ ?_)
    refine lV ?_
    refine cX rfl rfl (left_q (k := (1 * k + 0)) HT.out ((HZP.out.x (lt_of_pts HL.out HC.out)).more (by omega)) ((HZP.out.y (lt_of_pts HL.out HC.out)).more (by omega)) ((HZP.out.x (lt_of_pts HL.out HI1.out.2.2.2.2)).more (by omega)) ((HZP.out.y (lt_of_pts HL.out HI1.out.2.2.2.2)).more (by omega)) (Z_v1.out.more (by omega)) (Z_v2.out.more (by omega)) HV.out (by omega)) ?_
    refine pU ?_
    refine Seq.done fun ws6 hws => ?_
    have HS6 := hws.st
    clear HS5 hws
    go_upto_region 7 with (fail)
    refine rgT [] HS6 ?_
    refine pU ?_
    refine Seq.done fun ws7 hws => ?_
    have HS7 := hws.st
    clear HS6 hws
    go_wp2_with fail
    go_ret
    exact ⟨by rw [HE.out]; rfl, HS7.below⟩
  ·have HE := Lib.hid (show hasB ps v1 v2 = true by
    rw [hasB_at]
    intro q hq
    rw [HL.out] at hq
    exact hall.out q (by omega))
   have HC := Lib.hid (show n ≤ i by omega)
   clear hc hin hall
   go_upto_region 4 with (fail)
   refine rgT [] HR ?_
   refine pV (.bool false) (by intro w; go_simp <;> (first | (rw [HC.out]; done) | exact HC.out | (simp [HC.out]; done) | (trace_state; done))) ?_
   refine Seq.done fun ws4 hws => ?_
   have HS4 := hws.st
   clear HR hws
   go_upto_region 9 with (fail)
   refine rgT [] HS4 ?_
   refine pU ?_
   refine Seq.done fun ws5 hws => ?_
   have HS5 := hws.st
   clear HS4 hws
   go_wp2_with fail
   go_ret
   exact ⟨by rw [HE.out]; rfl, HS5.below⟩
end Go.Proofs.YtmchjmflkaiakaaGreatDoor
