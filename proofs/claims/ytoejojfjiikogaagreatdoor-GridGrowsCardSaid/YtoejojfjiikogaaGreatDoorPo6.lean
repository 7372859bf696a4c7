/- Joined texts. -/
import Derived.Test.YtoejojfjiikogaaGreatDoorPo5
import Derived.Deep.LoopGhost

/- poly.Box (printed by lawvec.py). -/
namespace Go.Proofs.YtoejojfjiikogaaGreatDoor
open Go.RowKit
set_option linter.unusedVariables false
set_option linter.unusedSimpArgs false

set_option maxHeartbeats 2000000 in
set_option maxRecDepth 20000 in
theorem goodraw_q {W : World} {l : List Own} (w : World) (h : St W l w) :
    Calls Tryz.prog 85 #[.agg #[.bool false, .string ⟨#[]⟩, .string ⟨#[]⟩]] w fun e w' => e = .returned (.bool false) ∧ Below w.heap.size w w' := by
  clear h
  go_enter Tryz.func85, Tryz.ntmps85
  have HS : St w [] w := St.start
  go_upto_region 0 with (fail)
  refine wp_seq_text [] (StR.no HS) ?_
  refine Seq.box rfl rfl rfl (v := .agg (#[.bool false, .string ⟨#[]⟩, .string ⟨#[]⟩])) (cs := #[.bool false, .string ⟨#[]⟩, .string ⟨#[]⟩]) rfl rfl ?_
  intro bk1 _ _ hbk1_r
  simp only [Act.put, nA, nB, nC]
  refine Seq.pure rfl rfl (by intro w; go_simp; try rfl) ?_
  simp only [Act.put, nA, nB, nC]
  refine Seq.done fun ws1 hws => ?_
  have HS1 : St w [(bk1, 24, #[.bool false, .string ⟨#[]⟩, .string ⟨#[]⟩])] ws1 := hws.list1 (by repeat (first | exact rS | refine rN (by assumption) ?_))
  clear HS hws
  go_upto_region 1 with (fail)
  refine wp_seq_text [] (StR.no HS1) ?_
  refine Seq.pure rfl rfl (by intro w; go_simp; try rfl) ?_
  simp only [Act.put, nA, nB, nC]
  refine Seq.loadCell rfl rfl rfl rfl (by repeat (first | exact mC | apply mT)) (v := .string ⟨#[]⟩) rfl (by kernel_rfl) rfl ?_
  simp only [Act.put, nA, nB, nC]
  iterate 2 (refine Seq.pure rfl rfl (by intro w; go_simp; try rfl) ?_; simp only [Act.put, nA, nB, nC])
  iterate 4 (refine Seq.nw rfl ?_; simp only [Act.put, nA, nB, nC])
  iterate 2 (refine Seq.pure rfl rfl (by intro w; go_simp; try rfl) ?_; simp only [Act.put, nA, nB, nC])
  iterate 12 (refine Seq.nw rfl ?_; simp only [Act.put, nA, nB, nC])
  iterate 2 (refine Seq.pure rfl rfl (by intro w; go_simp; try rfl) ?_; simp only [Act.put, nA, nB, nC])
  iterate 9 (refine Seq.nw rfl ?_; simp only [Act.put, nA, nB, nC])
  refine Seq.pure rfl rfl (by intro w; go_simp; try rfl) ?_
  simp only [Act.put, nA, nB, nC]
  refine Seq.done fun ws2 hws => ?_
  have HS2 := hws.st
  clear HS1 hws
  go_upto_region 2 with (fail)
  refine wp_seq_text [] (StR.no HS2) ?_
  refine Seq.pure rfl rfl (by intro w; go_simp; try rfl) ?_
  simp only [Act.put, nA, nB, nC]
  refine Seq.done fun ws3 hws => ?_
  have HS3 := hws.st
  clear HS2 hws
  go_wp2_with fail
  go_ret
  exact ⟨rfl, HS3.below⟩
set_option maxHeartbeats 2000000 in
set_option maxRecDepth 20000 in
theorem fitraw_q {W : World} {l : List Own} (w : World) (h : St W l w) :
    Calls Tryz.prog 45 #[.agg #[.bool false, .string ⟨#[]⟩, .string ⟨#[]⟩]] w fun e w' => e = .returned (.agg (RC 0)) ∧ Below w.heap.size w w' := by
  clear h
  go_enter Tryz.func45, Tryz.ntmps45
  have HS : St w [] w := St.start
  go_upto_region 0 with (fail)
  refine wp_seq_text [] (StR.no HS) ?_
  refine Seq.box rfl rfl rfl (v := .agg (#[.bool false, .string ⟨#[]⟩, .string ⟨#[]⟩])) (cs := #[.bool false, .string ⟨#[]⟩, .string ⟨#[]⟩]) rfl rfl ?_
  intro bk1 _ _ hbk1_r
  simp only [Act.put, nA, nB, nC]
  refine Seq.alloc rfl rfl rfl (z := .agg #[.bool false, .string ⟨#[]⟩, .string ⟨#[]⟩]) (by kernel_rfl) rfl ?_
  intro bk2 _ _ hbk2_r
  obtain ⟨ne_bk2_bk1, hbk2_r⟩ := Reg.ne_of_put hbk2_r
  have ne_bk1_bk2 := Ne.symm ne_bk2_bk1
  simp only [Act.put, nA, nB, nC]
  refine Seq.done fun ws1 hws => ?_
  have HS1 : St w [(bk1, 24, #[.bool false, .string ⟨#[]⟩, .string ⟨#[]⟩]), (bk2, 24, #[.bool false, .string ⟨#[]⟩, .string ⟨#[]⟩])] ws1 := hws.list2 (by repeat (first | exact rS | refine rN (by assumption) ?_)) (by repeat (first | exact rS | refine rN (by assumption) ?_)) (by assumption)
  clear HS hws
  go_upto_region 1 with (fail)
  refine wp_seq_text [] (StR.no HS1) ?_
  refine Seq.load rfl rfl rfl rfl (by repeat (first | exact mC | apply mT)) (n := 3) rfl (by kernel_rfl) ?_
  simp only [Act.put, nA, nB, nC]
  refine Seq.call rfl rfl rfl rfl (by kernel_rfl) (goodraw_q) ?_
  simp only [Act.put, nA, nB, nC]
  refine Seq.pure rfl rfl (by intro w; go_simp; try rfl) ?_
  simp only [Act.put, nA, nB, nC]
  refine Seq.done fun ws2 hws => ?_
  have HS2 := hws.st
  clear HS1 hws
  go_upto_region 2 with (fail)
  have HPbk2 : St w [(bk2, 24, #[.bool false, .string ⟨#[]⟩, .string ⟨#[]⟩]), (bk1, 24, #[.bool false, .string ⟨#[]⟩, .string ⟨#[]⟩])] _ := St.perm HS2 (List.perm_middle (l₁ := ([(bk1, 24, #[.bool false, .string ⟨#[]⟩, .string ⟨#[]⟩])] : List Own)))
  refine wp_seq_text [] (StR.move (StR.no HPbk2)) ?_
  refine Seq.call rfl rfl rfl rfl (by kernel_rfl) (fun w h => zero_R w) ?_
  simp only [Act.put, nA, nB, nC]
  refine Seq.store rfl rfl rfl rfl rfl (by repeat (first | exact rS | refine rN (by assumption) ?_)) (n := 3) rfl rfl (by kernel_rfl) (RC_one _) ?_
  simp only [Act.put, nA, nB, nC]
  refine Seq.done fun ws3 hws => ?_
  have HS3 : St w [(bk2, 24, RC (0 : Rat)), (bk1, 24, #[.bool false, .string ⟨#[]⟩, .string ⟨#[]⟩])] ws3 := hws.list1 (by repeat (first | exact rS | refine rN (by assumption) ?_))
  clear HS2 hws HPbk2
  go_wp2_with fail
  exact ret_own rfl rfl rfl HS3 (by repeat (first | exact mC | apply mT)) (n := 3) rfl (by kernel_rfl) ⟨rfl, HS3.below⟩
theorem sg_zero_n {u : Bool} {n : Nat} (h : sg u n = sg (decide (Rat.num 0 < 0)) (Rat.num 0).natAbs + sg (decide (Rat.num 0 < 0)) (Rat.num 0).natAbs) : Sz 2 n ∧ mkRat (sg u n) (Rat.den 0) = 0 := by
  have e : sg (decide (Rat.num 0 < 0)) (Rat.num 0).natAbs + sg (decide (Rat.num 0 < 0)) (Rat.num 0).natAbs = 0 := by decide
  rw [e] at h
  have hn : n = 0 := by unfold sg at h; split at h <;> omega
  subst hn
  rw [h]
  exact ⟨by unfold Sz; decide, by decide +kernel⟩
set_option maxHeartbeats 2000000 in
set_option maxRecDepth 20000 in
theorem addraw_q {W : World} {l : List Own} (hT : Tab W) (w : World) (h : St W l w) :
    Calls Tryz.prog 41 #[.agg #[.bool false, .string ⟨#[]⟩, .string ⟨#[]⟩], .agg #[.bool false, .string ⟨#[]⟩, .string ⟨#[]⟩]] w fun e w' => e = .returned (.agg (RC 0)) ∧ Below w.heap.size w w' := by
  have HT := Lib.hid (tabS hT h); clear hT h
  have HZ := Lib.hid (show Sz 2 (Rat.num 0).natAbs from by unfold Sz; decide)
  have HZ1 := Lib.hid (show Sz 2 (Rat.den 0) from by unfold Sz; decide)
  go_enter Tryz.func41, Tryz.ntmps41
  have HS : St w [] w := St.start
  go_upto_region 0 with (fail)
  refine wp_seq_text [] (StR.no HS) ?_
  refine Seq.box rfl rfl rfl (v := .agg (#[.bool false, .string ⟨#[]⟩, .string ⟨#[]⟩])) (cs := #[.bool false, .string ⟨#[]⟩, .string ⟨#[]⟩]) rfl rfl ?_
  intro bk2 _ _ hbk2_r
  simp only [Act.put, nA, nB, nC]
  refine Seq.box rfl rfl rfl (v := .agg (#[.bool false, .string ⟨#[]⟩, .string ⟨#[]⟩])) (cs := #[.bool false, .string ⟨#[]⟩, .string ⟨#[]⟩]) rfl rfl ?_
  intro bk3 _ _ hbk3_r
  obtain ⟨ne_bk3_bk2, hbk3_r⟩ := Reg.ne_of_put hbk3_r
  have ne_bk2_bk3 := Ne.symm ne_bk3_bk2
  simp only [Act.put, nA, nB, nC]
  refine Seq.alloc rfl rfl rfl (z := .agg #[.bool false, .string ⟨#[]⟩, .string ⟨#[]⟩]) (by kernel_rfl) rfl ?_
  intro bk4 _ _ hbk4_r
  obtain ⟨ne_bk4_bk3, hbk4_r⟩ := Reg.ne_of_put hbk4_r
  have ne_bk3_bk4 := Ne.symm ne_bk4_bk3
  obtain ⟨ne_bk4_bk2, hbk4_r⟩ := Reg.ne_of_put hbk4_r
  have ne_bk2_bk4 := Ne.symm ne_bk4_bk2
  simp only [Act.put, nA, nB, nC]
  refine Seq.done fun ws1 hws => ?_
  have HS1 : St w [(bk2, 24, #[.bool false, .string ⟨#[]⟩, .string ⟨#[]⟩]), (bk3, 24, #[.bool false, .string ⟨#[]⟩, .string ⟨#[]⟩]), (bk4, 24, #[.bool false, .string ⟨#[]⟩, .string ⟨#[]⟩])] ws1 := hws.list3 (by repeat (first | exact rS | refine rN (by assumption) ?_)) (by repeat (first | exact rS | refine rN (by assumption) ?_)) (by repeat (first | exact rS | refine rN (by assumption) ?_)) (by assumption) (by assumption) (by assumption)
  clear HS hws
  go_upto_region 1 with (fail)
  have HPbk3 : St w [(bk3, 24, #[.bool false, .string ⟨#[]⟩, .string ⟨#[]⟩]), (bk2, 24, #[.bool false, .string ⟨#[]⟩, .string ⟨#[]⟩]), (bk4, 24, #[.bool false, .string ⟨#[]⟩, .string ⟨#[]⟩])] _ := St.perm HS1 (List.perm_middle (l₁ := ([(bk2, 24, #[.bool false, .string ⟨#[]⟩, .string ⟨#[]⟩])] : List Own)))
  have HPbk2 : St w [(bk2, 24, #[.bool false, .string ⟨#[]⟩, .string ⟨#[]⟩]), (bk3, 24, #[.bool false, .string ⟨#[]⟩, .string ⟨#[]⟩]), (bk4, 24, #[.bool false, .string ⟨#[]⟩, .string ⟨#[]⟩])] _ := St.perm HPbk3 (List.perm_middle (l₁ := ([(bk3, 24, #[.bool false, .string ⟨#[]⟩, .string ⟨#[]⟩])] : List Own)))
  refine wp_seq [0, 4] (by kernel_rfl) (by kernel_rfl) (Reg.fin.put (Reg.fin.put Reg.fin_no _ _) _ _) (StR.move (StR.move (StR.no HPbk2))) ?_
  refine Seq.get rfl rfl rfl rfl (by repeat (first | exact rS | refine rN (by assumption) ?_)) (n := 3) rfl (by kernel_rfl) ?_
  simp only [Act.put, nA, nB, nC]
  refine Seq.call rfl rfl rfl rfl (by kernel_rfl) (fitraw_q) ?_
  simp only [Act.put, nA, nB, nC]
  refine Seq.get rfl rfl rfl rfl (by repeat (first | exact rS | refine rN (by assumption) ?_)) (n := 3) rfl (by kernel_rfl) ?_
  simp only [Act.put, nA, nB, nC]
  refine Seq.call rfl rfl rfl rfl (by kernel_rfl) (fitraw_q) ?_
  simp only [Act.put, nA, nB, nC]
  refine Seq.store rfl rfl rfl rfl rfl (by repeat (first | exact rS | refine rN (by assumption) ?_)) (n := 3) rfl rfl (by kernel_rfl) (RC_one _) ?_
  simp only [Act.put, nA, nB, nC]
  refine Seq.store rfl rfl rfl rfl rfl (by repeat (first | exact rS | refine rN (by assumption) ?_)) (n := 3) rfl rfl (by kernel_rfl) (RC_one _) ?_
  simp only [Act.put, nA, nB, nC]
  refine Seq.done fun ws2 hws => ?_
  have HS2 : St w [(bk2, 24, RC (0 : Rat)), (bk3, 24, RC (0 : Rat)), (bk4, 24, #[.bool false, .string ⟨#[]⟩, .string ⟨#[]⟩])] ws2 := hws.list2 (by repeat (first | exact rS | refine rN (by assumption) ?_)) (by repeat (first | exact rS | refine rN (by assumption) ?_)) (by assumption)
  clear HS1 hws HPbk3 HPbk2
  go_upto_region 2 with (fail)
  refine wp_seq_text [] (StR.no HS2) ?_
  refine Seq.pure rfl rfl (by intro w; go_simp; try rfl) ?_
  simp only [Act.put, nA, nB, nC]
  refine Seq.loadCell rfl rfl rfl rfl (by repeat (first | exact mC | apply mT)) (v := .string (S (Rat.den (0 : Rat)))) rfl (by kernel_rfl) rfl ?_
  simp only [Act.put, nA, nB, nC]
  refine Seq.pure rfl rfl (by intro w; go_simp; try rfl) ?_
  simp only [Act.put, nA, nB, nC]
  refine Seq.loadCell rfl rfl rfl rfl (by repeat (first | exact mC | apply mT)) (v := .string (S (Rat.den (0 : Rat)))) rfl (by kernel_rfl) rfl ?_
  simp only [Act.put, nA, nB, nC]
  refine Seq.pure rfl rfl (by intro w; go_simp; try rfl) ?_
  simp only [Act.put, nA, nB, nC]
  refine Seq.done fun ws3 hws => ?_
  have HS3 := hws.st
  clear HS2 hws
  go_upto_region 3 with (fail)
  refine wp_seq_text [3000000] (StR.no HS3) ?_
  refine Seq.pure rfl rfl (by intro w; go_simp; try rfl) ?_
  simp only [Act.put, nA, nB, nC]
  refine Seq.loadCell rfl rfl rfl rfl (by repeat (first | exact mC | apply mT)) (v := .bool (decide (Rat.num (0 : Rat) < 0))) rfl (by kernel_rfl) rfl ?_
  simp only [Act.put, nA, nB, nC]
  refine Seq.pure rfl rfl (by intro w; go_simp; try rfl) ?_
  simp only [Act.put, nA, nB, nC]
  refine Seq.loadCell rfl rfl rfl rfl (by repeat (first | exact mC | apply mT)) (v := .string (S (Rat.num (0 : Rat)).natAbs)) rfl (by kernel_rfl) rfl ?_
  simp only [Act.put, nA, nB, nC]
  refine Seq.pure rfl rfl (by intro w; go_simp; try rfl) ?_
  simp only [Act.put, nA, nB, nC]
  refine Seq.loadCell rfl rfl rfl rfl (by repeat (first | exact mC | apply mT)) (v := .bool (decide (Rat.num (0 : Rat) < 0))) rfl (by kernel_rfl) rfl ?_
  simp only [Act.put, nA, nB, nC]
  refine Seq.pure rfl rfl (by intro w; go_simp; try rfl) ?_
  simp only [Act.put, nA, nB, nC]
  refine Seq.loadCell rfl rfl rfl rfl (by repeat (first | exact mC | apply mT)) (v := .string (S (Rat.num (0 : Rat)).natAbs)) rfl (by kernel_rfl) rfl ?_
  simp only [Act.put, nA, nB, nC]
  refine Seq.callE rfl rfl rfl rfl (by kernel_rfl) (fun w2 h2 => (signed_R _ _ _ _ 2 2 w2 HZ.out HZ.out (by omega) (by omega)).mono ?_)
  rintro e w3 ⟨⟨u_, n_, rfl, hsg⟩, hb_⟩
  refine ⟨_, _, rfl, h2.next hb_, ?_⟩
  have HSG := Lib.hid (sg_zero_n hsg); clear hsg hb_ h2
  simp only [Act.put, nA, nB, nC]
  refine Seq.pure rfl rfl (by intro w; go_simp; try rfl) ?_
  simp only [Act.put, nA, nB, nC]
  refine Seq.pure (v := .bool u_) rfl rfl (fun w => rfl) ?_
  simp only [Act.put, nA, nB, nC]
  refine Seq.pure (v := .string (S n_)) rfl rfl (fun w => rfl) ?_
  simp only [Act.put, nA, nB, nC]
  iterate 2 (refine Seq.pure rfl rfl (by intro w; go_simp; try rfl) ?_; simp only [Act.put, nA, nB, nC])
  refine Seq.done fun ws4 hws => ?_
  have HS4 := hws.st
  clear HS3 hws
  go_upto_region 4 with (fail)
  have HPbk4 : St w [(bk4, 24, #[.bool false, .string ⟨#[]⟩, .string ⟨#[]⟩]), (bk2, 24, RC (0 : Rat)), (bk3, 24, RC (0 : Rat))] _ := St.perm HS4 (List.perm_middle (l₁ := ([(bk2, 24, RC (0 : Rat)), (bk3, 24, RC (0 : Rat))] : List Own)))
  refine wp_seq_text [] (StR.move (StR.no HPbk4)) ?_
  iterate 3 (refine Seq.pure rfl rfl (by intro w; go_simp; try rfl) ?_; simp only [Act.put, nA, nB, nC])
  refine Seq.loadCell rfl rfl rfl rfl (by repeat (first | exact mC | apply mT)) (v := .string (S (Rat.den (0 : Rat)))) rfl (by kernel_rfl) rfl ?_
  simp only [Act.put, nA, nB, nC]
  refine Seq.call rfl rfl rfl rfl (by kernel_rfl) (made_q (k := 2) u_ n_ (Rat.den 0) HT.out (by decide) HSG.out.1 HZ1.out (by omega) HSG.out.2) ?_
  simp only [Act.put, nA, nB, nC]
  refine Seq.store rfl rfl rfl rfl rfl (by repeat (first | exact rS | refine rN (by assumption) ?_)) (n := 3) rfl rfl (by kernel_rfl) (RC_one _) ?_
  simp only [Act.put, nA, nB, nC]
  refine Seq.done fun ws5 hws => ?_
  have HS5 : St w [(bk4, 24, RC (0 : Rat)), (bk2, 24, RC (0 : Rat)), (bk3, 24, RC (0 : Rat))] ws5 := hws.list1 (by repeat (first | exact rS | refine rN (by assumption) ?_))
  clear HS4 hws HPbk4
  go_wp2_with fail
  exact ret_own rfl rfl rfl HS5 (by repeat (first | exact mC | apply mT)) (n := 3) rfl (by kernel_rfl) ⟨rfl, HS5.below⟩
set_option maxHeartbeats 2000000 in
set_option maxRecDepth 20000 in
theorem vaddraw_q {W : World} {l : List Own} (hT : Tab W) (w : World) (h : St W l w) :
    Calls Tryz.prog 52 #[.agg (#[.bool false, .string ⟨#[]⟩, .string ⟨#[]⟩, .bool false, .string ⟨#[]⟩, .string ⟨#[]⟩]), .agg (#[.bool false, .string ⟨#[]⟩, .string ⟨#[]⟩, .bool false, .string ⟨#[]⟩, .string ⟨#[]⟩])] w fun e w' => e = .returned (.agg (VC 0 0)) ∧ Below w.heap.size w w' := by
  have HT := Lib.hid (tabS hT h); clear hT h
  go_enter Tryz.func52, Tryz.ntmps52
  have HS : St w [] w := St.start
  go_upto_region 0 with (fail)
  refine wp_seq_text [] (StR.no HS) ?_
  refine Seq.box rfl rfl rfl (v := .agg (#[.bool false, .string ⟨#[]⟩, .string ⟨#[]⟩, .bool false, .string ⟨#[]⟩, .string ⟨#[]⟩])) (cs := #[.bool false, .string ⟨#[]⟩, .string ⟨#[]⟩, .bool false, .string ⟨#[]⟩, .string ⟨#[]⟩]) rfl rfl ?_
  intro bk2 _ _ hbk2_r
  simp only [Act.put, nA, nB, nC]
  refine Seq.box rfl rfl rfl (v := .agg (#[.bool false, .string ⟨#[]⟩, .string ⟨#[]⟩, .bool false, .string ⟨#[]⟩, .string ⟨#[]⟩])) (cs := #[.bool false, .string ⟨#[]⟩, .string ⟨#[]⟩, .bool false, .string ⟨#[]⟩, .string ⟨#[]⟩]) rfl rfl ?_
  intro bk3 _ _ hbk3_r
  obtain ⟨ne_bk3_bk2, hbk3_r⟩ := Reg.ne_of_put hbk3_r
  have ne_bk2_bk3 := Ne.symm ne_bk3_bk2
  simp only [Act.put, nA, nB, nC]
  refine Seq.alloc rfl rfl rfl (z := .agg #[.bool false, .string ⟨#[]⟩, .string ⟨#[]⟩, .bool false, .string ⟨#[]⟩, .string ⟨#[]⟩]) (by kernel_rfl) rfl ?_
  intro bk4 _ _ hbk4_r
  obtain ⟨ne_bk4_bk3, hbk4_r⟩ := Reg.ne_of_put hbk4_r
  have ne_bk3_bk4 := Ne.symm ne_bk4_bk3
  obtain ⟨ne_bk4_bk2, hbk4_r⟩ := Reg.ne_of_put hbk4_r
  have ne_bk2_bk4 := Ne.symm ne_bk4_bk2
  simp only [Act.put, nA, nB, nC]
  refine Seq.done fun ws1 hws => ?_
  have HS1 : St w [(bk2, 26, #[.bool false, .string ⟨#[]⟩, .string ⟨#[]⟩, .bool false, .string ⟨#[]⟩, .string ⟨#[]⟩]), (bk3, 26, #[.bool false, .string ⟨#[]⟩, .string ⟨#[]⟩, .bool false, .string ⟨#[]⟩, .string ⟨#[]⟩]), (bk4, 26, #[.bool false, .string ⟨#[]⟩, .string ⟨#[]⟩, .bool false, .string ⟨#[]⟩, .string ⟨#[]⟩])] ws1 := hws.list3 (by repeat (first | exact rS | refine rN (by assumption) ?_)) (by repeat (first | exact rS | refine rN (by assumption) ?_)) (by repeat (first | exact rS | refine rN (by assumption) ?_)) (by assumption) (by assumption) (by assumption)
  clear HS hws
  go_upto_region 1 with (fail)
  have HPbk4 : St w [(bk4, 26, #[.bool false, .string ⟨#[]⟩, .string ⟨#[]⟩, .bool false, .string ⟨#[]⟩, .string ⟨#[]⟩]), (bk2, 26, #[.bool false, .string ⟨#[]⟩, .string ⟨#[]⟩, .bool false, .string ⟨#[]⟩, .string ⟨#[]⟩]), (bk3, 26, #[.bool false, .string ⟨#[]⟩, .string ⟨#[]⟩, .bool false, .string ⟨#[]⟩, .string ⟨#[]⟩])] _ := St.perm HS1 (List.perm_middle (l₁ := ([(bk2, 26, #[.bool false, .string ⟨#[]⟩, .string ⟨#[]⟩, .bool false, .string ⟨#[]⟩, .string ⟨#[]⟩]), (bk3, 26, #[.bool false, .string ⟨#[]⟩, .string ⟨#[]⟩, .bool false, .string ⟨#[]⟩, .string ⟨#[]⟩])] : List Own)))
  refine wp_seq [] (by kernel_rfl) (by kernel_rfl) (Reg.fin.put Reg.fin_no _ _) (StR.move (StR.no HPbk4)) ?_
  refine Seq.pure rfl rfl (by intro w; go_simp; try rfl) ?_
  simp only [Act.put, nA, nB, nC]
  refine Seq.loadAt rfl rfl rfl rfl (by repeat (first | exact mC | apply mT)) (n := 3) (cs' := #[.bool false, .string ⟨#[]⟩, .string ⟨#[]⟩]) (Nat.le_of_ble_eq_true rfl) (by kernel_rfl) rfl ?_
  simp only [Act.put, nA, nB, nC]
  refine Seq.pure rfl rfl (by intro w; go_simp; try rfl) ?_
  simp only [Act.put, nA, nB, nC]
  refine Seq.loadAt rfl rfl rfl rfl (by repeat (first | exact mC | apply mT)) (n := 3) (cs' := #[.bool false, .string ⟨#[]⟩, .string ⟨#[]⟩]) (Nat.le_of_ble_eq_true rfl) (by kernel_rfl) rfl ?_
  simp only [Act.put, nA, nB, nC]
  refine Seq.call rfl rfl rfl rfl (by kernel_rfl) (addraw_q HT.out) ?_
  simp only [Act.put, nA, nB, nC]
  refine Seq.pure rfl rfl (by intro w; go_simp; try rfl) ?_
  simp only [Act.put, nA, nB, nC]
  refine Seq.loadAt rfl rfl rfl rfl (by repeat (first | exact mC | apply mT)) (n := 3) (cs' := #[.bool false, .string ⟨#[]⟩, .string ⟨#[]⟩]) (Nat.le_of_ble_eq_true rfl) (by kernel_rfl) rfl ?_
  simp only [Act.put, nA, nB, nC]
  refine Seq.pure rfl rfl (by intro w; go_simp; try rfl) ?_
  simp only [Act.put, nA, nB, nC]
  refine Seq.loadAt rfl rfl rfl rfl (by repeat (first | exact mC | apply mT)) (n := 3) (cs' := #[.bool false, .string ⟨#[]⟩, .string ⟨#[]⟩]) (Nat.le_of_ble_eq_true rfl) (by kernel_rfl) rfl ?_
  simp only [Act.put, nA, nB, nC]
  refine Seq.call rfl rfl rfl rfl (by kernel_rfl) (addraw_q HT.out) ?_
  simp only [Act.put, nA, nB, nC]
  refine Seq.pure (v := .agg (VC (0 : Rat) (0 : Rat))) rfl rfl (fun w => bld_Vec rfl rfl rfl w) ?_
  simp only [Act.put, nA, nB, nC]
  refine Seq.store rfl rfl rfl rfl rfl (by repeat (first | exact rS | refine rN (by assumption) ?_)) (n := 6) rfl rfl (by kernel_rfl) (VC_one _ _) ?_
  simp only [Act.put, nA, nB, nC]
  refine Seq.done fun ws2 hws => ?_
  have HS2 : St w [(bk4, 26, VC (0 : Rat) (0 : Rat)), (bk2, 26, #[.bool false, .string ⟨#[]⟩, .string ⟨#[]⟩, .bool false, .string ⟨#[]⟩, .string ⟨#[]⟩]), (bk3, 26, #[.bool false, .string ⟨#[]⟩, .string ⟨#[]⟩, .bool false, .string ⟨#[]⟩, .string ⟨#[]⟩])] ws2 := hws.list1 (by repeat (first | exact rS | refine rN (by assumption) ?_))
  clear HS1 hws HPbk4
  go_wp2_with fail
  exact ret_own rfl rfl rfl HS2 (by repeat (first | exact mC | apply mT)) (n := 6) rfl (by kernel_rfl) ⟨rfl, HS2.below⟩
theorem bld_Box {o : Oper} {a : Act} {X Y : Operand} {x y z u : Rat} (ho : o.op = .build 28 #[(0, X), (1, Y)]) (hX : a.eval X = .agg (VC x y)) (hY : a.eval Y = .agg (VC z u)) (w : World) : (execOp a.eval o).run Tryz.prog w = .ok (.value (.agg (BC x y z u))) w := by
  unfold VC at hX hY
  unfold execOp BC
  simp only [ho, List.map_toArray, List.map_cons, List.map_nil, hX, hY]
  go_simp
theorem mnF_rz {k n : Nat} {f : Nat → Rat} (h : ∀ i, i < n → Rz k (f i)) : ∀ i, i < n → Rz k (mnF f i) := by
  intro i
  induction i with
  | zero => intro h0; exact h 0 h0
  | succ i ih => intro h0; simp only [mnF]; exact (ih (by omega)).min (h _ h0)
theorem mxF_rz {k n : Nat} {f : Nat → Rat} (h : ∀ i, i < n → Rz k (f i)) : ∀ i, i < n → Rz k (mxF f i) := by
  intro i
  induction i with
  | zero => intro h0; exact h 0 h0
  | succ i ih => intro h0; simp only [mxF]; exact (ih (by omega)).max (h _ h0)
section
variable {P : Program} {ops : Array Oper} {W : World} {l : List Own} {Q : Exit → Act → World → Prop} {gs : List Nat} {k : Nat} {o : Oper} {rest : List Oper} {a : Act} {R : Reg}
theorem Addr.add_at (g f0 n : Nat) : (⟨g, f0, none⟩ : Addr).add n = ⟨g, f0 + n, none⟩ := by unfold Addr.add; split <;> simp_all
theorem run_indexO {t : TypeId} {m g f0 n c : Nat} {z : Int} {i : Nat} (ht : sliceOf P t m = true) (hz : z = (i : Int)) (hi : i < n) (w : World) :
    (Instr.indexAt t (.slice (some ⟨g, f0, none⟩) n c) (.int .i64 z)).run P w = .ok (.pointer (some ⟨g, f0 + m * i, none⟩)) w := by
  unfold sliceOf at ht
  cases hu : P.underlying t with
  | none => simp [hu] at ht
  | some d =>
    rw [hu] at ht
    cases d with
    | slice e =>
      simp only [beq_iff_eq] at ht
      cases hq : P.info? e with
      | none => simp [hq] at ht
      | some inf =>
        have hs : inf.size = m := by rw [hq] at ht; simpa using ht
        subst hz
        simp [Instr.indexAt, run_underlying hu, asIntOf, sizeOf, typeInfo, hq, hs, hi, Addr.add_at, Nat.mul_comm]
    | _ => simp at ht
theorem Seq.indexO {t : TypeId} {x y : Operand} {m g f0 n c : Nat} {z : Int} (i : Nat) (ho : o.op = .indexAddr t x y) (hk : kd gs k o = .val) (hw : wants ops o a = true) (hx : a.eval x = .slice (some ⟨g, f0, none⟩) n c) (hy : a.eval y = .int .i64 z)
    (ht : sliceOf P t m = true) (hz : z = (i : Int)) (hi : i < n) {q : Nat} (hq : f0 + m * i = q) (h : Seq P ops Q W l gs (k + 1) rest (a.put o.dst (.pointer (some ⟨g, q, none⟩))) R) : Seq P ops Q W l gs k (o :: rest) a R :=
  Seq.pure hk hw (fun w => by
    unfold execOp
    simp only [ho, hx, hy, Sem.run_bind, run_indexO ht hz hi, Result.andThen_ok, Sem.run_pure, hq]) h
end
set_option maxHeartbeats 4000000 in
set_option maxRecDepth 20000 in
theorem box_q {k n : Nat} {ps : Pts} {W : World} {l : List Own} (hT : Tab W) (hz : Pz k ps) (hl : ps.length = n) (hcv : 3 ≤ n ∧ n ≤ 64 ∧ Cvx ps) (hk : k ≤ 100000000000) (g : Nat) (w : World) (h : St W l w) (hg : Blk w g 26 (PC ps)) :
    Calls Tryz.prog 26 #[.slice (some ⟨g, 0, none⟩) n n] w fun e w' => e = .returned (.agg (BC (mnF (px ps) (ps.length - 1)) (mnF (py ps) (ps.length - 1)) (mxF (px ps) (ps.length - 1)) (mxF (py ps) (ps.length - 1)))) ∧ Below w.heap.size w w' := by
  have HT := Lib.hid (tabS hT h); clear hT h
  have HG := Lib.hid hg; clear hg
  have HL := Lib.hid hl; clear hl
  have HNZ := Lib.hid (show ¬ n = 0 by have := hcv.1; omega)
  have HZP := Lib.hid (show Pz (1 * k + 0) ps by rw [Nat.one_mul]; exact hz); clear hz
  have HCV := Lib.hid (show 3 ≤ n ∧ n ≤ 64 ∧ True from ⟨hcv.1, hcv.2.1, trivial⟩)
  have HPOS := Lib.hid (show 0 < n by have := hcv.1; omega)
  obtain ⟨n1, hn1⟩ : ∃ n1, n - 1 = n1 := ⟨_, rfl⟩
  have HSL := Lib.hid (show n - 1 = n1 ∧ ¬ n = 1 ∧ ¬ (n : Int) < 1 from ⟨hn1, by have := hcv.1; omega, by have := hcv.1; omega⟩)
  clear hn1 hcv
  go_enter Tryz.func26, Tryz.ntmps26
  have HS : St w [] w := St.start
  go_upto_region 0 with (fail)
  refine wp_seq_text [] (StR.no HS) ?_
  refine Seq.alloc rfl rfl rfl (z := .agg #[.bool false, .string ⟨#[]⟩, .string ⟨#[]⟩, .bool false, .string ⟨#[]⟩, .string ⟨#[]⟩, .bool false, .string ⟨#[]⟩, .string ⟨#[]⟩, .bool false, .string ⟨#[]⟩, .string ⟨#[]⟩]) (by kernel_rfl) rfl ?_
  intro bk2 _ _ hbk2_r
  simp only [Act.put, nA, nB, nC]
  refine Seq.done fun ws1 hws => ?_
  have HS1 : St w [(bk2, 28, #[.bool false, .string ⟨#[]⟩, .string ⟨#[]⟩, .bool false, .string ⟨#[]⟩, .string ⟨#[]⟩, .bool false, .string ⟨#[]⟩, .string ⟨#[]⟩, .bool false, .string ⟨#[]⟩, .string ⟨#[]⟩])] ws1 := hws.list1 (by repeat (first | exact rS | refine rN (by assumption) ?_))
  clear HS hws
  go_upto_region 1 with (fail)
  refine wp_seq_text [] (StR.no HS1) ?_
  refine Seq.pure (v := .agg (#[.bool false, .string ⟨#[]⟩, .string ⟨#[]⟩, .bool false, .string ⟨#[]⟩, .string ⟨#[]⟩])) rfl rfl (by intro w; go_simp; try rfl) ?_
  simp only [Act.put, nA, nB, nC]
  refine Seq.pure (v := .agg (#[.bool false, .string ⟨#[]⟩, .string ⟨#[]⟩, .bool false, .string ⟨#[]⟩, .string ⟨#[]⟩])) rfl rfl (by intro w; go_simp; try rfl) ?_
  simp only [Act.put, nA, nB, nC]
  refine Seq.call rfl rfl rfl rfl (by kernel_rfl) (vaddraw_q HT.out) ?_
  simp only [Act.put, nA, nB, nC]
  refine Seq.alloc rfl rfl rfl (z := .agg #[.bool false, .string ⟨#[]⟩, .string ⟨#[]⟩, .bool false, .string ⟨#[]⟩, .string ⟨#[]⟩]) (by kernel_rfl) rfl ?_
  intro bk3 _ _ hbk3_r
  simp only [Act.put, nA, nB, nC]
  refine Seq.store rfl rfl rfl rfl rfl (by repeat (first | exact rS | refine rN (by assumption) ?_)) (n := 6) rfl rfl (by kernel_rfl) (VC_one _ _) ?_
  simp only [Act.put, nA, nB, nC]
  refine Seq.done fun ws2 hws => ?_
  have HS2 : St w [(bk3, 26, VC (0 : Rat) (0 : Rat)), (bk2, 28, #[.bool false, .string ⟨#[]⟩, .string ⟨#[]⟩, .bool false, .string ⟨#[]⟩, .string ⟨#[]⟩, .bool false, .string ⟨#[]⟩, .string ⟨#[]⟩, .bool false, .string ⟨#[]⟩, .string ⟨#[]⟩])] ws2 := hws.list1 (by repeat (first | exact rS | refine rN (by assumption) ?_))
  clear HS1 hws
  go_upto_region 2 with (fail)
  refine wp_seq_text [] (StR.no HS2) ?_
  refine Seq.pure rfl rfl (by intro w; go_simp; try rfl) ?_
  simp only [Act.put, nA, nB, nC]
  refine Seq.pure (v := .int .i64 (n : Int)) rfl rfl (by intro w; go_simp; try rfl) ?_
  simp only [Act.put, nA, nB, nC]
  refine Seq.pure (v := .bool false) rfl rfl (by intro w; go_simp <;> (first | (rw [HNZ.out]; done) | exact HNZ.out | (simp [HNZ.out]; done) | (trace_state; done))) ?_
  simp only [Act.put, nA, nB, nC]
  refine Seq.done fun ws3 hws => ?_
  have HS3 := hws.st
  clear HS2 hws
  go_upto_region 4 with (fail)
  refine wp_seq [] (by kernel_rfl) (by kernel_rfl) Reg.fin_no (StR.no HS3) ?_
  refine Seq.pure rfl rfl (by intro w; go_simp; try rfl) ?_
  simp only [Act.put, nA, nB, nC]
  refine Seq.index (m := 6) 0 rfl rfl rfl rfl rfl (by kernel_rfl) rfl HPOS.out ?_
  simp only [Act.put, nA, nB, nC]
  refine Seq.loadAtF rfl rfl rfl rfl HG.out (n := 6) (cs' := VC (px ps 0) (py ps 0)) (PC_room (lt_of_pts HL.out HPOS.out)) (by kernel_rfl) (PC_at (lt_of_pts HL.out HPOS.out)) ?_
  simp only [Act.put, nA, nB, nC]
  refine Seq.load rfl rfl rfl rfl (by repeat (first | exact mC | apply mT)) (n := 6) rfl (by kernel_rfl) ?_
  simp only [Act.put, nA, nB, nC]
  refine Seq.call rfl rfl rfl rfl (by kernel_rfl) (vadd_q (k := (1 * k + 2)) HT.out ((HZP.out.x (lt_of_pts HL.out HPOS.out)).more (by omega)) ((HZP.out.y (lt_of_pts HL.out HPOS.out)).more (by omega)) (Rz.zero2.more (by omega)) (Rz.zero2.more (by omega))  (Rat.add_zero _) (Rat.add_zero _) (by omega)) ?_
  simp only [Act.put, nA, nB, nC]
  refine Seq.alloc rfl rfl rfl (z := .agg #[.bool false, .string ⟨#[]⟩, .string ⟨#[]⟩, .bool false, .string ⟨#[]⟩, .string ⟨#[]⟩]) (by kernel_rfl) rfl ?_
  intro bk4 _ _ hbk4_r
  simp only [Act.put, nA, nB, nC]
  refine Seq.store rfl rfl rfl rfl rfl (by repeat (first | exact rS | refine rN (by assumption) ?_)) (n := 6) rfl rfl (by kernel_rfl) (VC_one _ _) ?_
  simp only [Act.put, nA, nB, nC]
  refine Seq.done fun ws4 hws => ?_
  have HS4 : St w [(bk4, 26, VC (px ps 0) (py ps 0)), (bk3, 26, VC (0 : Rat) (0 : Rat)), (bk2, 28, #[.bool false, .string ⟨#[]⟩, .string ⟨#[]⟩, .bool false, .string ⟨#[]⟩, .string ⟨#[]⟩, .bool false, .string ⟨#[]⟩, .string ⟨#[]⟩, .bool false, .string ⟨#[]⟩, .string ⟨#[]⟩])] ws4 := hws.list1 (by repeat (first | exact rS | refine rN (by assumption) ?_))
  clear HS3 hws
  go_upto_region 5 with (fail)
  refine wp_seq_text [] (StR.no HS4) ?_
  refine Seq.load rfl rfl rfl rfl (by repeat (first | exact mC | apply mT)) (n := 6) rfl (by kernel_rfl) ?_
  simp only [Act.put, nA, nB, nC]
  refine Seq.load rfl rfl rfl rfl (by repeat (first | exact mC | apply mT)) (n := 6) rfl (by kernel_rfl) ?_
  simp only [Act.put, nA, nB, nC]
  refine Seq.pure (v := .agg (BC (px ps 0) (py ps 0) (px ps 0) (py ps 0))) rfl rfl (fun w => bld_Box rfl rfl rfl w) ?_
  simp only [Act.put, nA, nB, nC]
  refine Seq.alloc rfl rfl rfl (z := .agg #[.bool false, .string ⟨#[]⟩, .string ⟨#[]⟩, .bool false, .string ⟨#[]⟩, .string ⟨#[]⟩, .bool false, .string ⟨#[]⟩, .string ⟨#[]⟩, .bool false, .string ⟨#[]⟩, .string ⟨#[]⟩]) (by kernel_rfl) rfl ?_
  intro bk5 _ _ hbk5_r
  simp only [Act.put, nA, nB, nC]
  refine Seq.store rfl rfl rfl rfl rfl (by repeat (first | exact rS | refine rN (by assumption) ?_)) (n := 12) rfl rfl (by kernel_rfl) (BC_one _ _ _ _) ?_
  simp only [Act.put, nA, nB, nC]
  refine Seq.done fun ws5 hws => ?_
  have HS5 : St w [(bk5, 28, BC (px ps 0) (py ps 0) (px ps 0) (py ps 0)), (bk4, 26, VC (px ps 0) (py ps 0)), (bk3, 26, VC (0 : Rat) (0 : Rat)), (bk2, 28, #[.bool false, .string ⟨#[]⟩, .string ⟨#[]⟩, .bool false, .string ⟨#[]⟩, .string ⟨#[]⟩, .bool false, .string ⟨#[]⟩, .string ⟨#[]⟩, .bool false, .string ⟨#[]⟩, .string ⟨#[]⟩])] ws5 := hws.list1 (by repeat (first | exact rS | refine rN (by assumption) ?_))
  clear HS4 hws
  go_upto_region 6 with (fail)
  refine wp_seq_text [] (StR.no HS5) ?_
  refine Seq.pure rfl rfl (by intro w; go_simp; try rfl) ?_
  simp only [Act.put, nA, nB, nC]
  refine Seq.pure (v := .slice (some ⟨g, 6, none⟩) n1 n1) rfl rfl (by intro w; go_simp <;> (first | (rw [HSL.out.1]; done) | (rw [HSL.out.2.1]; done) | (rw [HSL.out.2.2]; done) | exact HSL.out.1 | exact HSL.out.2.1 | exact HSL.out.2.2 | (simp [HSL.out.1, HSL.out.2.1, HSL.out.2.2]; done) | (trace_state; done))) ?_
  simp only [Act.put, nA, nB, nC]
  refine Seq.pure (v := .int .i64 (n1 : Int)) rfl rfl (by intro w; go_simp <;> (first | (rw [HSL.out.1]; done) | exact HSL.out.1 | (simp [HSL.out.1]; done) | (trace_state; done))) ?_
  simp only [Act.put, nA, nB, nC]
  refine Seq.pure rfl rfl (by intro w; go_simp; try rfl) ?_
  simp only [Act.put, nA, nB, nC]
  refine Seq.done fun ws6 hws => ?_
  have HS6 := hws.st
  clear HS5 hws
  go_wp2_with fail
  go_loopg [28] n1 (fun kk s28 wr => ∃ i : Nat, kk = n1 - i ∧ s28 = .int .i64 (i : Int) ∧ i ≤ n1 ∧ Hid (St w [(bk5, 28, BC (mnF (px ps) i) (mnF (py ps) i) (mxF (px ps) i) (mxF (py ps) i)), (bk4, 26, VC (px ps 0) (py ps 0)), (bk3, 26, VC (0 : Rat) (0 : Rat)), (bk2, 28, #[.bool false, .string ⟨#[]⟩, .string ⟨#[]⟩, .bool false, .string ⟨#[]⟩, .string ⟨#[]⟩, .bool false, .string ⟨#[]⟩, .string ⟨#[]⟩, .bool false, .string ⟨#[]⟩, .string ⟨#[]⟩])] wr))
  case atStart => exact ⟨0, rfl, rfl, by omega, Lib.hid HS6⟩
  case round =>
    obtain ⟨i, hgk, rfl, hin, hS⟩ := hrel
    have HGK := Lib.hid hgk; clear hgk
    have HR := hS.out; clear hS
    have hn1 := HSL.out.1
    have HIN := Lib.hid (show i < n by have := HCV.out.1; omega)
    by_cases hc : i < n1
    · obtain ⟨i1, hi1⟩ : ∃ i1 : Nat, i1 = i + 1 := ⟨_, rfl⟩
      have HI1 := Lib.hid (show IntKind.i64.wrap ((i : Int) + 1) = (i1 : Int) ∧ n1 - i1 < n1 - i ∧ i1 ≤ n1 ∧ 6 + 6 * i = 6 * i1 from ⟨by have := HCV.out.2.1; rw [i64_s _ (by omega) (by omega)]; omega, by omega, by omega, by omega⟩)
      have HIN1 := Lib.hid (show i1 < n by omega)
      have HM := Lib.hid (show minQ (mnF (px ps) i) (px ps i1) = mnF (px ps) i1 ∧ minQ (mnF (py ps) i) (py ps i1) = mnF (py ps) i1 ∧ maxQ (mxF (px ps) i) (px ps i1) = mxF (px ps) i1 ∧ maxQ (mxF (py ps) i) (py ps i1) = mxF (py ps) i1 from by rw [hi1]; exact ⟨rfl, rfl, rfl, rfl⟩)
      have HC := Lib.hid hc
      clear hc hin hi1 hn1
      go_upto_region 7 with (fail)
      refine wp_seq_text [] (StR.no HR) ?_
      refine Seq.pure (v := .bool true) rfl rfl (by intro w; go_simp <;> (first | (rw [HC.out]; done) | exact HC.out | (simp [HC.out]; done) | (trace_state; done))) ?_
      simp only [Act.put, nA, nB, nC]
      refine Seq.done fun ws7 hws => ?_
      have HS7 := hws.st
      clear HR hws
      go_upto_region 8 with (fail)
      refine wp_seq_text [] (StR.no HS7) ?_
      refine Seq.indexO (m := 6) i rfl rfl rfl rfl rfl (by kernel_rfl) rfl HC.out HI1.out.2.2.2 ?_
      simp only [Act.put, nA, nB, nC]
      refine Seq.loadAtF rfl rfl rfl rfl HG.out (n := 6) (cs' := VC (px ps i1) (py ps i1)) (PC_room (lt_of_pts HL.out HIN1.out)) (by kernel_rfl) (PC_at (lt_of_pts HL.out HIN1.out)) ?_
      simp only [Act.put, nA, nB, nC]
      refine Seq.alloc rfl rfl rfl (z := .agg #[.bool false, .string ⟨#[]⟩, .string ⟨#[]⟩, .bool false, .string ⟨#[]⟩, .string ⟨#[]⟩]) (by kernel_rfl) rfl ?_
      intro bk7 _ _ hbk7_r
      simp only [Act.put, nA, nB, nC]
      refine Seq.store rfl rfl rfl rfl rfl (by repeat (first | exact rS | refine rN (by assumption) ?_)) (n := 6) rfl rfl (by kernel_rfl) (VC_one _ _) ?_
      simp only [Act.put, nA, nB, nC]
      refine Seq.done fun ws8 hws => ?_
      have HS8 : St w [(bk7, 26, VC (px ps i1) (py ps i1)), (bk5, 28, BC (mnF (px ps) i) (mnF (py ps) i) (mxF (px ps) i) (mxF (py ps) i)), (bk4, 26, VC (px ps 0) (py ps 0)), (bk3, 26, VC (0 : Rat) (0 : Rat)), (bk2, 28, #[.bool false, .string ⟨#[]⟩, .string ⟨#[]⟩, .bool false, .string ⟨#[]⟩, .string ⟨#[]⟩, .bool false, .string ⟨#[]⟩, .string ⟨#[]⟩, .bool false, .string ⟨#[]⟩, .string ⟨#[]⟩])] ws8 := hws.list1 (by repeat (first | exact rS | refine rN (by assumption) ?_))
      clear HS7 hws
      go_upto_region 9 with (fail)
      have HPbk5 : St w [(bk5, 28, BC (mnF (px ps) i) (mnF (py ps) i) (mxF (px ps) i) (mxF (py ps) i)), (bk7, 26, VC (px ps i1) (py ps i1)), (bk4, 26, VC (px ps 0) (py ps 0)), (bk3, 26, VC (0 : Rat) (0 : Rat)), (bk2, 28, #[.bool false, .string ⟨#[]⟩, .string ⟨#[]⟩, .bool false, .string ⟨#[]⟩, .string ⟨#[]⟩, .bool false, .string ⟨#[]⟩, .string ⟨#[]⟩, .bool false, .string ⟨#[]⟩, .string ⟨#[]⟩])] _ := St.perm HS8 (List.perm_middle (l₁ := ([(bk7, 26, VC (px ps i1) (py ps i1))] : List Own)))
      refine wp_seq [4, 16] (by kernel_rfl) (by kernel_rfl) (Reg.fin.put Reg.fin_no _ _) (StR.move (StR.no HPbk5)) ?_
      iterate 2 (refine Seq.pure rfl rfl (by intro w; go_simp; try rfl) ?_; simp only [Act.put, nA, nB, nC])
      refine Seq.getAt rfl rfl rfl rfl (by repeat (first | exact rS | refine rN (by assumption) ?_)) (n := 3) (cs' := RC (mnF (px ps) i)) (Nat.le_of_ble_eq_true rfl) (by kernel_rfl) rfl ?_
      simp only [Act.put, nA, nB, nC]
      refine Seq.pure rfl rfl (by intro w; go_simp; try rfl) ?_
      simp only [Act.put, nA, nB, nC]
      refine Seq.loadAt rfl rfl rfl rfl (by repeat (first | exact mC | apply mT)) (n := 3) (cs' := RC (px ps i1)) (Nat.le_of_ble_eq_true rfl) (by kernel_rfl) rfl ?_
      simp only [Act.put, nA, nB, nC]
      refine Seq.call rfl rfl rfl rfl (by kernel_rfl) (min_q (k := (1 * k + 0)) HT.out ((mnF_rz (fun q hq => HZP.out.x (lt_of_pts HL.out hq)) _ HIN.out).more (by omega)) ((HZP.out.x (lt_of_pts HL.out HIN1.out)).more (by omega)) HM.out.1 (by omega)) ?_
      simp only [Act.put, nA, nB, nC]
      iterate 2 (refine Seq.pure rfl rfl (by intro w; go_simp; try rfl) ?_; simp only [Act.put, nA, nB, nC])
      refine Seq.getAt rfl rfl rfl rfl (by repeat (first | exact rS | refine rN (by assumption) ?_)) (n := 3) (cs' := RC (mnF (py ps) i)) (Nat.le_of_ble_eq_true rfl) (by kernel_rfl) rfl ?_
      simp only [Act.put, nA, nB, nC]
      refine Seq.pure rfl rfl (by intro w; go_simp; try rfl) ?_
      simp only [Act.put, nA, nB, nC]
      refine Seq.loadAt rfl rfl rfl rfl (by repeat (first | exact mC | apply mT)) (n := 3) (cs' := RC (py ps i1)) (Nat.le_of_ble_eq_true rfl) (by kernel_rfl) rfl ?_
      simp only [Act.put, nA, nB, nC]
      refine Seq.call rfl rfl rfl rfl (by kernel_rfl) (min_q (k := (1 * k + 0)) HT.out ((mnF_rz (fun q hq => HZP.out.y (lt_of_pts HL.out hq)) _ HIN.out).more (by omega)) ((HZP.out.y (lt_of_pts HL.out HIN1.out)).more (by omega)) HM.out.2.1 (by omega)) ?_
      simp only [Act.put, nA, nB, nC]
      refine Seq.pure (v := .agg (VC (mnF (px ps) i1) (mnF (py ps) i1))) rfl rfl (fun w => bld_Vec rfl rfl rfl w) ?_
      simp only [Act.put, nA, nB, nC]
      refine Seq.pure rfl rfl (by intro w; go_simp; try rfl) ?_
      simp only [Act.put, nA, nB, nC]
      refine Seq.storeAt (v := .agg (VC (mnF (px ps) i1) (mnF (py ps) i1))) rfl rfl rfl rfl rfl (by repeat (first | exact rS | refine rN (by assumption) ?_)) (Nat.le_of_ble_eq_true rfl) (by show _ = some 6; kernel_rfl) (VC_one _ _) (cs' := BC (mnF (px ps) i1) (mnF (py ps) i1) (mxF (px ps) i) (mxF (py ps) i)) rfl ?_
      simp only [Act.put, nA, nB, nC]
      refine Seq.done fun ws9 hws => ?_
      have HS9 : St w [(bk5, 28, BC (mnF (px ps) i1) (mnF (py ps) i1) (mxF (px ps) i) (mxF (py ps) i)), (bk7, 26, VC (px ps i1) (py ps i1)), (bk4, 26, VC (px ps 0) (py ps 0)), (bk3, 26, VC (0 : Rat) (0 : Rat)), (bk2, 28, #[.bool false, .string ⟨#[]⟩, .string ⟨#[]⟩, .bool false, .string ⟨#[]⟩, .string ⟨#[]⟩, .bool false, .string ⟨#[]⟩, .string ⟨#[]⟩, .bool false, .string ⟨#[]⟩, .string ⟨#[]⟩])] ws9 := hws.list1 (by repeat (first | exact rS | refine rN (by assumption) ?_))
      clear HS8 hws HPbk5
      go_upto_region 10 with (fail)
      refine wp_seq [4, 16] (by kernel_rfl) (by kernel_rfl) (Reg.fin.put Reg.fin_no _ _) (StR.move (StR.no HS9)) ?_
      iterate 2 (refine Seq.pure rfl rfl (by intro w; go_simp; try rfl) ?_; simp only [Act.put, nA, nB, nC])
      refine Seq.getAt rfl rfl rfl rfl (by repeat (first | exact rS | refine rN (by assumption) ?_)) (n := 3) (cs' := RC (mxF (px ps) i)) (Nat.le_of_ble_eq_true rfl) (by kernel_rfl) rfl ?_
      simp only [Act.put, nA, nB, nC]
      refine Seq.pure rfl rfl (by intro w; go_simp; try rfl) ?_
      simp only [Act.put, nA, nB, nC]
      refine Seq.loadAt rfl rfl rfl rfl (by repeat (first | exact mC | apply mT)) (n := 3) (cs' := RC (px ps i1)) (Nat.le_of_ble_eq_true rfl) (by kernel_rfl) rfl ?_
      simp only [Act.put, nA, nB, nC]
      refine Seq.call rfl rfl rfl rfl (by kernel_rfl) (max_q (k := (1 * k + 0)) HT.out ((mxF_rz (fun q hq => HZP.out.x (lt_of_pts HL.out hq)) _ HIN.out).more (by omega)) ((HZP.out.x (lt_of_pts HL.out HIN1.out)).more (by omega)) HM.out.2.2.1 (by omega)) ?_
      simp only [Act.put, nA, nB, nC]
      iterate 2 (refine Seq.pure rfl rfl (by intro w; go_simp; try rfl) ?_; simp only [Act.put, nA, nB, nC])
      refine Seq.getAt rfl rfl rfl rfl (by repeat (first | exact rS | refine rN (by assumption) ?_)) (n := 3) (cs' := RC (mxF (py ps) i)) (Nat.le_of_ble_eq_true rfl) (by kernel_rfl) rfl ?_
      simp only [Act.put, nA, nB, nC]
      refine Seq.pure rfl rfl (by intro w; go_simp; try rfl) ?_
      simp only [Act.put, nA, nB, nC]
      refine Seq.loadAt rfl rfl rfl rfl (by repeat (first | exact mC | apply mT)) (n := 3) (cs' := RC (py ps i1)) (Nat.le_of_ble_eq_true rfl) (by kernel_rfl) rfl ?_
      simp only [Act.put, nA, nB, nC]
      refine Seq.call rfl rfl rfl rfl (by kernel_rfl) (max_q (k := (1 * k + 0)) HT.out ((mxF_rz (fun q hq => HZP.out.y (lt_of_pts HL.out hq)) _ HIN.out).more (by omega)) ((HZP.out.y (lt_of_pts HL.out HIN1.out)).more (by omega)) HM.out.2.2.2 (by omega)) ?_
      simp only [Act.put, nA, nB, nC]
      refine Seq.pure (v := .agg (VC (mxF (px ps) i1) (mxF (py ps) i1))) rfl rfl (fun w => bld_Vec rfl rfl rfl w) ?_
      simp only [Act.put, nA, nB, nC]
      refine Seq.pure rfl rfl (by intro w; go_simp; try rfl) ?_
      simp only [Act.put, nA, nB, nC]
      refine Seq.storeAt (v := .agg (VC (mxF (px ps) i1) (mxF (py ps) i1))) rfl rfl rfl rfl rfl (by repeat (first | exact rS | refine rN (by assumption) ?_)) (Nat.le_of_ble_eq_true rfl) (by show _ = some 6; kernel_rfl) (VC_one _ _) (cs' := BC (mnF (px ps) i1) (mnF (py ps) i1) (mxF (px ps) i1) (mxF (py ps) i1)) rfl ?_
      simp only [Act.put, nA, nB, nC]
      refine Seq.done fun ws10 hws => ?_
      have HS10 : St w [(bk5, 28, BC (mnF (px ps) i1) (mnF (py ps) i1) (mxF (px ps) i1) (mxF (py ps) i1)), (bk7, 26, VC (px ps i1) (py ps i1)), (bk4, 26, VC (px ps 0) (py ps 0)), (bk3, 26, VC (0 : Rat) (0 : Rat)), (bk2, 28, #[.bool false, .string ⟨#[]⟩, .string ⟨#[]⟩, .bool false, .string ⟨#[]⟩, .string ⟨#[]⟩, .bool false, .string ⟨#[]⟩, .string ⟨#[]⟩, .bool false, .string ⟨#[]⟩, .string ⟨#[]⟩])] ws10 := hws.list1 (by repeat (first | exact rS | refine rN (by assumption) ?_))
      clear HS9 hws
      go_upto_region 11 with (fail)
      refine wp_seq_text [] (StR.no HS10) ?_
      refine Seq.pure (v := .int .i64 (i1 : Int)) rfl rfl (by intro w; go_simp <;> (first | (rw [HI1.out.1]; done) | exact HI1.out.1 | (simp [HI1.out.1]; done) | (trace_state; done))) ?_
      simp only [Act.put, nA, nB, nC]
      refine Seq.pure rfl rfl (by intro w; go_simp; try rfl) ?_
      simp only [Act.put, nA, nB, nC]
      refine Seq.done fun ws11 hws => ?_
      have HS11 := hws.st
      clear HS10 hws
      go_wp2_with fail
      go_roundg (n1 - i1)
      case measure => rw [HGK.out]; exact HI1.out.2.1
      case rel => exact ⟨i1, rfl, rfl, HI1.out.2.2.1, Lib.hid (HS11.sub (.cons_cons _ (.cons _ (.refl _))))⟩
    · have HE := Lib.hid (show i = ps.length - 1 by rw [HL.out]; omega)
      have HC := Lib.hid (show n1 ≤ i by omega)
      clear hc hin hn1
      go_upto_region 7 with (fail)
      refine wp_seq_text [] (StR.no HR) ?_
      refine Seq.pure (v := .bool false) rfl rfl (by intro w; go_simp <;> (first | (rw [HC.out]; done) | exact HC.out | (simp [HC.out]; done) | (trace_state; done))) ?_
      simp only [Act.put, nA, nB, nC]
      refine Seq.done fun ws7 hws => ?_
      have HS7 := hws.st
      clear HR hws
      go_upto_region 12 with (fail)
      have HPbk2 : St w [(bk2, 28, #[.bool false, .string ⟨#[]⟩, .string ⟨#[]⟩, .bool false, .string ⟨#[]⟩, .string ⟨#[]⟩, .bool false, .string ⟨#[]⟩, .string ⟨#[]⟩, .bool false, .string ⟨#[]⟩, .string ⟨#[]⟩]), (bk5, 28, BC (mnF (px ps) i) (mnF (py ps) i) (mxF (px ps) i) (mxF (py ps) i)), (bk4, 26, VC (px ps 0) (py ps 0)), (bk3, 26, VC (0 : Rat) (0 : Rat))] _ := St.perm HS7 (List.perm_middle (l₁ := ([(bk5, 28, BC (mnF (px ps) i) (mnF (py ps) i) (mxF (px ps) i) (mxF (py ps) i)), (bk4, 26, VC (px ps 0) (py ps 0)), (bk3, 26, VC (0 : Rat) (0 : Rat))] : List Own)))
      refine wp_seq_text [] (StR.move (StR.no HPbk2)) ?_
      refine Seq.load rfl rfl rfl rfl (by repeat (first | exact mC | apply mT)) (n := 12) rfl (by kernel_rfl) ?_
      simp only [Act.put, nA, nB, nC]
      refine Seq.store rfl rfl rfl rfl rfl (by repeat (first | exact rS | refine rN (by assumption) ?_)) (n := 12) rfl rfl (by kernel_rfl) (BC_one _ _ _ _) ?_
      simp only [Act.put, nA, nB, nC]
      refine Seq.done fun ws8 hws => ?_
      have HS8 : St w [(bk2, 28, BC (mnF (px ps) i) (mnF (py ps) i) (mxF (px ps) i) (mxF (py ps) i)), (bk5, 28, BC (mnF (px ps) i) (mnF (py ps) i) (mxF (px ps) i) (mxF (py ps) i)), (bk4, 26, VC (px ps 0) (py ps 0)), (bk3, 26, VC (0 : Rat) (0 : Rat))] ws8 := hws.list1 (by repeat (first | exact rS | refine rN (by assumption) ?_))
      clear HS7 hws HPbk2
      go_wp2_with fail
      exact ret_own rfl rfl rfl HS8 (by repeat (first | exact mC | apply mT)) (n := 12) rfl (by kernel_rfl) ⟨by rw [HE.out], HS8.below⟩
theorem box_G {k n : Nat} {ps : Pts} {z0 z1 z2 z3 : Rat} {W : World} {l : List Own} (hT : Tab W) (hz : Pz k ps) (hl : ps.length = n) (hcv : 3 ≤ n ∧ n ≤ 64 ∧ Cvx ps) (hz0 : mnF (px ps) (n - 1) = z0 ∧ mnF (py ps) (n - 1) = z1 ∧ mxF (px ps) (n - 1) = z2 ∧ mxF (py ps) (n - 1) = z3) (hk : k ≤ 100000000000) (g : Nat) (w : World) (h : St W l w) (hg : Blk w g 26 (PC ps)) :
    Calls Tryz.prog 26 #[.slice (some ⟨g, 0, none⟩) n n] w fun e w' => e = .returned (.agg (BC z0 z1 z2 z3)) ∧ Below w.heap.size w w' := by
  have := box_q hT hz hl hcv hk g w h hg
  rw [hl, hz0.1, hz0.2.1, hz0.2.2.1, hz0.2.2.2] at this
  exact this
end Go.Proofs.YtoejojfjiikogaaGreatDoor
