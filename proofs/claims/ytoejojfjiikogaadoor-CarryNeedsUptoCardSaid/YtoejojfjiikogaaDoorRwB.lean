/- Rational functions at numbers that came in: Min, Max, Mul. -/
import Derived.Test.YtoejojfjiikogaaDoorRwA

namespace Go.Proofs.YtoejojfjiikogaaDoor
open Go.RowKit
set_option linter.unusedVariables false
set_option linter.unusedSimpArgs false

section
variable {W : World} {l : List Own} {k : Nat} {x y : Rat} {g1 g2 : Bool} {t1 t2 : RT}
set_option maxHeartbeats 4000000 in
set_option maxRecDepth 20000 in
theorem min_w {z : Rat} (hT : Tab W) (h1 : RawT k x g1 t1) (h2 : RawT k y g2 t2) (hz : minQ x y = z) (hk : k ≤ 4398046511104) (w : World) (h : St W l w) :
    Calls Tryd.prog 110 #[.agg t1.c, .agg t2.c] w fun e w' => e = .returned (.agg (RC z)) ∧ Below w.heap.size w w' := by
  subst hz
  have HT := Lib.hid (tabS hT h); clear hT h
  have H1 := Lib.hid h1; clear h1
  have H2 := Lib.hid h2; clear h2
  obtain ⟨cz, hcz⟩ : ∃ cz, cmpQ x y = cz := ⟨_, rfl⟩
  have hcl : -1 ≤ cz ∧ cz ≤ 1 := by rw [← hcz]; unfold cmpQ; split <;> (try split) <;> omega
  obtain ⟨l1, l2⟩ := hcl
  have HCZ := Lib.hid hcz; clear hcz
  unfold RT.c
  by_cases hc : cz ≤ 0
  · have HQ := Lib.hid (show x = minQ x y from by unfold minQ; rw [HCZ.out, if_pos hc])
    go_enter Tryd.func110, Tryd.ntmps110
    have HS : St w [] w := St.start
    go_upto_region 0 with (fail)
    refine wp_seq_text [] (StR.no HS) ?_
    refine Seq.box rfl rfl rfl (v := .agg (#[.bool t1.s, .string t1.a, .string t1.d])) (cs := #[.bool t1.s, .string t1.a, .string t1.d]) rfl rfl ?_
    intro bk2 _ _ hbk2_r
    simp only [Act.put, nA, nB, nC]
    refine Seq.box rfl rfl rfl (v := .agg (#[.bool t2.s, .string t2.a, .string t2.d])) (cs := #[.bool t2.s, .string t2.a, .string t2.d]) rfl rfl ?_
    intro bk3 _ _ hbk3_r
    obtain ⟨ne_bk3_bk2, hbk3_r⟩ := Reg.ne_of_put hbk3_r
    have ne_bk2_bk3 := Ne.symm ne_bk3_bk2
    simp only [Act.put, nA, nB, nC]
    refine Seq.alloc rfl rfl rfl (z := .agg (#[.bool false, .string ⟨#[]⟩, .string ⟨#[]⟩])) (by kernel_rfl) rfl ?_
    intro bk4 _ _ hbk4_r
    obtain ⟨ne_bk4_bk3, hbk4_r⟩ := Reg.ne_of_put hbk4_r
    have ne_bk3_bk4 := Ne.symm ne_bk4_bk3
    obtain ⟨ne_bk4_bk2, hbk4_r⟩ := Reg.ne_of_put hbk4_r
    have ne_bk2_bk4 := Ne.symm ne_bk4_bk2
    simp only [Act.put, nA, nB, nC]
    refine Seq.done fun ws1 hws => ?_
    have HS1 : St w [(bk2, 23, #[.bool t1.s, .string t1.a, .string t1.d]), (bk3, 23, #[.bool t2.s, .string t2.a, .string t2.d]), (bk4, 23, #[.bool false, .string ⟨#[]⟩, .string ⟨#[]⟩])] ws1 := hws.list3 (by repeat (first | exact rS | refine rN (by assumption) ?_)) (by repeat (first | exact rS | refine rN (by assumption) ?_)) (by repeat (first | exact rS | refine rN (by assumption) ?_)) (by assumption) (by assumption) (by assumption)
    clear HS hws
    go_upto_region 1 with (fail)
    refine wp_seq_text [] (StR.no HS1) ?_
    refine Seq.load rfl rfl rfl rfl (by repeat (first | exact mC | apply mT)) (n := 3) rfl (by kernel_rfl) ?_
    simp only [Act.put, nA, nB, nC]
    refine Seq.load rfl rfl rfl rfl (by repeat (first | exact mC | apply mT)) (n := 3) rfl (by kernel_rfl) ?_
    simp only [Act.put, nA, nB, nC]
    refine Seq.call rfl rfl rfl rfl (by kernel_rfl) (cmp_w HT.out H1.out H2.out HCZ.out hk) ?_
    simp only [Act.put, nA, nB, nC]
    refine Seq.pure rfl rfl (by intro w; go_simp; try rfl) ?_
    simp only [Act.put, nA, nB, nC]
    refine Seq.done fun ws2 hws => ?_
    have HS2 := hws.st
    clear HS1 hws
    go_upto_region 2 with (fail)
    have HPbk4 : St w [(bk4, 23, #[.bool false, .string ⟨#[]⟩, .string ⟨#[]⟩]), (bk2, 23, #[.bool t1.s, .string t1.a, .string t1.d]), (bk3, 23, #[.bool t2.s, .string t2.a, .string t2.d])] _ := St.perm HS2 (List.perm_middle (l₁ := ([(bk2, 23, #[.bool t1.s, .string t1.a, .string t1.d]), (bk3, 23, #[.bool t2.s, .string t2.a, .string t2.d])] : List Own)))
    refine wp_seq_text [] (StR.move (StR.no HPbk4)) ?_
    refine Seq.load rfl rfl rfl rfl (by repeat (first | exact mC | apply mT)) (n := 3) rfl (by kernel_rfl) ?_
    simp only [Act.put, nA, nB, nC]
    refine Seq.call rfl rfl rfl rfl (by kernel_rfl) (fit_w HT.out H1.out hk) ?_
    simp only [Act.put, nA, nB, nC]
    refine Seq.store rfl rfl rfl rfl rfl (by repeat (first | exact rS | refine rN (by assumption) ?_)) (n := 3) rfl rfl (by kernel_rfl) (RC_one _) ?_
    simp only [Act.put, nA, nB, nC]
    refine Seq.done fun ws3 hws => ?_
    have HS3 : St w [(bk4, 23, RC x), (bk2, 23, #[.bool t1.s, .string t1.a, .string t1.d]), (bk3, 23, #[.bool t2.s, .string t2.a, .string t2.d])] ws3 := hws.list1 (by repeat (first | exact rS | refine rN (by assumption) ?_))
    clear HS2 hws HPbk4
    go_wp2_with fail
    exact ret_own rfl rfl rfl HS3 (by repeat (first | exact mC | apply mT)) (n := 3) rfl (by kernel_rfl) ⟨congrArg (fun c => Ending.returned (.agg (RC c))) HQ.out, HS3.below⟩
  · have HQ := Lib.hid (show y = minQ x y from by unfold minQ; rw [HCZ.out, if_neg hc])
    go_enter Tryd.func110, Tryd.ntmps110
    have HS : St w [] w := St.start
    go_upto_region 0 with (fail)
    refine wp_seq_text [] (StR.no HS) ?_
    refine Seq.box rfl rfl rfl (v := .agg (#[.bool t1.s, .string t1.a, .string t1.d])) (cs := #[.bool t1.s, .string t1.a, .string t1.d]) rfl rfl ?_
    intro bk2 _ _ hbk2_r
    simp only [Act.put, nA, nB, nC]
    refine Seq.box rfl rfl rfl (v := .agg (#[.bool t2.s, .string t2.a, .string t2.d])) (cs := #[.bool t2.s, .string t2.a, .string t2.d]) rfl rfl ?_
    intro bk3 _ _ hbk3_r
    obtain ⟨ne_bk3_bk2, hbk3_r⟩ := Reg.ne_of_put hbk3_r
    have ne_bk2_bk3 := Ne.symm ne_bk3_bk2
    simp only [Act.put, nA, nB, nC]
    refine Seq.alloc rfl rfl rfl (z := .agg (#[.bool false, .string ⟨#[]⟩, .string ⟨#[]⟩])) (by kernel_rfl) rfl ?_
    intro bk4 _ _ hbk4_r
    obtain ⟨ne_bk4_bk3, hbk4_r⟩ := Reg.ne_of_put hbk4_r
    have ne_bk3_bk4 := Ne.symm ne_bk4_bk3
    obtain ⟨ne_bk4_bk2, hbk4_r⟩ := Reg.ne_of_put hbk4_r
    have ne_bk2_bk4 := Ne.symm ne_bk4_bk2
    simp only [Act.put, nA, nB, nC]
    refine Seq.done fun ws1 hws => ?_
    have HS1 : St w [(bk2, 23, #[.bool t1.s, .string t1.a, .string t1.d]), (bk3, 23, #[.bool t2.s, .string t2.a, .string t2.d]), (bk4, 23, #[.bool false, .string ⟨#[]⟩, .string ⟨#[]⟩])] ws1 := hws.list3 (by repeat (first | exact rS | refine rN (by assumption) ?_)) (by repeat (first | exact rS | refine rN (by assumption) ?_)) (by repeat (first | exact rS | refine rN (by assumption) ?_)) (by assumption) (by assumption) (by assumption)
    clear HS hws
    go_upto_region 1 with (fail)
    refine wp_seq_text [] (StR.no HS1) ?_
    refine Seq.load rfl rfl rfl rfl (by repeat (first | exact mC | apply mT)) (n := 3) rfl (by kernel_rfl) ?_
    simp only [Act.put, nA, nB, nC]
    refine Seq.load rfl rfl rfl rfl (by repeat (first | exact mC | apply mT)) (n := 3) rfl (by kernel_rfl) ?_
    simp only [Act.put, nA, nB, nC]
    refine Seq.call rfl rfl rfl rfl (by kernel_rfl) (cmp_w HT.out H1.out H2.out HCZ.out hk) ?_
    simp only [Act.put, nA, nB, nC]
    refine Seq.pure rfl rfl (by intro w; go_simp; try rfl) ?_
    simp only [Act.put, nA, nB, nC]
    refine Seq.done fun ws2 hws => ?_
    have HS2 := hws.st
    clear HS1 hws
    go_upto_region 3 with (fail)
    have HPbk4 : St w [(bk4, 23, #[.bool false, .string ⟨#[]⟩, .string ⟨#[]⟩]), (bk2, 23, #[.bool t1.s, .string t1.a, .string t1.d]), (bk3, 23, #[.bool t2.s, .string t2.a, .string t2.d])] _ := St.perm HS2 (List.perm_middle (l₁ := ([(bk2, 23, #[.bool t1.s, .string t1.a, .string t1.d]), (bk3, 23, #[.bool t2.s, .string t2.a, .string t2.d])] : List Own)))
    refine wp_seq_text [] (StR.move (StR.no HPbk4)) ?_
    refine Seq.load rfl rfl rfl rfl (by repeat (first | exact mC | apply mT)) (n := 3) rfl (by kernel_rfl) ?_
    simp only [Act.put, nA, nB, nC]
    refine Seq.call rfl rfl rfl rfl (by kernel_rfl) (fit_w HT.out H2.out hk) ?_
    simp only [Act.put, nA, nB, nC]
    refine Seq.store rfl rfl rfl rfl rfl (by repeat (first | exact rS | refine rN (by assumption) ?_)) (n := 3) rfl rfl (by kernel_rfl) (RC_one _) ?_
    simp only [Act.put, nA, nB, nC]
    refine Seq.done fun ws3 hws => ?_
    have HS3 : St w [(bk4, 23, RC y), (bk2, 23, #[.bool t1.s, .string t1.a, .string t1.d]), (bk3, 23, #[.bool t2.s, .string t2.a, .string t2.d])] ws3 := hws.list1 (by repeat (first | exact rS | refine rN (by assumption) ?_))
    clear HS2 hws HPbk4
    go_wp2_with fail
    exact ret_own rfl rfl rfl HS3 (by repeat (first | exact mC | apply mT)) (n := 3) rfl (by kernel_rfl) ⟨congrArg (fun c => Ending.returned (.agg (RC c))) HQ.out, HS3.below⟩
end

section
variable {W : World} {l : List Own} {k : Nat} {x y : Rat} {g1 g2 : Bool} {t1 t2 : RT}
set_option maxHeartbeats 4000000 in
set_option maxRecDepth 20000 in
theorem max_w {z : Rat} (hT : Tab W) (h1 : RawT k x g1 t1) (h2 : RawT k y g2 t2) (hz : maxQ x y = z) (hk : k ≤ 4398046511104) (w : World) (h : St W l w) :
    Calls Tryd.prog 38 #[.agg t1.c, .agg t2.c] w fun e w' => e = .returned (.agg (RC z)) ∧ Below w.heap.size w w' := by
  subst hz
  have HT := Lib.hid (tabS hT h); clear hT h
  have H1 := Lib.hid h1; clear h1
  have H2 := Lib.hid h2; clear h2
  obtain ⟨cz, hcz⟩ : ∃ cz, cmpQ x y = cz := ⟨_, rfl⟩
  have hcl : -1 ≤ cz ∧ cz ≤ 1 := by rw [← hcz]; unfold cmpQ; split <;> (try split) <;> omega
  obtain ⟨l1, l2⟩ := hcl
  have HCZ := Lib.hid hcz; clear hcz
  unfold RT.c
  by_cases hc : 0 ≤ cz
  · have HQ := Lib.hid (show x = maxQ x y from by unfold maxQ; rw [HCZ.out, if_pos hc])
    go_enter Tryd.func38, Tryd.ntmps38
    have HS : St w [] w := St.start
    go_upto_region 0 with (fail)
    refine wp_seq_text [] (StR.no HS) ?_
    refine Seq.box rfl rfl rfl (v := .agg (#[.bool t1.s, .string t1.a, .string t1.d])) (cs := #[.bool t1.s, .string t1.a, .string t1.d]) rfl rfl ?_
    intro bk2 _ _ hbk2_r
    simp only [Act.put, nA, nB, nC]
    refine Seq.box rfl rfl rfl (v := .agg (#[.bool t2.s, .string t2.a, .string t2.d])) (cs := #[.bool t2.s, .string t2.a, .string t2.d]) rfl rfl ?_
    intro bk3 _ _ hbk3_r
    obtain ⟨ne_bk3_bk2, hbk3_r⟩ := Reg.ne_of_put hbk3_r
    have ne_bk2_bk3 := Ne.symm ne_bk3_bk2
    simp only [Act.put, nA, nB, nC]
    refine Seq.alloc rfl rfl rfl (z := .agg (#[.bool false, .string ⟨#[]⟩, .string ⟨#[]⟩])) (by kernel_rfl) rfl ?_
    intro bk4 _ _ hbk4_r
    obtain ⟨ne_bk4_bk3, hbk4_r⟩ := Reg.ne_of_put hbk4_r
    have ne_bk3_bk4 := Ne.symm ne_bk4_bk3
    obtain ⟨ne_bk4_bk2, hbk4_r⟩ := Reg.ne_of_put hbk4_r
    have ne_bk2_bk4 := Ne.symm ne_bk4_bk2
    simp only [Act.put, nA, nB, nC]
    refine Seq.done fun ws1 hws => ?_
    have HS1 : St w [(bk2, 23, #[.bool t1.s, .string t1.a, .string t1.d]), (bk3, 23, #[.bool t2.s, .string t2.a, .string t2.d]), (bk4, 23, #[.bool false, .string ⟨#[]⟩, .string ⟨#[]⟩])] ws1 := hws.list3 (by repeat (first | exact rS | refine rN (by assumption) ?_)) (by repeat (first | exact rS | refine rN (by assumption) ?_)) (by repeat (first | exact rS | refine rN (by assumption) ?_)) (by assumption) (by assumption) (by assumption)
    clear HS hws
    go_upto_region 1 with (fail)
    refine wp_seq_text [] (StR.no HS1) ?_
    refine Seq.load rfl rfl rfl rfl (by repeat (first | exact mC | apply mT)) (n := 3) rfl (by kernel_rfl) ?_
    simp only [Act.put, nA, nB, nC]
    refine Seq.load rfl rfl rfl rfl (by repeat (first | exact mC | apply mT)) (n := 3) rfl (by kernel_rfl) ?_
    simp only [Act.put, nA, nB, nC]
    refine Seq.call rfl rfl rfl rfl (by kernel_rfl) (cmp_w HT.out H1.out H2.out HCZ.out hk) ?_
    simp only [Act.put, nA, nB, nC]
    refine Seq.pure rfl rfl (by intro w; go_simp; try rfl) ?_
    simp only [Act.put, nA, nB, nC]
    refine Seq.done fun ws2 hws => ?_
    have HS2 := hws.st
    clear HS1 hws
    go_upto_region 2 with (fail)
    have HPbk4 : St w [(bk4, 23, #[.bool false, .string ⟨#[]⟩, .string ⟨#[]⟩]), (bk2, 23, #[.bool t1.s, .string t1.a, .string t1.d]), (bk3, 23, #[.bool t2.s, .string t2.a, .string t2.d])] _ := St.perm HS2 (List.perm_middle (l₁ := ([(bk2, 23, #[.bool t1.s, .string t1.a, .string t1.d]), (bk3, 23, #[.bool t2.s, .string t2.a, .string t2.d])] : List Own)))
    refine wp_seq_text [] (StR.move (StR.no HPbk4)) ?_
    refine Seq.load rfl rfl rfl rfl (by repeat (first | exact mC | apply mT)) (n := 3) rfl (by kernel_rfl) ?_
    simp only [Act.put, nA, nB, nC]
    refine Seq.call rfl rfl rfl rfl (by kernel_rfl) (fit_w HT.out H1.out hk) ?_
    simp only [Act.put, nA, nB, nC]
    refine Seq.store rfl rfl rfl rfl rfl (by repeat (first | exact rS | refine rN (by assumption) ?_)) (n := 3) rfl rfl (by kernel_rfl) (RC_one _) ?_
    simp only [Act.put, nA, nB, nC]
    refine Seq.done fun ws3 hws => ?_
    have HS3 : St w [(bk4, 23, RC x), (bk2, 23, #[.bool t1.s, .string t1.a, .string t1.d]), (bk3, 23, #[.bool t2.s, .string t2.a, .string t2.d])] ws3 := hws.list1 (by repeat (first | exact rS | refine rN (by assumption) ?_))
    clear HS2 hws HPbk4
    go_wp2_with fail
    exact ret_own rfl rfl rfl HS3 (by repeat (first | exact mC | apply mT)) (n := 3) rfl (by kernel_rfl) ⟨congrArg (fun c => Ending.returned (.agg (RC c))) HQ.out, HS3.below⟩
  · have HQ := Lib.hid (show y = maxQ x y from by unfold maxQ; rw [HCZ.out, if_neg hc])
    go_enter Tryd.func38, Tryd.ntmps38
    have HS : St w [] w := St.start
    go_upto_region 0 with (fail)
    refine wp_seq_text [] (StR.no HS) ?_
    refine Seq.box rfl rfl rfl (v := .agg (#[.bool t1.s, .string t1.a, .string t1.d])) (cs := #[.bool t1.s, .string t1.a, .string t1.d]) rfl rfl ?_
    intro bk2 _ _ hbk2_r
    simp only [Act.put, nA, nB, nC]
    refine Seq.box rfl rfl rfl (v := .agg (#[.bool t2.s, .string t2.a, .string t2.d])) (cs := #[.bool t2.s, .string t2.a, .string t2.d]) rfl rfl ?_
    intro bk3 _ _ hbk3_r
    obtain ⟨ne_bk3_bk2, hbk3_r⟩ := Reg.ne_of_put hbk3_r
    have ne_bk2_bk3 := Ne.symm ne_bk3_bk2
    simp only [Act.put, nA, nB, nC]
    refine Seq.alloc rfl rfl rfl (z := .agg (#[.bool false, .string ⟨#[]⟩, .string ⟨#[]⟩])) (by kernel_rfl) rfl ?_
    intro bk4 _ _ hbk4_r
    obtain ⟨ne_bk4_bk3, hbk4_r⟩ := Reg.ne_of_put hbk4_r
    have ne_bk3_bk4 := Ne.symm ne_bk4_bk3
    obtain ⟨ne_bk4_bk2, hbk4_r⟩ := Reg.ne_of_put hbk4_r
    have ne_bk2_bk4 := Ne.symm ne_bk4_bk2
    simp only [Act.put, nA, nB, nC]
    refine Seq.done fun ws1 hws => ?_
    have HS1 : St w [(bk2, 23, #[.bool t1.s, .string t1.a, .string t1.d]), (bk3, 23, #[.bool t2.s, .string t2.a, .string t2.d]), (bk4, 23, #[.bool false, .string ⟨#[]⟩, .string ⟨#[]⟩])] ws1 := hws.list3 (by repeat (first | exact rS | refine rN (by assumption) ?_)) (by repeat (first | exact rS | refine rN (by assumption) ?_)) (by repeat (first | exact rS | refine rN (by assumption) ?_)) (by assumption) (by assumption) (by assumption)
    clear HS hws
    go_upto_region 1 with (fail)
    refine wp_seq_text [] (StR.no HS1) ?_
    refine Seq.load rfl rfl rfl rfl (by repeat (first | exact mC | apply mT)) (n := 3) rfl (by kernel_rfl) ?_
    simp only [Act.put, nA, nB, nC]
    refine Seq.load rfl rfl rfl rfl (by repeat (first | exact mC | apply mT)) (n := 3) rfl (by kernel_rfl) ?_
    simp only [Act.put, nA, nB, nC]
    refine Seq.call rfl rfl rfl rfl (by kernel_rfl) (cmp_w HT.out H1.out H2.out HCZ.out hk) ?_
    simp only [Act.put, nA, nB, nC]
    refine Seq.pure rfl rfl (by intro w; go_simp; try rfl) ?_
    simp only [Act.put, nA, nB, nC]
    refine Seq.done fun ws2 hws => ?_
    have HS2 := hws.st
    clear HS1 hws
    go_upto_region 3 with (fail)
    have HPbk4 : St w [(bk4, 23, #[.bool false, .string ⟨#[]⟩, .string ⟨#[]⟩]), (bk2, 23, #[.bool t1.s, .string t1.a, .string t1.d]), (bk3, 23, #[.bool t2.s, .string t2.a, .string t2.d])] _ := St.perm HS2 (List.perm_middle (l₁ := ([(bk2, 23, #[.bool t1.s, .string t1.a, .string t1.d]), (bk3, 23, #[.bool t2.s, .string t2.a, .string t2.d])] : List Own)))
    refine wp_seq_text [] (StR.move (StR.no HPbk4)) ?_
    refine Seq.load rfl rfl rfl rfl (by repeat (first | exact mC | apply mT)) (n := 3) rfl (by kernel_rfl) ?_
    simp only [Act.put, nA, nB, nC]
    refine Seq.call rfl rfl rfl rfl (by kernel_rfl) (fit_w HT.out H2.out hk) ?_
    simp only [Act.put, nA, nB, nC]
    refine Seq.store rfl rfl rfl rfl rfl (by repeat (first | exact rS | refine rN (by assumption) ?_)) (n := 3) rfl rfl (by kernel_rfl) (RC_one _) ?_
    simp only [Act.put, nA, nB, nC]
    refine Seq.done fun ws3 hws => ?_
    have HS3 : St w [(bk4, 23, RC y), (bk2, 23, #[.bool t1.s, .string t1.a, .string t1.d]), (bk3, 23, #[.bool t2.s, .string t2.a, .string t2.d])] ws3 := hws.list1 (by repeat (first | exact rS | refine rN (by assumption) ?_))
    clear HS2 hws HPbk4
    go_wp2_with fail
    exact ret_own rfl rfl rfl HS3 (by repeat (first | exact mC | apply mT)) (n := 3) rfl (by kernel_rfl) ⟨congrArg (fun c => Ending.returned (.agg (RC c))) HQ.out, HS3.below⟩
end

section
variable {W : World} {l : List Own} {k : Nat} {x y : Rat} {g1 g2 : Bool} {t1 t2 : RT}
set_option maxHeartbeats 4000000 in
set_option maxRecDepth 20000 in
theorem mul_w {z : Rat} (hT : Tab W) (h1 : RawT k x g1 t1) (h2 : RawT k y g2 t2) (hz : x * y = z) (hk : k ≤ 4398046511104) (w : World) (h : St W l w) :
    Calls Tryd.prog 87 #[.agg t1.c, .agg t2.c] w fun e w' => e = .returned (.agg (RC z)) ∧ Below w.heap.size w w' := by
  subst hz
  have HT := Lib.hid (tabS hT h); clear hT h
  have H1 := Lib.hid h1; clear h1
  have H2 := Lib.hid h2; clear h2
  obtain ⟨s1, a1, d1, r1⟩ := R_parts x
  have R1 := Lib.hid r1; clear r1
  obtain ⟨s2, a2, d2, r2⟩ := R_parts y
  have R2 := Lib.hid r2; clear r2
  obtain ⟨s3, a3, d3, r3⟩ := R_parts (x * y)
  have R3 := Lib.hid r3; clear r3
  unfold RT.c
  go_enter Tryd.func87, Tryd.ntmps87
  have HS : St w [] w := St.start
  go_upto_region 0 with (fail)
  refine wp_seq_text [] (StR.no HS) ?_
  refine Seq.box rfl rfl rfl (v := .agg (#[.bool t1.s, .string t1.a, .string t1.d])) (cs := #[.bool t1.s, .string t1.a, .string t1.d]) rfl rfl ?_
  intro bk2 _ _ hbk2_r
  simp only [Act.put, nA, nB, nC]
  refine Seq.box rfl rfl rfl (v := .agg (#[.bool t2.s, .string t2.a, .string t2.d])) (cs := #[.bool t2.s, .string t2.a, .string t2.d]) rfl rfl ?_
  intro bk3 _ _ hbk3_r
  obtain ⟨ne_bk3_bk2, hbk3_r⟩ := Reg.ne_of_put hbk3_r
  have ne_bk2_bk3 := Ne.symm ne_bk3_bk2
  simp only [Act.put, nA, nB, nC]
  refine Seq.alloc rfl rfl rfl (z := .agg (#[.bool false, .string ⟨#[]⟩, .string ⟨#[]⟩])) (by kernel_rfl) rfl ?_
  intro bk4 _ _ hbk4_r
  obtain ⟨ne_bk4_bk3, hbk4_r⟩ := Reg.ne_of_put hbk4_r
  have ne_bk3_bk4 := Ne.symm ne_bk4_bk3
  obtain ⟨ne_bk4_bk2, hbk4_r⟩ := Reg.ne_of_put hbk4_r
  have ne_bk2_bk4 := Ne.symm ne_bk4_bk2
  simp only [Act.put, nA, nB, nC]
  refine Seq.done fun ws1 hws => ?_
  have HS1 : St w [(bk2, 23, #[.bool t1.s, .string t1.a, .string t1.d]), (bk3, 23, #[.bool t2.s, .string t2.a, .string t2.d]), (bk4, 23, #[.bool false, .string ⟨#[]⟩, .string ⟨#[]⟩])] ws1 := hws.list3 (by repeat (first | exact rS | refine rN (by assumption) ?_)) (by repeat (first | exact rS | refine rN (by assumption) ?_)) (by repeat (first | exact rS | refine rN (by assumption) ?_)) (by assumption) (by assumption) (by assumption)
  clear HS hws
  go_upto_region 1 with (fail)
  have HPbk3 : St w [(bk3, 23, #[.bool t2.s, .string t2.a, .string t2.d]), (bk2, 23, #[.bool t1.s, .string t1.a, .string t1.d]), (bk4, 23, #[.bool false, .string ⟨#[]⟩, .string ⟨#[]⟩])] _ := St.perm HS1 (List.perm_middle (l₁ := ([(bk2, 23, #[.bool t1.s, .string t1.a, .string t1.d])] : List Own)))
  have HPbk2 : St w [(bk2, 23, #[.bool t1.s, .string t1.a, .string t1.d]), (bk3, 23, #[.bool t2.s, .string t2.a, .string t2.d]), (bk4, 23, #[.bool false, .string ⟨#[]⟩, .string ⟨#[]⟩])] _ := St.perm HPbk3 (List.perm_middle (l₁ := ([(bk3, 23, #[.bool t2.s, .string t2.a, .string t2.d])] : List Own)))
  refine wp_seq [0, 4] (by kernel_rfl) (by kernel_rfl) (Reg.fin.put (Reg.fin.put Reg.fin_no _ _) _ _) (StR.move (StR.move (StR.no HPbk2))) ?_
  refine Seq.get rfl rfl rfl rfl (by repeat (first | exact rS | refine rN (by assumption) ?_)) (n := 3) rfl (by kernel_rfl) ?_
  simp only [Act.put, nA, nB, nC]
  refine Seq.call rfl rfl rfl rfl (by kernel_rfl) (fit_c HT.out H1.out R1.out (by omega)) ?_
  simp only [Act.put, nA, nB, nC]
  refine Seq.get rfl rfl rfl rfl (by repeat (first | exact rS | refine rN (by assumption) ?_)) (n := 3) rfl (by kernel_rfl) ?_
  simp only [Act.put, nA, nB, nC]
  refine Seq.call rfl rfl rfl rfl (by kernel_rfl) (fit_c HT.out H2.out R2.out (by omega)) ?_
  simp only [Act.put, nA, nB, nC]
  refine Seq.store rfl rfl rfl rfl rfl (by repeat (first | exact rS | refine rN (by assumption) ?_)) (n := 3) rfl rfl (by kernel_rfl) (by intro u hu; simp at hu; rcases hu with rfl | rfl | rfl <;> rfl) ?_
  simp only [Act.put, nA, nB, nC]
  refine Seq.store rfl rfl rfl rfl rfl (by repeat (first | exact rS | refine rN (by assumption) ?_)) (n := 3) rfl rfl (by kernel_rfl) (by intro u hu; simp at hu; rcases hu with rfl | rfl | rfl <;> rfl) ?_
  simp only [Act.put, nA, nB, nC]
  refine Seq.done fun ws2 hws => ?_
  have HS2 : St w [(bk2, 23, #[.bool s1, .string a1, .string d1]), (bk3, 23, #[.bool s2, .string a2, .string d2]), (bk4, 23, #[.bool false, .string ⟨#[]⟩, .string ⟨#[]⟩])] ws2 := hws.list2 (by repeat (first | exact rS | refine rN (by assumption) ?_)) (by repeat (first | exact rS | refine rN (by assumption) ?_)) (by assumption)
  clear HS1 hws HPbk3 HPbk2
  go_upto_region 2 with (fail)
  have HPbk4 : St w [(bk4, 23, #[.bool false, .string ⟨#[]⟩, .string ⟨#[]⟩]), (bk2, 23, #[.bool s1, .string a1, .string d1]), (bk3, 23, #[.bool s2, .string a2, .string d2])] _ := St.perm HS2 (List.perm_middle (l₁ := ([(bk2, 23, #[.bool s1, .string a1, .string d1]), (bk3, 23, #[.bool s2, .string a2, .string d2])] : List Own)))
  refine wp_seq [] (by kernel_rfl) (by kernel_rfl) (Reg.fin.put Reg.fin_no _ _) (StR.move (StR.no HPbk4)) ?_
  refine Seq.pure rfl rfl (by intro w; go_simp; try rfl) ?_
  simp only [Act.put, nA, nB, nC]
  refine Seq.loadCell rfl rfl rfl rfl (by repeat (first | exact mC | apply mT)) (v := .bool s1) rfl (by kernel_rfl) rfl ?_
  simp only [Act.put, nA, nB, nC]
  refine Seq.pure rfl rfl (by intro w; go_simp; try rfl) ?_
  simp only [Act.put, nA, nB, nC]
  refine Seq.loadCell rfl rfl rfl rfl (by repeat (first | exact mC | apply mT)) (v := .bool s2) rfl (by kernel_rfl) rfl ?_
  simp only [Act.put, nA, nB, nC]
  iterate 2 (refine Seq.pure rfl rfl (by intro w; go_simp; try rfl) ?_; simp only [Act.put, nA, nB, nC])
  refine Seq.loadCell rfl rfl rfl rfl (by repeat (first | exact mC | apply mT)) (v := .string a1) rfl (by kernel_rfl) rfl ?_
  simp only [Act.put, nA, nB, nC]
  refine Seq.pure rfl rfl (by intro w; go_simp; try rfl) ?_
  simp only [Act.put, nA, nB, nC]
  refine Seq.loadCell rfl rfl rfl rfl (by repeat (first | exact mC | apply mT)) (v := .string a2) rfl (by kernel_rfl) rfl ?_
  simp only [Act.put, nA, nB, nC]
  refine Seq.call rfl rfl rfl rfl (by kernel_rfl) (fun w h => mul_O k x y w R1.out R2.out H1.out.rz H2.out.rz (by omega)) ?_
  simp only [Act.put, nA, nB, nC]
  refine Seq.pure rfl rfl (by intro w; go_simp; try rfl) ?_
  simp only [Act.put, nA, nB, nC]
  refine Seq.loadCell rfl rfl rfl rfl (by repeat (first | exact mC | apply mT)) (v := .string d1) rfl (by kernel_rfl) rfl ?_
  simp only [Act.put, nA, nB, nC]
  refine Seq.pure rfl rfl (by intro w; go_simp; try rfl) ?_
  simp only [Act.put, nA, nB, nC]
  refine Seq.loadCell rfl rfl rfl rfl (by repeat (first | exact mC | apply mT)) (v := .string d2) rfl (by kernel_rfl) rfl ?_
  simp only [Act.put, nA, nB, nC]
  refine Seq.call rfl rfl rfl rfl (by kernel_rfl) (fun w h => mul_Od k x y w R1.out R2.out H1.out.rz H2.out.rz (by omega)) ?_
  simp only [Act.put, nA, nB, nC]
  refine Seq.call rfl rfl rfl rfl (by kernel_rfl) (fun w h => made_O k x y w R3.out R1.out R2.out H1.out.rz H2.out.rz (by omega) (tabS HT.out h) rfl) ?_
  simp only [Act.put, nA, nB, nC]
  refine Seq.store rfl rfl rfl rfl rfl (by repeat (first | exact rS | refine rN (by assumption) ?_)) (n := 3) rfl rfl (by kernel_rfl) (by intro u hu; simp at hu; rcases hu with rfl | rfl | rfl <;> rfl) ?_
  simp only [Act.put, nA, nB, nC]
  refine Seq.done fun ws3 hws => ?_
  have HS3 : St w [(bk4, 23, #[.bool s3, .string a3, .string d3]), (bk2, 23, #[.bool s1, .string a1, .string d1]), (bk3, 23, #[.bool s2, .string a2, .string d2])] ws3 := hws.list1 (by repeat (first | exact rS | refine rN (by assumption) ?_))
  clear HS2 hws HPbk4
  go_wp2_with fail
  exact ret_own rfl rfl rfl HS3 (by repeat (first | exact mC | apply mT)) (n := 3) rfl (by kernel_rfl) ⟨congrArg (fun c => Ending.returned (.agg c)) R3.out.rc, HS3.below⟩
end
end Go.Proofs.YtoejojfjiikogaaDoor
