import Derived.Test.YtmchjmflkaiakaaGreatDoorBo1
/- border.exact (printed by lawvec.py). -/
namespace Go.Proofs.YtmchjmflkaiakaaGreatDoor
open Go.RowKit
set_option linter.unusedVariables false
set_option linter.unusedSimpArgs false
set_option maxHeartbeats 2000000
set_option maxRecDepth 20000
variable {W : World} {l : List Own}
theorem exact_lo {b e0 m0 m e n : Nat} {W : World} {l : List Own} (HT : Hid (Tab W)) (HB : Hid ((b : Int) / 4503599627370496 = (e0 : Int) ∧ IntKind.i64.wrap (e0 : Int) = (e0 : Int) ∧ bits BinOp.and IntKind.u64 (b : Int) 4503599627370495 = (m0 : Int)))
  (HM : Hid (bits BinOp.or IntKind.u64 (m0 : Int) 4503599627370496 = (m : Int) ∧ IntKind.i64.wrap (m : Int) = (m : Int) ∧ (m : Int) ≤ 9223372036854775807)) (he0 : ((e0 : Int) == 0) = false) (he : e0 = e) (hc : decide ((1075 : Int) ≤ (e : Int)) = false) (HN : Hid (IntKind.i64.wrap (1075 - (e : Int)) = (n : Int) ∧ n ≤ 1100))
  (Z_m : Hid (Rz 8 ((m : Int) : Rat))) (Z_n : Hid (Rz 150 ((pw n : Nat) : Rat))) (HX : Hid (((m : Int) : Rat) / ((pw n : Nat) : Rat) = ex b)) :
  Calls Tryz.prog 87 #[.int .u64 (b : Int)] W fun e w' => e = .returned (.agg (RC (ex b))) ∧ Below W.heap.size W w' := by
 subst he
 go_enter Tryz.func87, Tryz.ntmps87
 have HS : St W [] W := St.start
 go_upto_region 0 with fail
 refine rgT [] HS ?_
 refine aL3 ?_
 intro bk2 _ _ hbk2_r
 refine nZ ?_
 refine d1 bk2 fun _ HS1=>?_
 clear HS
 go_upto_region 1 with fail
 refine rgT [] HS1 ?_
 refine pW ?_
 refine pV (.int .u64 (e0 : Int)) (by intro w; go_simp <;> (first | (rw [HB.out.1]; done) | (simp [HB.out.1]; done) | (trace_state; done))) ?_
 refine pV (.int .i64 (e0 : Int)) (by intro w; go_simp <;> (first | (rw [HB.out.2.1]; done) | (simp [HB.out.2.1]; done) | (trace_state; done))) ?_
 refine pW ?_
 refine pV (.int .u64 (m0 : Int)) (by intro w; go_simp <;> (first | (rw [HB.out.2.2]; done) | (simp [HB.out.2.2]; done) | (trace_state; done))) ?_
 iterate 2 refine pW ?_
 refine dS fun _ HS2=>?_
 clear HS1
 go_upto_region 2 with fail
 refine rgT [] HS2 ?_
 iterate 2 refine pW ?_
 refine dS fun _ HS3=>?_
 clear HS2
 go_upto_region 4 with fail
 refine rgT [] HS3 ?_
 refine pW ?_
 refine pV (.int .u64 (m : Int)) (by intro w; go_simp <;> (first | (rw [HM.out.1]; done) | (simp [HM.out.1]; done) | (trace_state; done))) ?_
 refine pW ?_
 refine dS fun _ HS4=>?_
 clear HS3
 go_upto_region 5 with fail
 refine rgT [] HS4 ?_
 refine pW ?_
 refine pV (.int .i64 (m : Int)) (by intro w; go_simp <;> (first | (rw [HM.out.2.1]; done) | (simp [HM.out.2.1]; done) | (trace_state; done))) ?_
 refine cX rfl rfl (of_q HT.out (by omega) HM.out.2.2 rfl) ?_
 refine aL3 ?_
 intro bk5 _ _ hbk5_r
 refine nZ ?_
 refine sV (RC_one _) ?_
 refine d1 bk5 fun _ HS5=>?_
 clear HS4
 go_upto_region 6 with fail
 refine rgT [] HS5 ?_
 iterate 2 refine pW ?_
 refine dS fun _ HS6=>?_
 clear HS5
 go_upto_region 8 with fail
 refine wS [0] (Reg.fin.put Reg.fin_no _ _) (StR.move (StR.no HS6)) ?_
 refine gV ?_
 refine pW ?_
 refine pV (.int .i64 (n : Int)) (by intro w; go_simp <;> (first | (rw [HN.out.1]; done) | (simp [HN.out.1]; done) | (trace_state; done))) ?_
 refine cL (power_q HN.out.2) ?_
 refine cX rfl rfl (div_q (k := 150) HT.out (Z_m.out.more (by omega)) (Z_n.out.more (by omega)) (pw_ne n) HX.out (by omega)) ?_
 refine pW ?_
 refine pV (.agg (RC (ex b))) (fun w => rfl) ?_
 refine pV (.int .i64 0) (fun w => rfl) ?_
 refine sV (RC_one _) ?_
 refine d1 bk5 fun _ HS7=>?_
 clear HS6
 go_upto_region 9 with fail
 have HPbk2 := HS7.p1
 refine wp_seq_text [] (StR.move (StR.no HPbk2)) ?_
 refine lV ?_
 refine sV (RC_one _) ?_
 refine d1 bk2 fun _ HS8=>?_
 clear HS7 HPbk2
 go_wp2_with fail
 exact rO HS8 ⟨rfl, HS8.below⟩
theorem exact_hi {b e0 m0 m e n : Nat} {W : World} {l : List Own} (HT : Hid (Tab W)) (HB : Hid ((b : Int) / 4503599627370496 = (e0 : Int) ∧ IntKind.i64.wrap (e0 : Int) = (e0 : Int) ∧ bits BinOp.and IntKind.u64 (b : Int) 4503599627370495 = (m0 : Int)))
  (HM : Hid (bits BinOp.or IntKind.u64 (m0 : Int) 4503599627370496 = (m : Int) ∧ IntKind.i64.wrap (m : Int) = (m : Int) ∧ (m : Int) ≤ 9223372036854775807)) (he0 : ((e0 : Int) == 0) = false) (he : e0 = e) (hc : decide ((1075 : Int) ≤ (e : Int)) = true) (HN : Hid (IntKind.i64.wrap ((e : Int) - 1075) = (n : Int) ∧ n ≤ 1100))
  (Z_m : Hid (Rz 8 ((m : Int) : Rat))) (Z_n : Hid (Rz 150 ((pw n : Nat) : Rat))) (HX : Hid (((m : Int) : Rat) * ((pw n : Nat) : Rat) = ex b)) :
  Calls Tryz.prog 87 #[.int .u64 (b : Int)] W fun e w' => e = .returned (.agg (RC (ex b))) ∧ Below W.heap.size W w' := by
 subst he
 go_enter Tryz.func87, Tryz.ntmps87
 have HS : St W [] W := St.start
 go_upto_region 0 with fail
 refine rgT [] HS ?_
 refine aL3 ?_
 intro bk2 _ _ hbk2_r
 refine nZ ?_
 refine d1 bk2 fun _ HS1=>?_
 clear HS
 go_upto_region 1 with fail
 refine rgT [] HS1 ?_
 refine pW ?_
 refine pV (.int .u64 (e0 : Int)) (by intro w; go_simp <;> (first | (rw [HB.out.1]; done) | (simp [HB.out.1]; done) | (trace_state; done))) ?_
 refine pV (.int .i64 (e0 : Int)) (by intro w; go_simp <;> (first | (rw [HB.out.2.1]; done) | (simp [HB.out.2.1]; done) | (trace_state; done))) ?_
 refine pW ?_
 refine pV (.int .u64 (m0 : Int)) (by intro w; go_simp <;> (first | (rw [HB.out.2.2]; done) | (simp [HB.out.2.2]; done) | (trace_state; done))) ?_
 iterate 2 refine pW ?_
 refine dS fun _ HS2=>?_
 clear HS1
 go_upto_region 2 with fail
 refine rgT [] HS2 ?_
 iterate 2 refine pW ?_
 refine dS fun _ HS3=>?_
 clear HS2
 go_upto_region 4 with fail
 refine rgT [] HS3 ?_
 refine pW ?_
 refine pV (.int .u64 (m : Int)) (by intro w; go_simp <;> (first | (rw [HM.out.1]; done) | (simp [HM.out.1]; done) | (trace_state; done))) ?_
 refine pW ?_
 refine dS fun _ HS4=>?_
 clear HS3
 go_upto_region 5 with fail
 refine rgT [] HS4 ?_
 refine pW ?_
 refine pV (.int .i64 (m : Int)) (by intro w; go_simp <;> (first | (rw [HM.out.2.1]; done) | (simp [HM.out.2.1]; done) | (trace_state; done))) ?_
 refine cX rfl rfl (of_q HT.out (by omega) HM.out.2.2 rfl) ?_
 refine aL3 ?_
 intro bk5 _ _ hbk5_r
 refine nZ ?_
 refine sV (RC_one _) ?_
 refine d1 bk5 fun _ HS5=>?_
 clear HS4
 go_upto_region 6 with fail
 refine rgT [] HS5 ?_
 iterate 2 refine pW ?_
 refine dS fun _ HS6=>?_
 clear HS5
 go_upto_region 7 with fail
 have HPbk2 := HS6.p1
 refine wS [] (Reg.fin.put Reg.fin_no _ _) (StR.move (StR.no HPbk2)) ?_
 refine lV ?_
 refine pW ?_
 refine pV (.int .i64 (n : Int)) (by intro w; go_simp <;> (first | (rw [HN.out.1]; done) | (simp [HN.out.1]; done) | (trace_state; done))) ?_
 refine cL (power_q HN.out.2) ?_
 refine cX rfl rfl (mul_q (k := 150) HT.out (Z_m.out.more (by omega)) (Z_n.out.more (by omega)) HX.out (by omega)) ?_
 refine sV (RC_one _) ?_
 refine d1 bk2 fun _ HS7=>?_
 clear HS6 HPbk2
 go_wp2_with fail
 exact rO HS7 ⟨rfl, HS7.below⟩
theorem exact_sub {b e0 m0 m e n : Nat} {W : World} {l : List Own} (HT : Hid (Tab W)) (HB : Hid ((b : Int) / 4503599627370496 = (e0 : Int) ∧ IntKind.i64.wrap (e0 : Int) = (e0 : Int) ∧ bits BinOp.and IntKind.u64 (b : Int) 4503599627370495 = (m0 : Int)))
  (HM : Hid (m0 = m ∧ IntKind.i64.wrap (m : Int) = (m : Int) ∧ (m : Int) ≤ 9223372036854775807)) (he0 : ((e0 : Int) == 0) = true) (he : e = 1) (hc : decide ((1075 : Int) ≤ (e : Int)) = false) (HN : Hid (IntKind.i64.wrap (1074) = (n : Int) ∧ n ≤ 1100))
  (Z_m : Hid (Rz 8 ((m : Int) : Rat))) (Z_n : Hid (Rz 150 ((pw n : Nat) : Rat))) (HX : Hid (((m : Int) : Rat) / ((pw n : Nat) : Rat) = ex b)) :
  Calls Tryz.prog 87 #[.int .u64 (b : Int)] W fun e w' => e = .returned (.agg (RC (ex b))) ∧ Below W.heap.size W w' := by
 obtain rfl : m = m0 := HM.out.1.symm
 subst he
 go_enter Tryz.func87, Tryz.ntmps87
 have HS : St W [] W := St.start
 go_upto_region 0 with fail
 refine rgT [] HS ?_
 refine aL3 ?_
 intro bk2 _ _ hbk2_r
 refine nZ ?_
 refine d1 bk2 fun _ HS1=>?_
 clear HS
 go_upto_region 1 with fail
 refine rgT [] HS1 ?_
 refine pW ?_
 refine pV (.int .u64 (e0 : Int)) (by intro w; go_simp <;> (first | (rw [HB.out.1]; done) | (simp [HB.out.1]; done) | (trace_state; done))) ?_
 refine pV (.int .i64 (e0 : Int)) (by intro w; go_simp <;> (first | (rw [HB.out.2.1]; done) | (simp [HB.out.2.1]; done) | (trace_state; done))) ?_
 refine pW ?_
 refine pV (.int .u64 (m : Int)) (by intro w; go_simp <;> (first | (rw [HB.out.2.2]; done) | (simp [HB.out.2.2]; done) | (trace_state; done))) ?_
 iterate 2 refine pW ?_
 refine dS fun _ HS2=>?_
 clear HS1
 go_upto_region 2 with fail
 refine rgT [] HS2 ?_
 iterate 2 refine pW ?_
 refine dS fun _ HS3=>?_
 clear HS2
 go_upto_region 3 with fail
 refine rgT [] HS3 ?_
 refine pW ?_
 refine dS fun _ HS4=>?_
 clear HS3
 go_upto_region 5 with fail
 refine rgT [] HS4 ?_
 refine pW ?_
 refine pV (.int .i64 (m : Int)) (by intro w; go_simp <;> (first | (rw [HM.out.2.1]; done) | (simp [HM.out.2.1]; done) | (trace_state; done))) ?_
 refine cX rfl rfl (of_q HT.out (by omega) HM.out.2.2 rfl) ?_
 refine aL3 ?_
 intro bk5 _ _ hbk5_r
 refine nZ ?_
 refine sV (RC_one _) ?_
 refine d1 bk5 fun _ HS5=>?_
 clear HS4
 go_upto_region 6 with fail
 refine rgT [] HS5 ?_
 iterate 2 refine pW ?_
 refine dS fun _ HS6=>?_
 clear HS5
 go_upto_region 8 with fail
 refine wS [0] (Reg.fin.put Reg.fin_no _ _) (StR.move (StR.no HS6)) ?_
 refine gV ?_
 refine pW ?_
 refine pV (.int .i64 (n : Int)) (by intro w; go_simp <;> (first | (rw [HN.out.1]; done) | (simp [HN.out.1]; done) | (trace_state; done))) ?_
 refine cL (power_q HN.out.2) ?_
 refine cX rfl rfl (div_q (k := 150) HT.out (Z_m.out.more (by omega)) (Z_n.out.more (by omega)) (pw_ne n) HX.out (by omega)) ?_
 refine pW ?_
 refine pV (.agg (RC (ex b))) (fun w => rfl) ?_
 refine pV (.int .i64 0) (fun w => rfl) ?_
 refine sV (RC_one _) ?_
 refine d1 bk5 fun _ HS7=>?_
 clear HS6
 go_upto_region 9 with fail
 have HPbk2 := HS7.p1
 refine wp_seq_text [] (StR.move (StR.no HPbk2)) ?_
 refine lV ?_
 refine sV (RC_one _) ?_
 refine d1 bk2 fun _ HS8=>?_
 clear HS7 HPbk2
 go_wp2_with fail
 exact rO HS8 ⟨rfl, HS8.below⟩
end Go.Proofs.YtmchjmflkaiakaaGreatDoor
