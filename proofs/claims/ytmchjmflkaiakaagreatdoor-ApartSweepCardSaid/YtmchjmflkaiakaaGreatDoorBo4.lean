/- Joined texts: Bo2 Bo3 Bo4 Bo5 BoO. -/
import Derived.Test.YtmchjmflkaiakaaGreatDoorBo1
import Derived.Test.YtmchjmflkaiakaaGreatDoorSp3
import Derived.OwnWalk
/- border.exact (printed by lawvec.py). -/
set_option maxHeartbeats 2000000
set_option maxRecDepth 20000
namespace Go.Proofs.YtmchjmflkaiakaaGreatDoor
open Go.RowKit
set_option linter.unusedVariables false
set_option linter.unusedSimpArgs false
variable {W : World} {l : List Own}
theorem exact_lo {b e0 m0 m e n : Nat} {W : World} {l : List Own} (HT : Hid (Tab W)) (HB : Hid ((b : Int) / 4503599627370496 = (e0 : Int) ∧ IntKind.i64.wrap (e0 : Int) = (e0 : Int) ∧ bits BinOp.and IntKind.u64 (b : Int) 4503599627370495 = (m0 : Int)))
  (HM : Hid (bits BinOp.or IntKind.u64 (m0 : Int) 4503599627370496 = (m : Int) ∧ IntKind.i64.wrap (m : Int) = (m : Int) ∧ (m : Int) ≤ 9223372036854775807)) (he0 : ((e0 : Int) == 0) = false) (he : e0 = e) (hc : decide ((1075 : Int) ≤ (e : Int)) = false) (HN : Hid (IntKind.i64.wrap (1075 - (e : Int)) = (n : Int) ∧ n ≤ 1100))
  (Z_m : Hid (Rz 8 ((m : Int) : Rat))) (Z_n : Hid (Rz 150 ((pw n : Nat) : Rat))) (HX : Hid (((m : Int) : Rat) / ((pw n : Nat) : Rat) = ex b)) :
  Calls Tryz.prog 87 #[.int .u64 (b : Int)] W fun e w' => e = .returned (.agg (RC (ex b))) ∧ Below W.heap.size W w' := by
 subst he
 go_enter Tryz.func87, Tryz.ntmps87
 have HS : St W [] W := St.start
 go_upto_region 0 with fail
 refine rgT [] HS ?_
 refine aL3 ?_
 intro bk2 _ _ y2
 refine nZ ?_
 refine dn1 bk2 fun _ HS1=>?_
 clear HS
 go_upto_region 1 with fail
 refine rgT [] HS1 ?_
 refine pW ?_
 refine pV (.int .u64 (e0 : Int)) (by intro w; go_simp <;> (first | (rw [HB.out.1]; done) | (simp [HB.out.1]; done))) ?_
 refine pV (.int .i64 (e0 : Int)) (by intro w; go_simp <;> (first | (rw [HB.out.2.1]; done) | (simp [HB.out.2.1]; done))) ?_
 refine pW ?_
 refine pV (.int .u64 (m0 : Int)) (by intro w; go_simp <;> (first | (rw [HB.out.2.2]; done) | (simp [HB.out.2.2]; done))) ?_
 iterate 2 refine pW ?_
 refine dnS fun _ HS2=>?_
 clear HS1
 go_upto_region 2 with fail
 refine rgT [] HS2 ?_
 iterate 2 refine pW ?_
 refine dnS fun _ HS3=>?_
 clear HS2
 go_upto_region 4 with fail
 refine rgT [] HS3 ?_
 refine pW ?_
 refine pV (.int .u64 (m : Int)) (by intro w; go_simp <;> (first | (rw [HM.out.1]; done) | (simp [HM.out.1]; done))) ?_
 refine pW ?_
 refine dnS fun _ HS4=>?_
 clear HS3
 go_upto_region 5 with fail
 refine rgT [] HS4 ?_
 refine pW ?_
 refine pV (.int .i64 (m : Int)) (by intro w; go_simp <;> (first | (rw [HM.out.2.1]; done) | (simp [HM.out.2.1]; done))) ?_
 refine cX rfl rfl (of_q HT.out (by omega) HM.out.2.2 rfl) ?_
 refine aL3 ?_
 intro bk5 _ _ y5
 refine nZ ?_
 refine sV (RC_one _) ?_
 refine dn1 bk5 fun _ HS5=>?_
 clear HS4
 go_upto_region 6 with fail
 refine rgT [] HS5 ?_
 iterate 2 refine pW ?_
 refine dnS fun _ HS6=>?_
 clear HS5
 go_upto_region 8 with fail
 refine wS [0] (Reg.fin.put Reg.fin_no _ _) (StR.move (StR.no HS6)) ?_
 refine gV ?_
 refine pW ?_
 refine pV (.int .i64 (n : Int)) (by intro w; go_simp <;> (first | (rw [HN.out.1]; done) | (simp [HN.out.1]; done))) ?_
 refine cL (power_q HN.out.2) ?_
 refine cX rfl rfl (div_q (k := 150) HT.out (zm Z_m) (zm Z_n) (pw_ne n) HX.out (by omega)) ?_
 refine pW ?_
 refine pV (.agg (RC (ex b))) (fun w => rfl) ?_
 refine pV (.int .i64 0) (fun w => rfl) ?_
 refine sV (RC_one _) ?_
 refine dn1 bk5 fun _ HS7=>?_
 clear HS6
 go_upto_region 9 with fail
 have HPbk2 := HS7.p1
 refine wp_seq_text [] (StR.move (StR.no HPbk2)) ?_
 refine lV ?_
 refine sV (RC_one _) ?_
 refine dn1 bk2 fun _ HS8=>?_
 clear HS7 HPbk2
 go_wp2_with fail
 exact rO HS8 ⟨rfl, HS8.below⟩
theorem exact_hi {b e0 m0 m e n : Nat} {W : World} {l : List Own} (HT : Hid (Tab W)) (HB : Hid ((b : Int) / 4503599627370496 = (e0 : Int) ∧ IntKind.i64.wrap (e0 : Int) = (e0 : Int) ∧ bits BinOp.and IntKind.u64 (b : Int) 4503599627370495 = (m0 : Int)))
  (HM : Hid (bits BinOp.or IntKind.u64 (m0 : Int) 4503599627370496 = (m : Int) ∧ IntKind.i64.wrap (m : Int) = (m : Int) ∧ (m : Int) ≤ 9223372036854775807)) (he0 : ((e0 : Int) == 0) = false) (he : e0 = e) (hc : decide ((1075 : Int) ≤ (e : Int)) = true) (HN : Hid (IntKind.i64.wrap ((e : Int) - 1075) = (n : Int) ∧ n ≤ 1100))
  (Z_m : Hid (Rz 8 ((m : Int) : Rat))) (Z_n : Hid (Rz 150 ((pw n : Nat) : Rat))) (HX : Hid (((m : Int) : Rat) * ((pw n : Nat) : Rat) = ex b)) :
  Calls Tryz.prog 87 #[.int .u64 (b : Int)] W fun e w' => e = .returned (.agg (RC (ex b))) ∧ Below W.heap.size W w' := by
 subst he
 go_enter Tryz.func87, Tryz.ntmps87
 have HS : St W [] W := St.start
 go_upto_region 0 with fail
 refine rgT [] HS ?_
 refine aL3 ?_
 intro bk2 _ _ y2
 refine nZ ?_
 refine dn1 bk2 fun _ HS1=>?_
 clear HS
 go_upto_region 1 with fail
 refine rgT [] HS1 ?_
 refine pW ?_
 refine pV (.int .u64 (e0 : Int)) (by intro w; go_simp <;> (first | (rw [HB.out.1]; done) | (simp [HB.out.1]; done))) ?_
 refine pV (.int .i64 (e0 : Int)) (by intro w; go_simp <;> (first | (rw [HB.out.2.1]; done) | (simp [HB.out.2.1]; done))) ?_
 refine pW ?_
 refine pV (.int .u64 (m0 : Int)) (by intro w; go_simp <;> (first | (rw [HB.out.2.2]; done) | (simp [HB.out.2.2]; done))) ?_
 iterate 2 refine pW ?_
 refine dnS fun _ HS2=>?_
 clear HS1
 go_upto_region 2 with fail
 refine rgT [] HS2 ?_
 iterate 2 refine pW ?_
 refine dnS fun _ HS3=>?_
 clear HS2
 go_upto_region 4 with fail
 refine rgT [] HS3 ?_
 refine pW ?_
 refine pV (.int .u64 (m : Int)) (by intro w; go_simp <;> (first | (rw [HM.out.1]; done) | (simp [HM.out.1]; done))) ?_
 refine pW ?_
 refine dnS fun _ HS4=>?_
 clear HS3
 go_upto_region 5 with fail
 refine rgT [] HS4 ?_
 refine pW ?_
 refine pV (.int .i64 (m : Int)) (by intro w; go_simp <;> (first | (rw [HM.out.2.1]; done) | (simp [HM.out.2.1]; done))) ?_
 refine cX rfl rfl (of_q HT.out (by omega) HM.out.2.2 rfl) ?_
 refine aL3 ?_
 intro bk5 _ _ y5
 refine nZ ?_
 refine sV (RC_one _) ?_
 refine dn1 bk5 fun _ HS5=>?_
 clear HS4
 go_upto_region 6 with fail
 refine rgT [] HS5 ?_
 iterate 2 refine pW ?_
 refine dnS fun _ HS6=>?_
 clear HS5
 go_upto_region 7 with fail
 have HPbk2 := HS6.p1
 refine wS [] (Reg.fin.put Reg.fin_no _ _) (StR.move (StR.no HPbk2)) ?_
 refine lV ?_
 refine pW ?_
 refine pV (.int .i64 (n : Int)) (by intro w; go_simp <;> (first | (rw [HN.out.1]; done) | (simp [HN.out.1]; done))) ?_
 refine cL (power_q HN.out.2) ?_
 refine cX rfl rfl (mul_q (k := 150) HT.out (zm Z_m) (zm Z_n) HX.out (by omega)) ?_
 refine sV (RC_one _) ?_
 refine dn1 bk2 fun _ HS7=>?_
 clear HS6 HPbk2
 go_wp2_with fail
 exact rO HS7 ⟨rfl, HS7.below⟩
theorem exact_sub {b e0 m0 m e n : Nat} {W : World} {l : List Own} (HT : Hid (Tab W)) (HB : Hid ((b : Int) / 4503599627370496 = (e0 : Int) ∧ IntKind.i64.wrap (e0 : Int) = (e0 : Int) ∧ bits BinOp.and IntKind.u64 (b : Int) 4503599627370495 = (m0 : Int)))
  (HM : Hid (m0 = m ∧ IntKind.i64.wrap (m : Int) = (m : Int) ∧ (m : Int) ≤ 9223372036854775807)) (he0 : ((e0 : Int) == 0) = true) (he : e = 1) (hc : decide ((1075 : Int) ≤ (e : Int)) = false) (HN : Hid (IntKind.i64.wrap (1074) = (n : Int) ∧ n ≤ 1100))
  (Z_m : Hid (Rz 8 ((m : Int) : Rat))) (Z_n : Hid (Rz 150 ((pw n : Nat) : Rat))) (HX : Hid (((m : Int) : Rat) / ((pw n : Nat) : Rat) = ex b)) :
  Calls Tryz.prog 87 #[.int .u64 (b : Int)] W fun e w' => e = .returned (.agg (RC (ex b))) ∧ Below W.heap.size W w' := by
 obtain rfl : m = m0 := HM.out.1.symm
 subst he
 go_enter Tryz.func87, Tryz.ntmps87
 have HS : St W [] W := St.start
 go_upto_region 0 with fail
 refine rgT [] HS ?_
 refine aL3 ?_
 intro bk2 _ _ y2
 refine nZ ?_
 refine dn1 bk2 fun _ HS1=>?_
 clear HS
 go_upto_region 1 with fail
 refine rgT [] HS1 ?_
 refine pW ?_
 refine pV (.int .u64 (e0 : Int)) (by intro w; go_simp <;> (first | (rw [HB.out.1]; done) | (simp [HB.out.1]; done))) ?_
 refine pV (.int .i64 (e0 : Int)) (by intro w; go_simp <;> (first | (rw [HB.out.2.1]; done) | (simp [HB.out.2.1]; done))) ?_
 refine pW ?_
 refine pV (.int .u64 (m : Int)) (by intro w; go_simp <;> (first | (rw [HB.out.2.2]; done) | (simp [HB.out.2.2]; done))) ?_
 iterate 2 refine pW ?_
 refine dnS fun _ HS2=>?_
 clear HS1
 go_upto_region 2 with fail
 refine rgT [] HS2 ?_
 iterate 2 refine pW ?_
 refine dnS fun _ HS3=>?_
 clear HS2
 go_upto_region 3 with fail
 refine rgT [] HS3 ?_
 refine pW ?_
 refine dnS fun _ HS4=>?_
 clear HS3
 go_upto_region 5 with fail
 refine rgT [] HS4 ?_
 refine pW ?_
 refine pV (.int .i64 (m : Int)) (by intro w; go_simp <;> (first | (rw [HM.out.2.1]; done) | (simp [HM.out.2.1]; done))) ?_
 refine cX rfl rfl (of_q HT.out (by omega) HM.out.2.2 rfl) ?_
 refine aL3 ?_
 intro bk5 _ _ y5
 refine nZ ?_
 refine sV (RC_one _) ?_
 refine dn1 bk5 fun _ HS5=>?_
 clear HS4
 go_upto_region 6 with fail
 refine rgT [] HS5 ?_
 iterate 2 refine pW ?_
 refine dnS fun _ HS6=>?_
 clear HS5
 go_upto_region 8 with fail
 refine wS [0] (Reg.fin.put Reg.fin_no _ _) (StR.move (StR.no HS6)) ?_
 refine gV ?_
 refine pW ?_
 refine pV (.int .i64 (n : Int)) (by intro w; go_simp <;> (first | (rw [HN.out.1]; done) | (simp [HN.out.1]; done))) ?_
 refine cL (power_q HN.out.2) ?_
 refine cX rfl rfl (div_q (k := 150) HT.out (zm Z_m) (zm Z_n) (pw_ne n) HX.out (by omega)) ?_
 refine pW ?_
 refine pV (.agg (RC (ex b))) (fun w => rfl) ?_
 refine pV (.int .i64 0) (fun w => rfl) ?_
 refine sV (RC_one _) ?_
 refine dn1 bk5 fun _ HS7=>?_
 clear HS6
 go_upto_region 9 with fail
 have HPbk2 := HS7.p1
 refine wp_seq_text [] (StR.move (StR.no HPbk2)) ?_
 refine lV ?_
 refine sV (RC_one _) ?_
 refine dn1 bk2 fun _ HS8=>?_
 clear HS7 HPbk2
 go_wp2_with fail
 exact rO HS8 ⟨rfl, HS8.below⟩
theorem pw_le {a b : Nat} (h : a ≤ b) : pw a ≤ pw b := Nat.pow_le_pow_right (by omega) h
theorem pw_rz {n : Nat} (hn : n ≤ 1100) : Rz 150 ((pw n : Nat) : Rat) := by
 have e1 : (((pw n : Nat) : Rat)).num = (pw n : Int) := Rat.num_natCast _
 have e2 : (((pw n : Nat) : Rat)).den = 1 := Rat.den_natCast _
 refine ⟨?_, ?_⟩
 ·rw [e1, Int.natAbs_natCast]
  unfold Sz
  rw [bstr_length_le]
  have e : (256 : Nat) ^ 150 = pw 1100 * pw 100 := by decide +kernel
  have h2 : 1 < pw 100 := by decide +kernel
  have h3 : pw 1100 * 1 < pw 1100 * pw 100 := Nat.mul_lt_mul_of_pos_left h2 (pw_pos 1100)
  rw [e]
  exact Nat.lt_of_le_of_lt (pw_le hn) (by rw [Nat.mul_one] at h3; exact h3)
 ·rw [e2]; exact Sz.one.more (by omega)
theorem m_rz {m : Nat} (hm : m < 9007199254740992) : Rz 8 ((m : Int) : Rat) := Rz.intQ (bstr_length_le.2 (by rw [Int.natAbs_natCast]; omega)) (by omega)
theorem exM_lt (b : Nat) : exM b < 9007199254740992 := by unfold exM; split <;> omega
theorem exE_pos (b : Nat) : 1 ≤ exE b := by unfold exE; split <;> omega
theorem exE_le {b : Nat} (h : b ≤ 9218868437227405312) : exE b ≤ 2047 := by unfold exE; split <;> omega
theorem ex_rz {b : Nat} (h : b ≤ 9218868437227405312) : Rz 158 (ex b) := by
 have h1 := exE_pos b
 have h2 := exE_le h
 by_cases hc : 1075 ≤ exE b
 ·rw [← ex_hi hc]
  exact (m_rz (exM_lt b)).mul (pw_rz (by omega))
 ·rw [← ex_lo (by omega)]
  exact (m_rz (exM_lt b)).div (pw_rz (by omega)) (pw_ne _)
theorem i64_sm (x : Int) (h0 : 0 ≤ x) (h1 : x ≤ 9223372036854775807) : IntKind.i64.wrap x = x := IntWalk.i64_in _ (by omega)
theorem exact_q {b : Nat} {z0 : Rat} {W : World} {l : List Own} (hT : Tab W) (hb : b ≤ 9218868437227405312) (hz0 : ex b = z0) (w : World) (h : St W l w) : Rt 87 #[.int .u64 (b : Int)] w (.agg (RC z0)) := by
 subst hz0
 have HT := yh (tabS hT h)
 clear hT h
 have hE := exE_le hb
 have hE1 := exE_pos b
 have hM := exM_lt b
 obtain ⟨e0, he0⟩ : ∃ e0 : Nat, b / 4503599627370496 = e0 := ⟨_, rfl⟩
 obtain ⟨m0, hm0⟩ : ∃ m0 : Nat, b % 4503599627370496 = m0 := ⟨_, rfl⟩
 have HB := yh (show ((b : Int) / 4503599627370496 = (e0 : Int) ∧ IntKind.i64.wrap (e0 : Int) = (e0 : Int) ∧ bits BinOp.and IntKind.u64 (b : Int) 4503599627370495 = (m0 : Int)) from
  ⟨by omega, i64_sm _ (by omega) (by omega), by rw [and_mant b (by omega), hm0]⟩)
 by_cases h0 : e0 = 0
 ·have e1 : exE b = 1 := by unfold exE; rw [if_pos (by omega)]
  have e2 : exM b = m0 := by unfold exM; rw [if_pos (by omega)]; exact hm0
  have HX := ex_lo (b := b) (by omega)
  rw [e1, e2] at HX
  rw [e2] at hM
  exact exact_sub (l := l) (n := 1074) (e := 1) HT HB (yh ⟨rfl, i64_sm _ (by omega) (by omega), by omega⟩) (by rw [h0]; rfl) rfl (by decide) (yh ⟨rfl, by omega⟩) (yh (m_rz hM)) (yh (pw_rz (by omega))) (yh HX)
 ·have e1 : exE b = e0 := by unfold exE; rw [if_neg (by omega)]; exact he0
  have e2 : exM b = m0 + 4503599627370496 := by unfold exM; rw [if_neg (by omega)]; omega
  have hor := or_mant m0 (by omega)
  rw [e1] at hE hE1
  have HE0 : ((e0 : Int) == 0) = false := by rw [beq_eq_false_iff_ne]; omega
  rw [e2] at hM
  by_cases hc : 1075 ≤ e0
  ·have HX := ex_hi (b := b) (by omega)
   rw [e1, e2] at HX
   exact exact_hi (l := l) (n := e0 - 1075) HT HB (yh ⟨hor, i64_sm _ (by omega) (by omega), by omega⟩) HE0 rfl (decide_eq_true (by omega)) (yh ⟨by rw [i64_sm _ (by omega) (by omega)]; omega, by omega⟩) (yh (m_rz hM)) (yh (pw_rz (by omega))) (yh HX)
  ·have HX := ex_lo (b := b) (by omega)
   rw [e1, e2] at HX
   exact exact_lo (l := l) (n := 1075 - e0) HT HB (yh ⟨hor, i64_sm _ (by omega) (by omega), by omega⟩) HE0 rfl (decide_eq_false (by omega)) (yh ⟨by rw [i64_sm _ (by omega) (by omega)]; omega, by omega⟩) (yh (m_rz hM)) (yh (pw_rz (by omega))) (yh HX)
theorem andNot_top (a : Nat) (ha : a < 18446744073709551616) : bits BinOp.andNot IntKind.u64 (a : Int) 9223372036854775808 = ((a % 9223372036854775808 : Nat) : Int) := by
 have h1 : (BitVec.ofInt 64 (a : Int)).toNat = a := by
  rw [BitVec.ofInt_natCast, BitVec.toNat_ofNat]; exact Nat.mod_eq_of_lt (by omega)
 have h2 : (BitVec.ofInt 64 ((9223372036854775808 : Nat) : Int)).toNat = 9223372036854775808 := by decide
 show IntKind.u64.wrap ((BitVec.ofInt 64 (a : Int) &&& ~~~BitVec.ofInt 64 ((9223372036854775808 : Nat) : Int)).toNat : Int) = _
 rw [BitVec.toNat_and, BitVec.toNat_not, h1, h2]
 have e : 2 ^ 64 - 1 - 9223372036854775808 = 9223372036854775807 := by decide
 rw [e]
 have e2 : a &&& 9223372036854775807 = a % 9223372036854775808 := Nat.and_two_pow_sub_one_eq_mod a 63
 rw [e2, IntWalk.u64_in _ (by omega)]
theorem mid_rz {b : Nat} (h : b < 9218868437227405312) : Rz 1000 (midE b) :=
 ((num_s 1 2 (by decide) (by decide) (by decide)).mul ((ex_rz (show b ≤ 9218868437227405312 by omega)).add (ex_rz (show b + 1 ≤ 9218868437227405312 by omega)))).more (by omega)
theorem from_10 {bb b : Nat} {W : World} {l : List Own} (hT : Tab W) (hb1 : (bb : Int) / 9223372036854775808 = 0) (hb2 : bits BinOp.andNot IntKind.u64 (bb : Int) 9223372036854775808 = (b : Int)) (hb : b < 9218868437227405312) (hp : 0 < b) (w : World) (h : St W l w) : Rt 38 #[.int .u64 (bb : Int)] w (.tuple #[.agg (VC (midE (b - 1)) (midE b)), .int .i64 0]) := by
 have HT := yh (tabS hT h); clear hT h
 have HB := yh (And.intro hb1 hb2); clear hb1 hb2
 have mp := mid_pos b
 have zm := mid_rz hb
 have zl := mid_rz (show b - 1 < 9218868437227405312 by omega)
 have ml := mid_le (show b - 1 ≤ b by omega)
 obtain ⟨b0, hb0⟩ : ∃ b0 : Nat, b0 = b - 1 := ⟨_, rfl⟩
 rw [← hb0] at zl ml ⊢
 obtain ⟨b1, hb1⟩ : ∃ b1 : Nat, b1 = b + 1 := ⟨_, rfl⟩
 obtain ⟨hf, eh⟩ : ∃ z, ((1 : Int) : Rat) / ((2 : Int) : Rat) = z := ⟨_, rfl⟩
 obtain ⟨hi, ehi⟩ : ∃ z, midE b = z := ⟨_, rfl⟩
 obtain ⟨ea, eea⟩ : ∃ z, ex b = z := ⟨_, rfl⟩
 obtain ⟨en, een⟩ : ∃ z, ex b1 = z := ⟨_, rfl⟩
 have Z_hf := yh (show Rz 4 hf from eh ▸ num_s 1 2 (by decide) (by decide) (by decide))
 have Z_ea := yh (show Rz 158 ea from eea ▸ ex_rz (by omega))
 have Z_en := yh (show Rz 158 en from een ▸ ex_rz (by omega))
 have hx1 : hf * (ea + en) = hi := by rw [← ehi, ← eh, ← eea, ← een, hb1]; rfl
 obtain ⟨lo, elo⟩ : ∃ z, midE b0 = z := ⟨_, rfl⟩
 obtain ⟨ep, eep⟩ : ∃ z, ex b0 = z := ⟨_, rfl⟩
 have Z_ep := yh (show Rz 158 ep from eep ▸ ex_rz (by omega))
 have hx2 : hf * (ea + ep) = lo := by rw [← elo, ← eh, ← eea, ← eep, hb0, ← mid_back hp]
 rw [elo] at zl ml ⊢
 have Z_lo := yh zl; clear zl elo
 rw [ehi] at zm mp ml ⊢
 have Z_hi := yh zm; clear zm
 have HLE := yh (show (lo : Rat) ≤ hi by grind)
 have HX := yh (show hf * (ea + en) = hi ∧ hf * (ea + ep) = lo from ⟨hx1, hx2⟩); clear hx1 ehi mp
 have HC := yh (show (b : Int) < 9218868437227405312 ∧ b ≤ 9218868437227405312 ∧ b1 ≤ 9218868437227405312 ∧ IntKind.u64.wrap ((b : Int) + 1) = (b1 : Int) ∧ True from ⟨by omega, by omega, by omega, by rw [IntWalk.u64_in _ (by omega)]; omega, trivial⟩)
 have HP := yh (show 0 < b from by omega)
 have HQ := yh (show b0 ≤ 9218868437227405312 ∧ IntKind.u64.wrap ((b : Int) - 1) = (b0 : Int) from ⟨by omega, by rw [IntWalk.u64_in _ (by omega)]; omega⟩)
 have EP := yh eep; clear eep hx2 ml hb0
 have EH := yh eh; clear eh
 have EA := yh eea; clear eea
 have EN := yh een; clear een
 clear hb1 hb hp
 go_enter Tryz.func38, Tryz.ntmps38
 have HS : St w [] w := St.start
 go_upto_region 0 with fail
 refine rgT [] HS ?_
 refine aL6 ?_
 intro bk2 _ _ y2
 refine nZ ?_
 refine pW ?_
 refine dn1 bk2 fun _ HS1=>?_
 clear HS
 go_upto_region 1 with fail
 refine rgT [] HS1 ?_
 refine pW ?_
 refine pV (.int .u64 0) (by intro w; go_simp <;> (first | (rw [HB.out.1]; done) | exact HB.out.1 | (simp [HB.out.1]; done))) ?_
 iterate 2 refine pW ?_
 refine pV (.int .u64 (b : Int)) (by intro w; go_simp <;> (first | (rw [HB.out.2]; done) | exact HB.out.2 | (simp [HB.out.2]; done))) ?_
 iterate 2 refine pW ?_
 refine dnS fun _ HS2=>?_
 clear HS1
 go_upto_region 2 with fail
 refine rgT [] HS2 ?_
 refine pW ?_
 refine pV (.bool false) (by intro w; go_simp <;> (first | (rw [HC.out.1]; done) | exact HC.out.1 | (simp [HC.out.1, HC.out.1]; done))) ?_
 refine dnS fun _ HS3=>?_
 clear HS2
 go_upto_region 4 with fail
 refine rgT [] HS3 ?_
 refine cX rfl rfl (make_q HT.out (by omega) (by omega) (by omega) (by omega) (by omega) EH.out) ?_
 refine pW ?_
 refine pV (.agg (RC hf)) (fun w => rfl) ?_
 refine pV (.int .i64 0) (fun w => rfl) ?_
 refine aL3 ?_
 intro bk6 _ _ y6
 refine nZ ?_
 refine sV (RC_one _) ?_
 refine pW ?_
 refine dn1 bk6 fun _ HS4=>?_
 clear HS3
 go_upto_region 5 with fail
 refine rgT [] HS4 ?_
 refine pW ?_
 refine cL (exact_q HT.out HC.out.2.1 EA.out) ?_
 refine pW ?_
 refine pV (.int .u64 (b1 : Int)) (by intro w; go_simp <;> (first | (rw [HC.out.2.2.2.1]; done) | exact HC.out.2.2.2.1 | (simp [HC.out.2.2.2.1]; done))) ?_
 refine cL (exact_q HT.out HC.out.2.2.1 EN.out) ?_
 refine aL3 ?_
 intro bk8 _ _ y8
 refine nZ ?_
 refine aL3 ?_
 intro bk9 _ _ y9
 obtain ⟨_, _, y9⟩ := Reg.ne2 y9
 refine nZ ?_
 refine sV (RC_one _) ?_
 refine sV (RC_one _) ?_
 refine Seq.done fun ws5 hws => ?_
 have HS5 : St w [(bk8, 27, RC ea), (bk9, 27, RC en), (bk6, 27, RC hf), (bk2, 32, #[.bool false, .string ⟨#[]⟩, .string ⟨#[]⟩, .bool false, .string ⟨#[]⟩, .string ⟨#[]⟩])] ws5 := hws.q2
 clear HS4 hws
 go_upto_region 6 with fail
 refine rgW [] HS5 ?_
 iterate 3 refine lV ?_
 refine cX rfl rfl (add_q (k := 158) HT.out (zm Z_ea) (zm Z_en) rfl (by omega)) ?_
 refine cX rfl rfl (mul_q (k := 633) HT.out (zm Z_hf) ((Z_ea.out.add Z_en.out).more (by omega)) HX.out.1 (by omega)) ?_
 refine aL3 ?_
 intro bk10 _ _ y10
 refine nZ ?_
 refine sV (RC_one _) ?_
 refine dn1 bk10 fun _ HS6=>?_
 clear HS5
 go_upto_region 7 with fail
 refine rgT [] HS6 ?_
 refine lV ?_
 refine cX rfl rfl (neg_q (k := 1000) HT.out (zm Z_hi) rfl (by omega)) ?_
 refine aL3 ?_
 intro bk11 _ _ y11
 refine nZ ?_
 refine sV (RC_one _) ?_
 refine dn1 bk11 fun _ HS7=>?_
 clear HS6
 go_upto_region 8 with fail
 refine rgT [] HS7 ?_
 refine pW ?_
 refine pV (.bool true) (by intro w; go_simp <;> (first | (rw [HP.out]; done) | exact HP.out | (simp [HP.out]; done))) ?_
 refine dnS fun _ HS8=>?_
 clear HS7
 go_upto_region 9 with fail
 refine wS [] (Reg.fin.put Reg.fin_no _ _) (StR.move (StR.no HS8)) ?_
 iterate 2 refine lV ?_
 refine pW ?_
 refine pV (.int .u64 (b0 : Int)) (by intro w; go_simp <;> (first | (rw [HQ.out.2]; done) | exact HQ.out.2 | (simp [HQ.out.2]; done))) ?_
 refine cL (exact_q HT.out HQ.out.1 EP.out) ?_
 refine cX rfl rfl (add_q (k := 158) HT.out (zm Z_ea) (zm Z_ep) rfl (by omega)) ?_
 refine cX rfl rfl (mul_q (k := 633) HT.out (zm Z_hf) ((Z_ea.out.add Z_ep.out).more (by omega)) HX.out.2 (by omega)) ?_
 refine sV (RC_one _) ?_
 refine dn1 bk11 fun _ HS9=>?_
 clear HS8
 go_upto_region 10 with fail
 refine rgT [] HS9 ?_
 refine pW ?_
 refine dnS fun _ HS10=>?_
 clear HS9
 go_upto_region 12 with fail
 refine rgT [] HS10 ?_
 iterate 2 refine lV ?_
 refine cX rfl rfl (smake_q (k := 1000) HT.out Z_lo.out Z_hi.out HLE.out rfl rfl (by omega)) ?_
 refine pW ?_
 refine pV (.agg (VC lo hi)) (fun w => rfl) ?_
 refine pV (.int .i64 0) (fun w => rfl) ?_
 refine aL6 ?_
 intro bk12 _ _ y12
 refine nZ ?_
 refine sV (VC_one _ _) ?_
 refine pW ?_
 refine dn1 bk12 fun _ HS11=>?_
 clear HS10
 go_upto_region 13 with fail
 have HPbk2 := HS11.p6
 refine wp_seq_text [] (StR.move (StR.no HPbk2)) ?_
 refine lV ?_
 refine pW ?_
 refine sV (VC_one _ _) ?_
 refine pW ?_
 refine dn1 bk2 fun _ HS12=>?_
 clear HS11 HPbk2
 go_wp2_with fail
 exact ret_own2 rfl rfl rfl rfl HS12 (by repeat first|exact mC|apply mT) (n := 6) rfl (by kernel_rfl) ⟨rfl, HS12.below⟩
def frL (n : Bool) (b : Nat) : Rat := if n = true then -midE b else if b = 0 then -midE b else midE (b - 1)
def frH (n : Bool) (b : Nat) : Rat := if n = true then (if b = 0 then midE b else -midE (b - 1)) else midE b
theorem frL_f (b : Nat) : frL false b = if b = 0 then -midE b else midE (b - 1) := if_neg (by decide)
theorem frH_f (b : Nat) : frH false b = midE b := if_neg (by decide)
end Go.Proofs.YtmchjmflkaiakaaGreatDoor
