import Derived.Test.YtmchjmflkaiakaaGreatDoorBo3
import Derived.Test.YtmchjmflkaiakaaGreatDoorSp3
/- border.From (printed by lawvec.py). -/
namespace Go.Proofs.YtmchjmflkaiakaaGreatDoor
open Go.RowKit
set_option linter.unusedVariables false
set_option linter.unusedSimpArgs false
set_option maxHeartbeats 2000000
set_option maxRecDepth 20000
variable {W : World} {l : List Own}
theorem andNot_top (a : Nat) (ha : a < 18446744073709551616) : bits BinOp.andNot IntKind.u64 (a : Int) 9223372036854775808 = ((a % 9223372036854775808 : Nat) : Int) := by
 have h1 : (BitVec.ofInt 64 (a : Int)).toNat = a := by
  rw [BitVec.ofInt_natCast, BitVec.toNat_ofNat]; exact Nat.mod_eq_of_lt (by omega)
 have h2 : (BitVec.ofInt 64 ((9223372036854775808 : Nat) : Int)).toNat = 9223372036854775808 := by decide
 show IntKind.u64.wrap ((BitVec.ofInt 64 (a : Int) &&& ~~~BitVec.ofInt 64 ((9223372036854775808 : Nat) : Int)).toNat : Int) = _
 rw [BitVec.toNat_and, BitVec.toNat_not, h1, h2]
 have e : 2 ^ 64 - 1 - 9223372036854775808 = 9223372036854775807 := by decide
 rw [e]
 have e2 : a &&& 9223372036854775807 = a % 9223372036854775808 := Nat.and_two_pow_sub_one_eq_mod a 63
 rw [e2, IntWalk.u64_in _ (by omega)]
theorem or_top (m : Nat) (hm : m < 9223372036854775808) : bits BinOp.or IntKind.u64 (m : Int) 9223372036854775808 = ((m + 9223372036854775808 : Nat) : Int) := by
 have h := u64_or_nat m 9223372036854775808 (by omega) (by omega)
 have e : m ||| 9223372036854775808 = m + 9223372036854775808 := by
  rw [Nat.or_comm]
  have h2 := Nat.two_pow_add_eq_or_of_lt (i := 63) (b := m) (by omega) 1
  have h3 : 2 ^ 63 * 1 = 9223372036854775808 := by decide
  rw [h3] at h2
  omega
 rw [e] at h; exact h
theorem top_or (m : Nat) (hm : m < 9223372036854775808) : bits BinOp.or IntKind.u64 9223372036854775808 (m : Int) = ((m + 9223372036854775808 : Nat) : Int) := by
 have h := u64_or_nat 9223372036854775808 m (by omega) (by omega)
 have e : 9223372036854775808 ||| m = m + 9223372036854775808 := by
  have h2 := Nat.two_pow_add_eq_or_of_lt (i := 63) (b := m) (by omega) 1
  have h3 : 2 ^ 63 * 1 = 9223372036854775808 := by decide
  rw [h3] at h2
  omega
 rw [e] at h; exact h
theorem mid_rz {b : Nat} (h : b < 9218868437227405312) : Rz 1000 (midE b) :=
 ((num_s 1 2 (by decide) (by decide) (by decide)).mul ((ex_rz (show b ≤ 9218868437227405312 by omega)).add (ex_rz (show b + 1 ≤ 9218868437227405312 by omega)))).more (by omega)
theorem from_00 {bb b : Nat} (hT : Tab W) (hb1 : (bb : Int) / 9223372036854775808 = 0) (hb2 : bits BinOp.andNot IntKind.u64 (bb : Int) 9223372036854775808 = (b : Int)) (hb : b < 9218868437227405312) (hp : b = 0) (w : World) (h : St W l w) :
  Calls Tryz.prog 38 #[.int .u64 (bb : Int)] w fun e w' => e = .returned (.tuple #[.agg (VC (-midE b) (midE b)), .int .i64 0]) ∧ Below w.heap.size w w' := by
 have HT := Lib.hid (tabS hT h); clear hT h
 have HB := Lib.hid (And.intro hb1 hb2); clear hb1 hb2
 have mp := mid_pos b
 have zm := mid_rz hb
 obtain ⟨b1, hb1⟩ : ∃ b1 : Nat, b1 = b + 1 := ⟨_, rfl⟩
 obtain ⟨hf, eh⟩ : ∃ z, ((1 : Int) : Rat) / ((2 : Int) : Rat) = z := ⟨_, rfl⟩
 obtain ⟨hi, ehi⟩ : ∃ z, midE b = z := ⟨_, rfl⟩
 obtain ⟨ea, eea⟩ : ∃ z, ex b = z := ⟨_, rfl⟩
 obtain ⟨en, een⟩ : ∃ z, ex b1 = z := ⟨_, rfl⟩
 have Z_hf := Lib.hid (show Rz 4 hf from eh ▸ num_s 1 2 (by decide) (by decide) (by decide))
 have Z_ea := Lib.hid (show Rz 158 ea from eea ▸ ex_rz (by omega))
 have Z_en := Lib.hid (show Rz 158 en from een ▸ ex_rz (by omega))
 have hx1 : hf * (ea + en) = hi := by rw [← ehi, ← eh, ← eea, ← een, hb1]; rfl
 rw [ehi] at zm mp ⊢
 have Z_hi := Lib.hid zm; clear zm
 have HLE := Lib.hid (show (-hi : Rat) ≤ hi by grind)
 have HX := Lib.hid (show hf * (ea + en) = hi ∧ True from ⟨hx1, trivial⟩); clear hx1 ehi mp
 have HC := Lib.hid (show (b : Int) < 9218868437227405312 ∧ b ≤ 9218868437227405312 ∧ b1 ≤ 9218868437227405312 ∧ IntKind.u64.wrap ((b : Int) + 1) = (b1 : Int) ∧ True from ⟨by omega, by omega, by omega, by rw [IntWalk.u64_in _ (by omega)]; omega, trivial⟩)
 have HP := Lib.hid (show b = 0 from by omega)
 have EH := Lib.hid eh; clear eh
 have EA := Lib.hid eea; clear eea
 have EN := Lib.hid een; clear een
 clear hb1 hb hp
 go_enter Tryz.func38, Tryz.ntmps38
 have HS : St w [] w := St.start
 go_upto_region 0 with fail
 refine rgT [] HS ?_
 refine aL6 ?_
 intro bk2 _ _ hbk2_r
 refine nZ ?_
 refine pW ?_
 refine d1 bk2 fun _ HS1=>?_
 clear HS
 go_upto_region 1 with fail
 refine rgT [] HS1 ?_
 refine pW ?_
 refine pV (.int .u64 0) (by intro w; go_simp <;> (first | (rw [HB.out.1]; done) | exact HB.out.1 | (simp [HB.out.1]; done) | (trace_state; done))) ?_
 iterate 2 refine pW ?_
 refine pV (.int .u64 (b : Int)) (by intro w; go_simp <;> (first | (rw [HB.out.2]; done) | exact HB.out.2 | (simp [HB.out.2]; done) | (trace_state; done))) ?_
 iterate 2 refine pW ?_
 refine dS fun _ HS2=>?_
 clear HS1
 go_upto_region 2 with fail
 refine rgT [] HS2 ?_
 refine pW ?_
 refine pV (.bool false) (by intro w; go_simp <;> (first | (rw [HC.out.1]; done) | (rw [HC.out.1]; done) | exact HC.out.1 | exact HC.out.1 | (simp [HC.out.1, HC.out.1]; done) | (trace_state; done))) ?_
 refine dS fun _ HS3=>?_
 clear HS2
 go_upto_region 4 with fail
 refine rgT [] HS3 ?_
 refine cX rfl rfl (make_q HT.out (by omega) (by omega) (by omega) (by omega) (by omega) EH.out) ?_
 refine pW ?_
 refine pV (.agg (RC hf)) (fun w => rfl) ?_
 refine pV (.int .i64 0) (fun w => rfl) ?_
 refine aL3 ?_
 intro bk6 _ _ hbk6_r
 refine nZ ?_
 refine sV (RC_one _) ?_
 refine pW ?_
 refine d1 bk6 fun _ HS4=>?_
 clear HS3
 go_upto_region 5 with fail
 refine rgT [] HS4 ?_
 refine pW ?_
 refine cL (exact_q HT.out HC.out.2.1 EA.out) ?_
 refine pW ?_
 refine pV (.int .u64 (b1 : Int)) (by intro w; go_simp <;> (first | (rw [HC.out.2.2.2.1]; done) | exact HC.out.2.2.2.1 | (simp [HC.out.2.2.2.1]; done) | (trace_state; done))) ?_
 refine cL (exact_q HT.out HC.out.2.2.1 EN.out) ?_
 refine aL3 ?_
 intro bk8 _ _ hbk8_r
 refine nZ ?_
 refine aL3 ?_
 intro bk9 _ _ hbk9_r
 obtain ⟨_, _, hbk9_r⟩ := Reg.ne2 hbk9_r
 refine nZ ?_
 refine sV (RC_one _) ?_
 refine sV (RC_one _) ?_
 refine Seq.done fun ws5 hws => ?_
 have HS5 : St w [(bk8, 27, RC ea), (bk9, 27, RC en), (bk6, 27, RC hf), (bk2, 32, #[.bool false, .string ⟨#[]⟩, .string ⟨#[]⟩, .bool false, .string ⟨#[]⟩, .string ⟨#[]⟩])] ws5 := hws.q2
 clear HS4 hws
 go_upto_region 6 with fail
 refine rgW [] HS5 ?_
 iterate 3 refine lV ?_
 refine cX rfl rfl (add_q (k := 158) HT.out (Z_ea.out.more (by omega)) (Z_en.out.more (by omega)) rfl (by omega)) ?_
 refine cX rfl rfl (mul_q (k := 633) HT.out (Z_hf.out.more (by omega)) ((Z_ea.out.add Z_en.out).more (by omega)) HX.out.1 (by omega)) ?_
 refine aL3 ?_
 intro bk10 _ _ hbk10_r
 refine nZ ?_
 refine sV (RC_one _) ?_
 refine d1 bk10 fun _ HS6=>?_
 clear HS5
 go_upto_region 7 with fail
 refine rgT [] HS6 ?_
 refine lV ?_
 refine cX rfl rfl (neg_q (k := 1000) HT.out (Z_hi.out.more (by omega)) rfl (by omega)) ?_
 refine aL3 ?_
 intro bk11 _ _ hbk11_r
 refine nZ ?_
 refine sV (RC_one _) ?_
 refine d1 bk11 fun _ HS7=>?_
 clear HS6
 go_upto_region 8 with fail
 refine rgT [] HS7 ?_
 refine pW ?_
 refine pV (.bool false) (by intro w; go_simp <;> (first | (rw [HP.out]; done) | exact HP.out | (simp [HP.out]; done) | (trace_state; done))) ?_
 refine dS fun _ HS8=>?_
 clear HS7
 go_upto_region 10 with fail
 refine rgT [] HS8 ?_
 refine pW ?_
 refine dS fun _ HS9=>?_
 clear HS8
 go_upto_region 12 with fail
 refine rgT [] HS9 ?_
 iterate 2 refine lV ?_
 refine cX rfl rfl (smake_q (k := 1000) HT.out Z_hi.out.neg Z_hi.out HLE.out rfl rfl (by omega)) ?_
 refine pW ?_
 refine pV (.agg (VC (-hi) hi)) (fun w => rfl) ?_
 refine pV (.int .i64 0) (fun w => rfl) ?_
 refine aL6 ?_
 intro bk12 _ _ hbk12_r
 refine nZ ?_
 refine sV (VC_one _ _) ?_
 refine pW ?_
 refine d1 bk12 fun _ HS10=>?_
 clear HS9
 go_upto_region 13 with fail
 have HPbk2 := HS10.p6
 refine wp_seq_text [] (StR.move (StR.no HPbk2)) ?_
 refine lV ?_
 refine pW ?_
 refine sV (VC_one _ _) ?_
 refine pW ?_
 refine d1 bk2 fun _ HS11=>?_
 clear HS10 HPbk2
 go_wp2_with fail
 exact ret_own2 rfl rfl rfl rfl HS11 (by repeat first|exact mC|apply mT) (n := 6) rfl (by kernel_rfl) ⟨rfl, HS11.below⟩
theorem from_01 {bb b : Nat} (hT : Tab W) (hb1 : (bb : Int) / 9223372036854775808 = 1) (hb2 : bits BinOp.andNot IntKind.u64 (bb : Int) 9223372036854775808 = (b : Int)) (hb : b < 9218868437227405312) (hp : b = 0) (w : World) (h : St W l w) :
  Calls Tryz.prog 38 #[.int .u64 (bb : Int)] w fun e w' => e = .returned (.tuple #[.agg (VC (-midE b) (midE b)), .int .i64 0]) ∧ Below w.heap.size w w' := by
 have HT := Lib.hid (tabS hT h); clear hT h
 have HB := Lib.hid (And.intro hb1 hb2); clear hb1 hb2
 have mp := mid_pos b
 have zm := mid_rz hb
 obtain ⟨b1, hb1⟩ : ∃ b1 : Nat, b1 = b + 1 := ⟨_, rfl⟩
 obtain ⟨hf, eh⟩ : ∃ z, ((1 : Int) : Rat) / ((2 : Int) : Rat) = z := ⟨_, rfl⟩
 obtain ⟨hi, ehi⟩ : ∃ z, midE b = z := ⟨_, rfl⟩
 obtain ⟨ea, eea⟩ : ∃ z, ex b = z := ⟨_, rfl⟩
 obtain ⟨en, een⟩ : ∃ z, ex b1 = z := ⟨_, rfl⟩
 have Z_hf := Lib.hid (show Rz 4 hf from eh ▸ num_s 1 2 (by decide) (by decide) (by decide))
 have Z_ea := Lib.hid (show Rz 158 ea from eea ▸ ex_rz (by omega))
 have Z_en := Lib.hid (show Rz 158 en from een ▸ ex_rz (by omega))
 have hx1 : hf * (ea + en) = hi := by rw [← ehi, ← eh, ← eea, ← een, hb1]; rfl
 rw [ehi] at zm mp ⊢
 have Z_hi := Lib.hid zm; clear zm
 have HLE := Lib.hid (show (-hi : Rat) ≤ - -hi by grind)
 have HX := Lib.hid (show hf * (ea + en) = hi ∧ True from ⟨hx1, trivial⟩); clear hx1 ehi mp
 have HC := Lib.hid (show (b : Int) < 9218868437227405312 ∧ b ≤ 9218868437227405312 ∧ b1 ≤ 9218868437227405312 ∧ IntKind.u64.wrap ((b : Int) + 1) = (b1 : Int) ∧ True from ⟨by omega, by omega, by omega, by rw [IntWalk.u64_in _ (by omega)]; omega, trivial⟩)
 have HP := Lib.hid (show b = 0 from by omega)
 have EH := Lib.hid eh; clear eh
 have EA := Lib.hid eea; clear eea
 have EN := Lib.hid een; clear een
 clear hb1 hb hp
 go_enter Tryz.func38, Tryz.ntmps38
 have HS : St w [] w := St.start
 go_upto_region 0 with fail
 refine rgT [] HS ?_
 refine aL6 ?_
 intro bk2 _ _ hbk2_r
 refine nZ ?_
 refine pW ?_
 refine d1 bk2 fun _ HS1=>?_
 clear HS
 go_upto_region 1 with fail
 refine rgT [] HS1 ?_
 refine pW ?_
 refine pV (.int .u64 1) (by intro w; go_simp <;> (first | (rw [HB.out.1]; done) | exact HB.out.1 | (simp [HB.out.1]; done) | (trace_state; done))) ?_
 iterate 2 refine pW ?_
 refine pV (.int .u64 (b : Int)) (by intro w; go_simp <;> (first | (rw [HB.out.2]; done) | exact HB.out.2 | (simp [HB.out.2]; done) | (trace_state; done))) ?_
 iterate 2 refine pW ?_
 refine dS fun _ HS2=>?_
 clear HS1
 go_upto_region 2 with fail
 refine rgT [] HS2 ?_
 refine pW ?_
 refine pV (.bool false) (by intro w; go_simp <;> (first | (rw [HC.out.1]; done) | (rw [HC.out.1]; done) | exact HC.out.1 | exact HC.out.1 | (simp [HC.out.1, HC.out.1]; done) | (trace_state; done))) ?_
 refine dS fun _ HS3=>?_
 clear HS2
 go_upto_region 4 with fail
 refine rgT [] HS3 ?_
 refine cX rfl rfl (make_q HT.out (by omega) (by omega) (by omega) (by omega) (by omega) EH.out) ?_
 refine pW ?_
 refine pV (.agg (RC hf)) (fun w => rfl) ?_
 refine pV (.int .i64 0) (fun w => rfl) ?_
 refine aL3 ?_
 intro bk6 _ _ hbk6_r
 refine nZ ?_
 refine sV (RC_one _) ?_
 refine pW ?_
 refine d1 bk6 fun _ HS4=>?_
 clear HS3
 go_upto_region 5 with fail
 refine rgT [] HS4 ?_
 refine pW ?_
 refine cL (exact_q HT.out HC.out.2.1 EA.out) ?_
 refine pW ?_
 refine pV (.int .u64 (b1 : Int)) (by intro w; go_simp <;> (first | (rw [HC.out.2.2.2.1]; done) | exact HC.out.2.2.2.1 | (simp [HC.out.2.2.2.1]; done) | (trace_state; done))) ?_
 refine cL (exact_q HT.out HC.out.2.2.1 EN.out) ?_
 refine aL3 ?_
 intro bk8 _ _ hbk8_r
 refine nZ ?_
 refine aL3 ?_
 intro bk9 _ _ hbk9_r
 obtain ⟨_, _, hbk9_r⟩ := Reg.ne2 hbk9_r
 refine nZ ?_
 refine sV (RC_one _) ?_
 refine sV (RC_one _) ?_
 refine Seq.done fun ws5 hws => ?_
 have HS5 : St w [(bk8, 27, RC ea), (bk9, 27, RC en), (bk6, 27, RC hf), (bk2, 32, #[.bool false, .string ⟨#[]⟩, .string ⟨#[]⟩, .bool false, .string ⟨#[]⟩, .string ⟨#[]⟩])] ws5 := hws.q2
 clear HS4 hws
 go_upto_region 6 with fail
 refine rgW [] HS5 ?_
 iterate 3 refine lV ?_
 refine cX rfl rfl (add_q (k := 158) HT.out (Z_ea.out.more (by omega)) (Z_en.out.more (by omega)) rfl (by omega)) ?_
 refine cX rfl rfl (mul_q (k := 633) HT.out (Z_hf.out.more (by omega)) ((Z_ea.out.add Z_en.out).more (by omega)) HX.out.1 (by omega)) ?_
 refine aL3 ?_
 intro bk10 _ _ hbk10_r
 refine nZ ?_
 refine sV (RC_one _) ?_
 refine d1 bk10 fun _ HS6=>?_
 clear HS5
 go_upto_region 7 with fail
 refine rgT [] HS6 ?_
 refine lV ?_
 refine cX rfl rfl (neg_q (k := 1000) HT.out (Z_hi.out.more (by omega)) rfl (by omega)) ?_
 refine aL3 ?_
 intro bk11 _ _ hbk11_r
 refine nZ ?_
 refine sV (RC_one _) ?_
 refine d1 bk11 fun _ HS7=>?_
 clear HS6
 go_upto_region 8 with fail
 refine rgT [] HS7 ?_
 refine pW ?_
 refine pV (.bool false) (by intro w; go_simp <;> (first | (rw [HP.out]; done) | exact HP.out | (simp [HP.out]; done) | (trace_state; done))) ?_
 refine dS fun _ HS8=>?_
 clear HS7
 go_upto_region 10 with fail
 refine rgT [] HS8 ?_
 refine pW ?_
 refine dS fun _ HS9=>?_
 clear HS8
 go_upto_region 11 with fail
 have HPbk10 := HS9.p1
 have HPbk11 := HPbk10.p1
 have ne_bk11_bk10 : bk11 ≠ bk10 := (List.pairwise_cons.1 HPbk11.apart).1 _ List.mem_cons_self
 have ne_bk10_bk11 := Ne.symm ne_bk11_bk10
 refine wS [0, 4] (Reg.fin.put (Reg.fin.put Reg.fin_no _ _) _ _) (StR.move (StR.move (StR.no HPbk11))) ?_
 refine gV ?_
 refine cX rfl rfl (neg_q (k := 1000) HT.out (Z_hi.out.more (by omega)) rfl (by omega)) ?_
 refine gV ?_
 refine cX rfl rfl (neg_q (k := 1000) HT.out (Z_hi.out.neg.more (by omega)) rfl (by omega)) ?_
 refine sV (RC_one _) ?_
 refine sV (RC_one _) ?_
 refine Seq.done fun ws10 hws => ?_
 have HS10 : St w [(bk11, 27, RC (-hi)), (bk10, 27, RC (-(-hi))), (bk8, 27, RC ea), (bk9, 27, RC en), (bk6, 27, RC hf), (bk2, 32, #[.bool false, .string ⟨#[]⟩, .string ⟨#[]⟩, .bool false, .string ⟨#[]⟩, .string ⟨#[]⟩])] ws10 := hws.q2
 clear HS9 hws HPbk10 HPbk11
 go_upto_region 12 with fail
 refine rgT [] HS10 ?_
 iterate 2 refine lV ?_
 refine cX rfl rfl (smake_q (k := 1000) HT.out Z_hi.out.neg Z_hi.out.neg.neg HLE.out rfl (Rat.neg_neg _) (by omega)) ?_
 refine pW ?_
 refine pV (.agg (VC (-hi) hi)) (fun w => rfl) ?_
 refine pV (.int .i64 0) (fun w => rfl) ?_
 refine aL6 ?_
 intro bk12 _ _ hbk12_r
 refine nZ ?_
 refine sV (VC_one _ _) ?_
 refine pW ?_
 refine d1 bk12 fun _ HS11=>?_
 clear HS10
 go_upto_region 13 with fail
 have HPbk2 := HS11.p6
 refine wp_seq_text [] (StR.move (StR.no HPbk2)) ?_
 refine lV ?_
 refine pW ?_
 refine sV (VC_one _ _) ?_
 refine pW ?_
 refine d1 bk2 fun _ HS12=>?_
 clear HS11 HPbk2
 go_wp2_with fail
 exact ret_own2 rfl rfl rfl rfl HS12 (by repeat first|exact mC|apply mT) (n := 6) rfl (by kernel_rfl) ⟨rfl, HS12.below⟩
theorem from_10 {bb b : Nat} (hT : Tab W) (hb1 : (bb : Int) / 9223372036854775808 = 0) (hb2 : bits BinOp.andNot IntKind.u64 (bb : Int) 9223372036854775808 = (b : Int)) (hb : b < 9218868437227405312) (hp : 0 < b) (w : World) (h : St W l w) :
  Calls Tryz.prog 38 #[.int .u64 (bb : Int)] w fun e w' => e = .returned (.tuple #[.agg (VC (midE (b - 1)) (midE b)), .int .i64 0]) ∧ Below w.heap.size w w' := by
 have HT := Lib.hid (tabS hT h); clear hT h
 have HB := Lib.hid (And.intro hb1 hb2); clear hb1 hb2
 have mp := mid_pos b
 have zm := mid_rz hb
 have zl := mid_rz (show b - 1 < 9218868437227405312 by omega)
 have ml := mid_le (show b - 1 ≤ b by omega)
 obtain ⟨b0, hb0⟩ : ∃ b0 : Nat, b0 = b - 1 := ⟨_, rfl⟩
 rw [← hb0] at zl ml ⊢
 obtain ⟨b1, hb1⟩ : ∃ b1 : Nat, b1 = b + 1 := ⟨_, rfl⟩
 obtain ⟨hf, eh⟩ : ∃ z, ((1 : Int) : Rat) / ((2 : Int) : Rat) = z := ⟨_, rfl⟩
 obtain ⟨hi, ehi⟩ : ∃ z, midE b = z := ⟨_, rfl⟩
 obtain ⟨ea, eea⟩ : ∃ z, ex b = z := ⟨_, rfl⟩
 obtain ⟨en, een⟩ : ∃ z, ex b1 = z := ⟨_, rfl⟩
 have Z_hf := Lib.hid (show Rz 4 hf from eh ▸ num_s 1 2 (by decide) (by decide) (by decide))
 have Z_ea := Lib.hid (show Rz 158 ea from eea ▸ ex_rz (by omega))
 have Z_en := Lib.hid (show Rz 158 en from een ▸ ex_rz (by omega))
 have hx1 : hf * (ea + en) = hi := by rw [← ehi, ← eh, ← eea, ← een, hb1]; rfl
 obtain ⟨lo, elo⟩ : ∃ z, midE b0 = z := ⟨_, rfl⟩
 obtain ⟨ep, eep⟩ : ∃ z, ex b0 = z := ⟨_, rfl⟩
 have Z_ep := Lib.hid (show Rz 158 ep from eep ▸ ex_rz (by omega))
 have hx2 : hf * (ea + ep) = lo := by rw [← elo, ← eh, ← eea, ← eep, hb0, ← mid_back hp]
 rw [elo] at zl ml ⊢
 have Z_lo := Lib.hid zl; clear zl elo
 rw [ehi] at zm mp ml ⊢
 have Z_hi := Lib.hid zm; clear zm
 have HLE := Lib.hid (show (lo : Rat) ≤ hi by grind)
 have HX := Lib.hid (show hf * (ea + en) = hi ∧ hf * (ea + ep) = lo from ⟨hx1, hx2⟩); clear hx1 ehi mp
 have HC := Lib.hid (show (b : Int) < 9218868437227405312 ∧ b ≤ 9218868437227405312 ∧ b1 ≤ 9218868437227405312 ∧ IntKind.u64.wrap ((b : Int) + 1) = (b1 : Int) ∧ True from ⟨by omega, by omega, by omega, by rw [IntWalk.u64_in _ (by omega)]; omega, trivial⟩)
 have HP := Lib.hid (show 0 < b from by omega)
 have HQ := Lib.hid (show b0 ≤ 9218868437227405312 ∧ IntKind.u64.wrap ((b : Int) - 1) = (b0 : Int) from ⟨by omega, by rw [IntWalk.u64_in _ (by omega)]; omega⟩)
 have EP := Lib.hid eep; clear eep hx2 ml hb0
 have EH := Lib.hid eh; clear eh
 have EA := Lib.hid eea; clear eea
 have EN := Lib.hid een; clear een
 clear hb1 hb hp
 go_enter Tryz.func38, Tryz.ntmps38
 have HS : St w [] w := St.start
 go_upto_region 0 with fail
 refine rgT [] HS ?_
 refine aL6 ?_
 intro bk2 _ _ hbk2_r
 refine nZ ?_
 refine pW ?_
 refine d1 bk2 fun _ HS1=>?_
 clear HS
 go_upto_region 1 with fail
 refine rgT [] HS1 ?_
 refine pW ?_
 refine pV (.int .u64 0) (by intro w; go_simp <;> (first | (rw [HB.out.1]; done) | exact HB.out.1 | (simp [HB.out.1]; done) | (trace_state; done))) ?_
 iterate 2 refine pW ?_
 refine pV (.int .u64 (b : Int)) (by intro w; go_simp <;> (first | (rw [HB.out.2]; done) | exact HB.out.2 | (simp [HB.out.2]; done) | (trace_state; done))) ?_
 iterate 2 refine pW ?_
 refine dS fun _ HS2=>?_
 clear HS1
 go_upto_region 2 with fail
 refine rgT [] HS2 ?_
 refine pW ?_
 refine pV (.bool false) (by intro w; go_simp <;> (first | (rw [HC.out.1]; done) | (rw [HC.out.1]; done) | exact HC.out.1 | exact HC.out.1 | (simp [HC.out.1, HC.out.1]; done) | (trace_state; done))) ?_
 refine dS fun _ HS3=>?_
 clear HS2
 go_upto_region 4 with fail
 refine rgT [] HS3 ?_
 refine cX rfl rfl (make_q HT.out (by omega) (by omega) (by omega) (by omega) (by omega) EH.out) ?_
 refine pW ?_
 refine pV (.agg (RC hf)) (fun w => rfl) ?_
 refine pV (.int .i64 0) (fun w => rfl) ?_
 refine aL3 ?_
 intro bk6 _ _ hbk6_r
 refine nZ ?_
 refine sV (RC_one _) ?_
 refine pW ?_
 refine d1 bk6 fun _ HS4=>?_
 clear HS3
 go_upto_region 5 with fail
 refine rgT [] HS4 ?_
 refine pW ?_
 refine cL (exact_q HT.out HC.out.2.1 EA.out) ?_
 refine pW ?_
 refine pV (.int .u64 (b1 : Int)) (by intro w; go_simp <;> (first | (rw [HC.out.2.2.2.1]; done) | exact HC.out.2.2.2.1 | (simp [HC.out.2.2.2.1]; done) | (trace_state; done))) ?_
 refine cL (exact_q HT.out HC.out.2.2.1 EN.out) ?_
 refine aL3 ?_
 intro bk8 _ _ hbk8_r
 refine nZ ?_
 refine aL3 ?_
 intro bk9 _ _ hbk9_r
 obtain ⟨_, _, hbk9_r⟩ := Reg.ne2 hbk9_r
 refine nZ ?_
 refine sV (RC_one _) ?_
 refine sV (RC_one _) ?_
 refine Seq.done fun ws5 hws => ?_
 have HS5 : St w [(bk8, 27, RC ea), (bk9, 27, RC en), (bk6, 27, RC hf), (bk2, 32, #[.bool false, .string ⟨#[]⟩, .string ⟨#[]⟩, .bool false, .string ⟨#[]⟩, .string ⟨#[]⟩])] ws5 := hws.q2
 clear HS4 hws
 go_upto_region 6 with fail
 refine rgW [] HS5 ?_
 iterate 3 refine lV ?_
 refine cX rfl rfl (add_q (k := 158) HT.out (Z_ea.out.more (by omega)) (Z_en.out.more (by omega)) rfl (by omega)) ?_
 refine cX rfl rfl (mul_q (k := 633) HT.out (Z_hf.out.more (by omega)) ((Z_ea.out.add Z_en.out).more (by omega)) HX.out.1 (by omega)) ?_
 refine aL3 ?_
 intro bk10 _ _ hbk10_r
 refine nZ ?_
 refine sV (RC_one _) ?_
 refine d1 bk10 fun _ HS6=>?_
 clear HS5
 go_upto_region 7 with fail
 refine rgT [] HS6 ?_
 refine lV ?_
 refine cX rfl rfl (neg_q (k := 1000) HT.out (Z_hi.out.more (by omega)) rfl (by omega)) ?_
 refine aL3 ?_
 intro bk11 _ _ hbk11_r
 refine nZ ?_
 refine sV (RC_one _) ?_
 refine d1 bk11 fun _ HS7=>?_
 clear HS6
 go_upto_region 8 with fail
 refine rgT [] HS7 ?_
 refine pW ?_
 refine pV (.bool true) (by intro w; go_simp <;> (first | (rw [HP.out]; done) | exact HP.out | (simp [HP.out]; done) | (trace_state; done))) ?_
 refine dS fun _ HS8=>?_
 clear HS7
 go_upto_region 9 with fail
 refine wS [] (Reg.fin.put Reg.fin_no _ _) (StR.move (StR.no HS8)) ?_
 iterate 2 refine lV ?_
 refine pW ?_
 refine pV (.int .u64 (b0 : Int)) (by intro w; go_simp <;> (first | (rw [HQ.out.2]; done) | exact HQ.out.2 | (simp [HQ.out.2]; done) | (trace_state; done))) ?_
 refine cL (exact_q HT.out HQ.out.1 EP.out) ?_
 refine cX rfl rfl (add_q (k := 158) HT.out (Z_ea.out.more (by omega)) (Z_ep.out.more (by omega)) rfl (by omega)) ?_
 refine cX rfl rfl (mul_q (k := 633) HT.out (Z_hf.out.more (by omega)) ((Z_ea.out.add Z_ep.out).more (by omega)) HX.out.2 (by omega)) ?_
 refine sV (RC_one _) ?_
 refine d1 bk11 fun _ HS9=>?_
 clear HS8
 go_upto_region 10 with fail
 refine rgT [] HS9 ?_
 refine pW ?_
 refine dS fun _ HS10=>?_
 clear HS9
 go_upto_region 12 with fail
 refine rgT [] HS10 ?_
 iterate 2 refine lV ?_
 refine cX rfl rfl (smake_q (k := 1000) HT.out Z_lo.out Z_hi.out HLE.out rfl rfl (by omega)) ?_
 refine pW ?_
 refine pV (.agg (VC lo hi)) (fun w => rfl) ?_
 refine pV (.int .i64 0) (fun w => rfl) ?_
 refine aL6 ?_
 intro bk12 _ _ hbk12_r
 refine nZ ?_
 refine sV (VC_one _ _) ?_
 refine pW ?_
 refine d1 bk12 fun _ HS11=>?_
 clear HS10
 go_upto_region 13 with fail
 have HPbk2 := HS11.p6
 refine wp_seq_text [] (StR.move (StR.no HPbk2)) ?_
 refine lV ?_
 refine pW ?_
 refine sV (VC_one _ _) ?_
 refine pW ?_
 refine d1 bk2 fun _ HS12=>?_
 clear HS11 HPbk2
 go_wp2_with fail
 exact ret_own2 rfl rfl rfl rfl HS12 (by repeat first|exact mC|apply mT) (n := 6) rfl (by kernel_rfl) ⟨rfl, HS12.below⟩
theorem from_11 {bb b : Nat} (hT : Tab W) (hb1 : (bb : Int) / 9223372036854775808 = 1) (hb2 : bits BinOp.andNot IntKind.u64 (bb : Int) 9223372036854775808 = (b : Int)) (hb : b < 9218868437227405312) (hp : 0 < b) (w : World) (h : St W l w) :
  Calls Tryz.prog 38 #[.int .u64 (bb : Int)] w fun e w' => e = .returned (.tuple #[.agg (VC (-midE b) (-midE (b - 1))), .int .i64 0]) ∧ Below w.heap.size w w' := by
 have HT := Lib.hid (tabS hT h); clear hT h
 have HB := Lib.hid (And.intro hb1 hb2); clear hb1 hb2
 have mp := mid_pos b
 have zm := mid_rz hb
 have zl := mid_rz (show b - 1 < 9218868437227405312 by omega)
 have ml := mid_le (show b - 1 ≤ b by omega)
 obtain ⟨b0, hb0⟩ : ∃ b0 : Nat, b0 = b - 1 := ⟨_, rfl⟩
 rw [← hb0] at zl ml ⊢
 obtain ⟨b1, hb1⟩ : ∃ b1 : Nat, b1 = b + 1 := ⟨_, rfl⟩
 obtain ⟨hf, eh⟩ : ∃ z, ((1 : Int) : Rat) / ((2 : Int) : Rat) = z := ⟨_, rfl⟩
 obtain ⟨hi, ehi⟩ : ∃ z, midE b = z := ⟨_, rfl⟩
 obtain ⟨ea, eea⟩ : ∃ z, ex b = z := ⟨_, rfl⟩
 obtain ⟨en, een⟩ : ∃ z, ex b1 = z := ⟨_, rfl⟩
 have Z_hf := Lib.hid (show Rz 4 hf from eh ▸ num_s 1 2 (by decide) (by decide) (by decide))
 have Z_ea := Lib.hid (show Rz 158 ea from eea ▸ ex_rz (by omega))
 have Z_en := Lib.hid (show Rz 158 en from een ▸ ex_rz (by omega))
 have hx1 : hf * (ea + en) = hi := by rw [← ehi, ← eh, ← eea, ← een, hb1]; rfl
 obtain ⟨lo, elo⟩ : ∃ z, midE b0 = z := ⟨_, rfl⟩
 obtain ⟨ep, eep⟩ : ∃ z, ex b0 = z := ⟨_, rfl⟩
 have Z_ep := Lib.hid (show Rz 158 ep from eep ▸ ex_rz (by omega))
 have hx2 : hf * (ea + ep) = lo := by rw [← elo, ← eh, ← eea, ← eep, hb0, ← mid_back hp]
 rw [elo] at zl ml ⊢
 have Z_lo := Lib.hid zl; clear zl elo
 rw [ehi] at zm mp ml ⊢
 have Z_hi := Lib.hid zm; clear zm
 have HLE := Lib.hid (show (-hi : Rat) ≤ -lo by grind)
 have HX := Lib.hid (show hf * (ea + en) = hi ∧ hf * (ea + ep) = lo from ⟨hx1, hx2⟩); clear hx1 ehi mp
 have HC := Lib.hid (show (b : Int) < 9218868437227405312 ∧ b ≤ 9218868437227405312 ∧ b1 ≤ 9218868437227405312 ∧ IntKind.u64.wrap ((b : Int) + 1) = (b1 : Int) ∧ True from ⟨by omega, by omega, by omega, by rw [IntWalk.u64_in _ (by omega)]; omega, trivial⟩)
 have HP := Lib.hid (show 0 < b from by omega)
 have HQ := Lib.hid (show b0 ≤ 9218868437227405312 ∧ IntKind.u64.wrap ((b : Int) - 1) = (b0 : Int) from ⟨by omega, by rw [IntWalk.u64_in _ (by omega)]; omega⟩)
 have EP := Lib.hid eep; clear eep hx2 ml hb0
 have EH := Lib.hid eh; clear eh
 have EA := Lib.hid eea; clear eea
 have EN := Lib.hid een; clear een
 clear hb1 hb hp
 go_enter Tryz.func38, Tryz.ntmps38
 have HS : St w [] w := St.start
 go_upto_region 0 with fail
 refine rgT [] HS ?_
 refine aL6 ?_
 intro bk2 _ _ hbk2_r
 refine nZ ?_
 refine pW ?_
 refine d1 bk2 fun _ HS1=>?_
 clear HS
 go_upto_region 1 with fail
 refine rgT [] HS1 ?_
 refine pW ?_
 refine pV (.int .u64 1) (by intro w; go_simp <;> (first | (rw [HB.out.1]; done) | exact HB.out.1 | (simp [HB.out.1]; done) | (trace_state; done))) ?_
 iterate 2 refine pW ?_
 refine pV (.int .u64 (b : Int)) (by intro w; go_simp <;> (first | (rw [HB.out.2]; done) | exact HB.out.2 | (simp [HB.out.2]; done) | (trace_state; done))) ?_
 iterate 2 refine pW ?_
 refine dS fun _ HS2=>?_
 clear HS1
 go_upto_region 2 with fail
 refine rgT [] HS2 ?_
 refine pW ?_
 refine pV (.bool false) (by intro w; go_simp <;> (first | (rw [HC.out.1]; done) | (rw [HC.out.1]; done) | exact HC.out.1 | exact HC.out.1 | (simp [HC.out.1, HC.out.1]; done) | (trace_state; done))) ?_
 refine dS fun _ HS3=>?_
 clear HS2
 go_upto_region 4 with fail
 refine rgT [] HS3 ?_
 refine cX rfl rfl (make_q HT.out (by omega) (by omega) (by omega) (by omega) (by omega) EH.out) ?_
 refine pW ?_
 refine pV (.agg (RC hf)) (fun w => rfl) ?_
 refine pV (.int .i64 0) (fun w => rfl) ?_
 refine aL3 ?_
 intro bk6 _ _ hbk6_r
 refine nZ ?_
 refine sV (RC_one _) ?_
 refine pW ?_
 refine d1 bk6 fun _ HS4=>?_
 clear HS3
 go_upto_region 5 with fail
 refine rgT [] HS4 ?_
 refine pW ?_
 refine cL (exact_q HT.out HC.out.2.1 EA.out) ?_
 refine pW ?_
 refine pV (.int .u64 (b1 : Int)) (by intro w; go_simp <;> (first | (rw [HC.out.2.2.2.1]; done) | exact HC.out.2.2.2.1 | (simp [HC.out.2.2.2.1]; done) | (trace_state; done))) ?_
 refine cL (exact_q HT.out HC.out.2.2.1 EN.out) ?_
 refine aL3 ?_
 intro bk8 _ _ hbk8_r
 refine nZ ?_
 refine aL3 ?_
 intro bk9 _ _ hbk9_r
 obtain ⟨_, _, hbk9_r⟩ := Reg.ne2 hbk9_r
 refine nZ ?_
 refine sV (RC_one _) ?_
 refine sV (RC_one _) ?_
 refine Seq.done fun ws5 hws => ?_
 have HS5 : St w [(bk8, 27, RC ea), (bk9, 27, RC en), (bk6, 27, RC hf), (bk2, 32, #[.bool false, .string ⟨#[]⟩, .string ⟨#[]⟩, .bool false, .string ⟨#[]⟩, .string ⟨#[]⟩])] ws5 := hws.q2
 clear HS4 hws
 go_upto_region 6 with fail
 refine rgW [] HS5 ?_
 iterate 3 refine lV ?_
 refine cX rfl rfl (add_q (k := 158) HT.out (Z_ea.out.more (by omega)) (Z_en.out.more (by omega)) rfl (by omega)) ?_
 refine cX rfl rfl (mul_q (k := 633) HT.out (Z_hf.out.more (by omega)) ((Z_ea.out.add Z_en.out).more (by omega)) HX.out.1 (by omega)) ?_
 refine aL3 ?_
 intro bk10 _ _ hbk10_r
 refine nZ ?_
 refine sV (RC_one _) ?_
 refine d1 bk10 fun _ HS6=>?_
 clear HS5
 go_upto_region 7 with fail
 refine rgT [] HS6 ?_
 refine lV ?_
 refine cX rfl rfl (neg_q (k := 1000) HT.out (Z_hi.out.more (by omega)) rfl (by omega)) ?_
 refine aL3 ?_
 intro bk11 _ _ hbk11_r
 refine nZ ?_
 refine sV (RC_one _) ?_
 refine d1 bk11 fun _ HS7=>?_
 clear HS6
 go_upto_region 8 with fail
 refine rgT [] HS7 ?_
 refine pW ?_
 refine pV (.bool true) (by intro w; go_simp <;> (first | (rw [HP.out]; done) | exact HP.out | (simp [HP.out]; done) | (trace_state; done))) ?_
 refine dS fun _ HS8=>?_
 clear HS7
 go_upto_region 9 with fail
 refine wS [] (Reg.fin.put Reg.fin_no _ _) (StR.move (StR.no HS8)) ?_
 iterate 2 refine lV ?_
 refine pW ?_
 refine pV (.int .u64 (b0 : Int)) (by intro w; go_simp <;> (first | (rw [HQ.out.2]; done) | exact HQ.out.2 | (simp [HQ.out.2]; done) | (trace_state; done))) ?_
 refine cL (exact_q HT.out HQ.out.1 EP.out) ?_
 refine cX rfl rfl (add_q (k := 158) HT.out (Z_ea.out.more (by omega)) (Z_ep.out.more (by omega)) rfl (by omega)) ?_
 refine cX rfl rfl (mul_q (k := 633) HT.out (Z_hf.out.more (by omega)) ((Z_ea.out.add Z_ep.out).more (by omega)) HX.out.2 (by omega)) ?_
 refine sV (RC_one _) ?_
 refine d1 bk11 fun _ HS9=>?_
 clear HS8
 go_upto_region 10 with fail
 refine rgT [] HS9 ?_
 refine pW ?_
 refine dS fun _ HS10=>?_
 clear HS9
 go_upto_region 11 with fail
 have HPbk10 := HS10.p1
 have HPbk11 := HPbk10.p1
 have ne_bk11_bk10 : bk11 ≠ bk10 := (List.pairwise_cons.1 HPbk11.apart).1 _ List.mem_cons_self
 have ne_bk10_bk11 := Ne.symm ne_bk11_bk10
 refine wS [0, 4] (Reg.fin.put (Reg.fin.put Reg.fin_no _ _) _ _) (StR.move (StR.move (StR.no HPbk11))) ?_
 refine gV ?_
 refine cX rfl rfl (neg_q (k := 1000) HT.out (Z_hi.out.more (by omega)) rfl (by omega)) ?_
 refine gV ?_
 refine cX rfl rfl (neg_q (k := 1000) HT.out (Z_lo.out.more (by omega)) rfl (by omega)) ?_
 refine sV (RC_one _) ?_
 refine sV (RC_one _) ?_
 refine Seq.done fun ws11 hws => ?_
 have HS11 : St w [(bk11, 27, RC (-hi)), (bk10, 27, RC (-lo)), (bk8, 27, RC ea), (bk9, 27, RC en), (bk6, 27, RC hf), (bk2, 32, #[.bool false, .string ⟨#[]⟩, .string ⟨#[]⟩, .bool false, .string ⟨#[]⟩, .string ⟨#[]⟩])] ws11 := hws.q2
 clear HS10 hws HPbk10 HPbk11
 go_upto_region 12 with fail
 refine rgT [] HS11 ?_
 iterate 2 refine lV ?_
 refine cX rfl rfl (smake_q (k := 1000) HT.out Z_hi.out.neg Z_lo.out.neg HLE.out rfl rfl (by omega)) ?_
 refine pW ?_
 refine pV (.agg (VC (-hi) (-lo))) (fun w => rfl) ?_
 refine pV (.int .i64 0) (fun w => rfl) ?_
 refine aL6 ?_
 intro bk12 _ _ hbk12_r
 refine nZ ?_
 refine sV (VC_one _ _) ?_
 refine pW ?_
 refine d1 bk12 fun _ HS12=>?_
 clear HS11
 go_upto_region 13 with fail
 have HPbk2 := HS12.p6
 refine wp_seq_text [] (StR.move (StR.no HPbk2)) ?_
 refine lV ?_
 refine pW ?_
 refine sV (VC_one _ _) ?_
 refine pW ?_
 refine d1 bk2 fun _ HS13=>?_
 clear HS12 HPbk2
 go_wp2_with fail
 exact ret_own2 rfl rfl rfl rfl HS13 (by repeat first|exact mC|apply mT) (n := 6) rfl (by kernel_rfl) ⟨rfl, HS13.below⟩
def frL (n : Bool) (b : Nat) : Rat := if n = true then -midE b else if b = 0 then -midE b else midE (b - 1)
def frH (n : Bool) (b : Nat) : Rat := if n = true then (if b = 0 then midE b else -midE (b - 1)) else midE b
theorem from_q {n : Bool} {bb b : Nat} {z0 z1 : Rat} (hT : Tab W) (hbb : bb = (if n = true then 9223372036854775808 else 0) + b) (hb : b < 9218868437227405312) (hz0 : frL n b = z0) (hz1 : frH n b = z1) (w : World) (h : St W l w) :
  Calls Tryz.prog 38 #[.int .u64 (bb : Int)] w fun e w' => e = .returned (.tuple #[.agg (VC z0 z1), .int .i64 0]) ∧ Below w.heap.size w w' := by
 subst hz0 hz1
 unfold frL frH
 cases n
 ·simp only [Bool.false_eq_true, if_false] at hbb ⊢
  have h2 : bits BinOp.andNot IntKind.u64 (bb : Int) 9223372036854775808 = (b : Int) := by rw [andNot_top bb (by omega)]; omega
  by_cases h0 : b = 0
  ·rw [if_pos h0]; exact from_00 hT (by omega) h2 hb h0 w h
  ·rw [if_neg h0]; exact from_10 hT (by omega) h2 hb (by omega) w h
 ·simp only [if_true] at hbb ⊢
  have h2 : bits BinOp.andNot IntKind.u64 (bb : Int) 9223372036854775808 = (b : Int) := by rw [andNot_top bb (by omega)]; omega
  by_cases h0 : b = 0
  ·rw [if_pos h0]; exact from_01 hT (by omega) h2 hb h0 w h
  ·rw [if_neg h0]; exact from_11 hT (by omega) h2 hb (by omega) w h
end Go.Proofs.YtmchjmflkaiakaaGreatDoor
