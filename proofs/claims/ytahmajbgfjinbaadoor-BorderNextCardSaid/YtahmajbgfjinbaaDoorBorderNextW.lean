/- Joined texts. -/
import Derived.Test.YtahmajbgfjinbaaDoorBo6

/- The walk of BorderNext (printed by lawvec.py). -/
namespace Go.Proofs.YtahmajbgfjinbaaDoor
open Go.RowKit
set_option linter.unusedVariables false
set_option linter.unusedSimpArgs false

theorem and_2047 (q : Nat) (hq : q < 18446744073709551616) : bits BinOp.and IntKind.u64 (q : Int) 2047 = ((q % 2048 : Nat) : Int) := by
  have h := bits_and_u64_nat q 2047 hq (by omega)
  have e : q &&& 2047 = q % 2048 := Nat.and_two_pow_sub_one_eq_mod q 11
  rw [e] at h; exact h
theorem or_again : bits BinOp.or IntKind.u64 9223372036854775809 9223372036854775808 = 9223372036854775809 := by decide +kernel
set_option maxHeartbeats 4000000 in
set_option maxRecDepth 20000 in
theorem bn_inf0 {bb b : Nat} (w : World) (hT : Tab w) (hbb : bb = (if false = true then 9223372036854775808 else 0) + b) (hb : 9218868437227405312 ≤ b) (hb2 : b < 9223372036854775808) :
    Calls Tryd.prog 11 #[.int .u64 (bb : Int)] w fun e w' => e = .returned (.bool true) ∧ Below w.heap.size w w' := by
  have hbn : bb = 0 + b := hbb
  obtain ⟨q, hq⟩ : ∃ q : Nat, bb / 4503599627370496 = q := ⟨_, rfl⟩
  obtain ⟨c, hc⟩ : ∃ c : Nat, q % 2048 = c := ⟨_, rfl⟩
  have HQ := Lib.hid (show (bb : Int) / 4503599627370496 = (q : Int) ∧ bits BinOp.and IntKind.u64 (q : Int) 2047 = (c : Int) ∧ (c : Int) = 2047 from ⟨by omega, by rw [and_2047 q (by omega), hc], by omega⟩)
  clear hq hc
  have HT := Lib.hid hT; clear hT
  have HB := Lib.hid (And.intro hbb (And.intro hb (And.intro hb2 trivial))); clear hbb hbn hb hb2
  go_enter Tryd.func11, Tryd.ntmps11
  have HS : St w [] w := St.start
  go_upto_region 0 with (fail)
  refine wp_seq_text [] (StR.no HS) ?_
  refine Seq.pure rfl rfl (by intro w; go_simp; try first | with_reducible rfl | rfl) ?_
  simp only [Act.put, List.setIfInBounds_toArray, List.set_cons_zero, List.set_cons_succ]
  refine Seq.done fun ws1 hws => ?_
  have HS1 := hws.st
  clear HS hws
  go_upto_region 1 with (fail)
  refine wp_seq_text [] (StR.no HS1) ?_
  refine Seq.call rfl rfl rfl rfl (by kernel_rfl) (bbegun_q HT.out) ?_
  simp only [Act.put, List.setIfInBounds_toArray, List.set_cons_zero, List.set_cons_succ]
  refine Seq.pure rfl rfl (by intro w; go_simp; try first | with_reducible rfl | rfl) ?_
  simp only [Act.put, List.setIfInBounds_toArray, List.set_cons_zero, List.set_cons_succ]
  refine Seq.done fun ws2 hws => ?_
  have HS2 := hws.st
  clear HS1 hws
  go_upto_region 3 with (fail)
  refine wp_seq_text [] (StR.no HS2) ?_
  refine Seq.pure rfl rfl (by intro w; go_simp; try first | with_reducible rfl | rfl) ?_
  simp only [Act.put, List.setIfInBounds_toArray, List.set_cons_zero, List.set_cons_succ]
  refine Seq.call rfl rfl rfl rfl (by kernel_rfl) (from_n (n := false) HB.out.1 HB.out.2.1 HB.out.2.2.1) ?_
  simp only [Act.put, List.setIfInBounds_toArray, List.set_cons_zero, List.set_cons_succ]
  refine Seq.pure rfl rfl (by intro w; go_simp; try first | with_reducible rfl | rfl) ?_
  simp only [Act.put, List.setIfInBounds_toArray, List.set_cons_zero, List.set_cons_succ]
  refine Seq.pure (v := .agg (#[.bool false, .string ⟨#[]⟩, .string ⟨#[]⟩, .bool false, .string ⟨#[]⟩, .string ⟨#[]⟩])) rfl rfl (fun w => rfl) ?_
  simp only [Act.put, List.setIfInBounds_toArray, List.set_cons_zero, List.set_cons_succ]
  refine Seq.pure (v := .int .i64 3) rfl rfl (fun w => rfl) ?_
  simp only [Act.put, List.setIfInBounds_toArray, List.set_cons_zero, List.set_cons_succ]
  refine Seq.alloc rfl rfl rfl (z := .agg #[.bool false, .string ⟨#[]⟩, .string ⟨#[]⟩, .bool false, .string ⟨#[]⟩, .string ⟨#[]⟩]) (by kernel_rfl) rfl ?_
  intro bk3 _ _ hbk3_r
  simp only [Act.put, List.setIfInBounds_toArray, List.set_cons_zero, List.set_cons_succ]
  refine Seq.store rfl rfl rfl rfl rfl (by first | exact rS | exact rN (by assumption) (rS) | exact rN (by assumption) (rN (by assumption) (rS)) | exact rN (by assumption) (rN (by assumption) (rN (by assumption) (rS))) | exact rN (by assumption) (rN (by assumption) (rN (by assumption) (rN (by assumption) (rS))))) (n := 6) rfl rfl (by kernel_rfl) (by intro u hu; simp at hu; rcases hu with rfl | rfl | rfl | rfl | rfl | rfl <;> rfl) ?_
  simp only [Act.put, List.setIfInBounds_toArray, List.set_cons_zero, List.set_cons_succ]
  refine Seq.pure rfl rfl (by intro w; go_simp; try first | with_reducible rfl | rfl) ?_
  simp only [Act.put, List.setIfInBounds_toArray, List.set_cons_zero, List.set_cons_succ]
  refine Seq.done fun ws3 hws => ?_
  have HS3 : St w [(bk3, 46, #[.bool false, .string ⟨#[]⟩, .string ⟨#[]⟩, .bool false, .string ⟨#[]⟩, .string ⟨#[]⟩])] ws3 := hws.list1 (by first | exact rS | exact rN (by assumption) (rS) | exact rN (by assumption) (rN (by assumption) (rS)) | exact rN (by assumption) (rN (by assumption) (rN (by assumption) (rS))) | exact rN (by assumption) (rN (by assumption) (rN (by assumption) (rN (by assumption) (rS)))))
  clear HS2 hws
  go_upto_region 4 with (fail)
  refine wp_seq_text [] (StR.no HS3) ?_
  refine Seq.pure rfl rfl (by intro w; go_simp; try first | with_reducible rfl | rfl) ?_
  simp only [Act.put, List.setIfInBounds_toArray, List.set_cons_zero, List.set_cons_succ]
  refine Seq.pure (v := .int .u64 (q : Int)) rfl rfl (by intro w; go_simp <;> (first | (rw [HQ.out.1]; done) | exact HQ.out.1 | (simp [HQ.out.1]; done) | (trace_state; done))) ?_
  simp only [Act.put, List.setIfInBounds_toArray, List.set_cons_zero, List.set_cons_succ]
  refine Seq.pure (v := .int .u64 (c : Int)) rfl rfl (by intro w; go_simp <;> (first | (rw [HQ.out.2.1]; done) | exact HQ.out.2.1 | (simp [HQ.out.2.1]; done) | (trace_state; done))) ?_
  simp only [Act.put, List.setIfInBounds_toArray, List.set_cons_zero, List.set_cons_succ]
  refine Seq.pure (v := .bool true) rfl rfl (by intro w; go_simp <;> (first | (rw [HQ.out.2.2]; done) | (rw [HQ.out.2.2]; done) | exact HQ.out.2.2 | exact HQ.out.2.2 | (simp [HQ.out.2.2, HQ.out.2.2]; done) | (trace_state; done))) ?_
  simp only [Act.put, List.setIfInBounds_toArray, List.set_cons_zero, List.set_cons_succ]
  refine Seq.done fun ws4 hws => ?_
  have HS4 := hws.st
  clear HS3 hws
  go_upto_region 5 with (fail)
  refine wp_seq_text [] (StR.no HS4) ?_
  refine Seq.pure rfl rfl (by intro w; go_simp; try first | with_reducible rfl | rfl) ?_
  simp only [Act.put, List.setIfInBounds_toArray, List.set_cons_zero, List.set_cons_succ]
  refine Seq.pure rfl rfl (by intro w; go_simp; try first | with_reducible rfl | rfl) ?_
  simp only [Act.put, List.setIfInBounds_toArray, List.set_cons_zero, List.set_cons_succ]
  refine Seq.pure rfl rfl (by intro w; go_simp; try first | with_reducible rfl | rfl) ?_
  simp only [Act.put, List.setIfInBounds_toArray, List.set_cons_zero, List.set_cons_succ]
  refine Seq.done fun ws5 hws => ?_
  have HS5 := hws.st
  clear HS4 hws
  go_wp2_with fail
  go_ret
  exact ⟨rfl, HS5.below⟩
set_option maxHeartbeats 4000000 in
set_option maxRecDepth 20000 in
theorem bn_top0 {bb b : Nat} (w : World) (hT : Tab w) (hbb : bb = (if false = true then 9223372036854775808 else 0) + b) (hb : b = 9218868437227405311) :
    Calls Tryd.prog 11 #[.int .u64 (bb : Int)] w fun e w' => e = .returned (.bool true) ∧ Below w.heap.size w w' := by
  have hbn : bb = 0 + b := hbb
  obtain ⟨q, hq⟩ : ∃ q : Nat, bb / 4503599627370496 = q := ⟨_, rfl⟩
  obtain ⟨c, hc⟩ : ∃ c : Nat, q % 2048 = c := ⟨_, rfl⟩
  have HQ := Lib.hid (show (bb : Int) / 4503599627370496 = (q : Int) ∧ bits BinOp.and IntKind.u64 (q : Int) 2047 = (c : Int) ∧ ¬ (c : Int) = 2047 from ⟨by omega, by rw [and_2047 q (by omega), hc], by omega⟩)
  clear hq hc
  have HT := Lib.hid hT; clear hT
  have h0 : ¬ b = 0 := by omega
  obtain ⟨lo, elo⟩ : ∃ z, frL false b = z := ⟨_, rfl⟩
  obtain ⟨hi, ehi⟩ : ∃ z, frH false b = z := ⟨_, rfl⟩
  have hl : lo = midE (b - 1) := by rw [← elo]; unfold frL; rw [if_neg (by decide), if_neg h0]
  have hh : hi = midE b := by rw [← ehi]; unfold frH; rw [if_neg (by decide)]
  have HF := Lib.hid (And.intro elo ehi); clear elo ehi
  have zm := mid_rz (show b < 9218868437227405312 by omega)
  have zp := mid_rz (show b - 1 < 9218868437227405312 by omega)
  have mp := mid_pos b
  have mq := mid_pos (b - 1)
  have ml := mid_le (show b - 1 ≤ b by omega)
  have Z_lo := Lib.hid (show Rz 1000 lo by rw [hl]; exact zp)
  have Z_hi := Lib.hid (show Rz 1000 hi by rw [hh]; exact zm)
  have HLE := Lib.hid (show lo ≤ hi by rw [hl, hh]; grind)
  have HE := Lib.hid (show (b : Int) = 9218868437227405311 from by omega)
  have HB := Lib.hid (show bb = (if false = true then 9223372036854775808 else 0) + b ∧ b < 9218868437227405312 ∧ bits BinOp.andNot IntKind.u64 (bb : Int) 9223372036854775808 = (b : Int) ∧ True from ⟨hbb, by omega, by rw [andNot_top bb (by omega)]; omega, trivial⟩)
  have mt := mid_large
  have hb9 : b = 9218868437227405311 := hb
  rw [← hb9] at mt
  have HM := Lib.hid (show -ex 9218868437227405311 ≤ lo ∧ ex 9218868437227405311 < hi by rw [← hb9, hl, hh]; exact ⟨by have := ex_nonneg b; grind, mt⟩)
  clear mt hb9
  clear zm zp mp mq ml hbb hbn h0 hl hh hb
  go_enter Tryd.func11, Tryd.ntmps11
  have HS : St w [] w := St.start
  go_upto_region 0 with (fail)
  refine wp_seq_text [] (StR.no HS) ?_
  refine Seq.pure rfl rfl (by intro w; go_simp; try first | with_reducible rfl | rfl) ?_
  simp only [Act.put, List.setIfInBounds_toArray, List.set_cons_zero, List.set_cons_succ]
  refine Seq.done fun ws1 hws => ?_
  have HS1 := hws.st
  clear HS hws
  go_upto_region 1 with (fail)
  refine wp_seq_text [] (StR.no HS1) ?_
  refine Seq.call rfl rfl rfl rfl (by kernel_rfl) (bbegun_q HT.out) ?_
  simp only [Act.put, List.setIfInBounds_toArray, List.set_cons_zero, List.set_cons_succ]
  refine Seq.pure rfl rfl (by intro w; go_simp; try first | with_reducible rfl | rfl) ?_
  simp only [Act.put, List.setIfInBounds_toArray, List.set_cons_zero, List.set_cons_succ]
  refine Seq.done fun ws2 hws => ?_
  have HS2 := hws.st
  clear HS1 hws
  go_upto_region 3 with (fail)
  refine wp_seq_text [] (StR.no HS2) ?_
  refine Seq.pure rfl rfl (by intro w; go_simp; try first | with_reducible rfl | rfl) ?_
  simp only [Act.put, List.setIfInBounds_toArray, List.set_cons_zero, List.set_cons_succ]
  refine Seq.call rfl rfl rfl rfl (by kernel_rfl) (from_q (n := false) HT.out HB.out.1 HB.out.2.1 HF.out.1 HF.out.2) ?_
  simp only [Act.put, List.setIfInBounds_toArray, List.set_cons_zero, List.set_cons_succ]
  refine Seq.pure rfl rfl (by intro w; go_simp; try first | with_reducible rfl | rfl) ?_
  simp only [Act.put, List.setIfInBounds_toArray, List.set_cons_zero, List.set_cons_succ]
  refine Seq.pure (v := .agg (VC lo hi)) rfl rfl (fun w => rfl) ?_
  simp only [Act.put, List.setIfInBounds_toArray, List.set_cons_zero, List.set_cons_succ]
  refine Seq.pure (v := .int .i64 0) rfl rfl (fun w => rfl) ?_
  simp only [Act.put, List.setIfInBounds_toArray, List.set_cons_zero, List.set_cons_succ]
  refine Seq.alloc rfl rfl rfl (z := .agg #[.bool false, .string ⟨#[]⟩, .string ⟨#[]⟩, .bool false, .string ⟨#[]⟩, .string ⟨#[]⟩]) (by kernel_rfl) rfl ?_
  intro bk3 _ _ hbk3_r
  simp only [Act.put, List.setIfInBounds_toArray, List.set_cons_zero, List.set_cons_succ]
  refine Seq.store rfl rfl rfl rfl rfl (by first | exact rS | exact rN (by assumption) (rS) | exact rN (by assumption) (rN (by assumption) (rS)) | exact rN (by assumption) (rN (by assumption) (rN (by assumption) (rS))) | exact rN (by assumption) (rN (by assumption) (rN (by assumption) (rN (by assumption) (rS))))) (n := 6) rfl rfl (by kernel_rfl) (VC_one _ _) ?_
  simp only [Act.put, List.setIfInBounds_toArray, List.set_cons_zero, List.set_cons_succ]
  refine Seq.pure rfl rfl (by intro w; go_simp; try first | with_reducible rfl | rfl) ?_
  simp only [Act.put, List.setIfInBounds_toArray, List.set_cons_zero, List.set_cons_succ]
  refine Seq.done fun ws3 hws => ?_
  have HS3 : St w [(bk3, 46, VC lo hi)] ws3 := hws.list1 (by first | exact rS | exact rN (by assumption) (rS) | exact rN (by assumption) (rN (by assumption) (rS)) | exact rN (by assumption) (rN (by assumption) (rN (by assumption) (rS))) | exact rN (by assumption) (rN (by assumption) (rN (by assumption) (rN (by assumption) (rS)))))
  clear HS2 hws
  go_upto_region 4 with (fail)
  refine wp_seq_text [] (StR.no HS3) ?_
  refine Seq.pure rfl rfl (by intro w; go_simp; try first | with_reducible rfl | rfl) ?_
  simp only [Act.put, List.setIfInBounds_toArray, List.set_cons_zero, List.set_cons_succ]
  refine Seq.pure (v := .int .u64 (q : Int)) rfl rfl (by intro w; go_simp <;> (first | (rw [HQ.out.1]; done) | exact HQ.out.1 | (simp [HQ.out.1]; done) | (trace_state; done))) ?_
  simp only [Act.put, List.setIfInBounds_toArray, List.set_cons_zero, List.set_cons_succ]
  refine Seq.pure (v := .int .u64 (c : Int)) rfl rfl (by intro w; go_simp <;> (first | (rw [HQ.out.2.1]; done) | exact HQ.out.2.1 | (simp [HQ.out.2.1]; done) | (trace_state; done))) ?_
  simp only [Act.put, List.setIfInBounds_toArray, List.set_cons_zero, List.set_cons_succ]
  refine Seq.pure (v := .bool false) rfl rfl (by intro w; go_simp <;> (first | (rw [HQ.out.2.2]; done) | (rw [HQ.out.2.2]; done) | exact HQ.out.2.2 | exact HQ.out.2.2 | (simp [HQ.out.2.2, HQ.out.2.2]; done) | (trace_state; done))) ?_
  simp only [Act.put, List.setIfInBounds_toArray, List.set_cons_zero, List.set_cons_succ]
  refine Seq.done fun ws4 hws => ?_
  have HS4 := hws.st
  clear HS3 hws
  go_upto_region 6 with (fail)
  refine wp_seq_text [] (StR.no HS4) ?_
  refine Seq.load rfl rfl rfl rfl (by repeat (first | exact mC | apply mT)) (n := 6) rfl (by kernel_rfl) ?_
  simp only [Act.put, List.setIfInBounds_toArray, List.set_cons_zero, List.set_cons_succ]
  refine Seq.call rfl rfl rfl rfl (by kernel_rfl) (to_eh HT.out Z_lo.out Z_hi.out HLE.out HM.out.1 HM.out.2) ?_
  simp only [Act.put, List.setIfInBounds_toArray, List.set_cons_zero, List.set_cons_succ]
  refine Seq.pure rfl rfl (by intro w; go_simp; try first | with_reducible rfl | rfl) ?_
  simp only [Act.put, List.setIfInBounds_toArray, List.set_cons_zero, List.set_cons_succ]
  refine Seq.pure (v := .int .u64 (0 : Int)) rfl rfl (fun w => rfl) ?_
  simp only [Act.put, List.setIfInBounds_toArray, List.set_cons_zero, List.set_cons_succ]
  refine Seq.pure (v := .int .u64 (0 : Int)) rfl rfl (fun w => rfl) ?_
  simp only [Act.put, List.setIfInBounds_toArray, List.set_cons_zero, List.set_cons_succ]
  refine Seq.pure (v := .int .i64 2) rfl rfl (fun w => rfl) ?_
  simp only [Act.put, List.setIfInBounds_toArray, List.set_cons_zero, List.set_cons_succ]
  refine Seq.pure rfl rfl (by intro w; go_simp; try first | with_reducible rfl | rfl) ?_
  simp only [Act.put, List.setIfInBounds_toArray, List.set_cons_zero, List.set_cons_succ]
  refine Seq.pure rfl rfl (by intro w; go_simp; try first | with_reducible rfl | rfl) ?_
  simp only [Act.put, List.setIfInBounds_toArray, List.set_cons_zero, List.set_cons_succ]
  refine Seq.pure rfl rfl (by intro w; go_simp; try first | with_reducible rfl | rfl) ?_
  simp only [Act.put, List.setIfInBounds_toArray, List.set_cons_zero, List.set_cons_succ]
  refine Seq.done fun ws5 hws => ?_
  have HS5 := hws.st
  clear HS4 hws
  go_upto_region 7 with (fail)
  refine wp_seq_text [] (StR.no HS5) ?_
  refine Seq.pure rfl rfl (by intro w; go_simp; try first | with_reducible rfl | rfl) ?_
  simp only [Act.put, List.setIfInBounds_toArray, List.set_cons_zero, List.set_cons_succ]
  refine Seq.pure (v := .int .u64 (b : Int)) rfl rfl (by intro w; go_simp <;> (first | (rw [HB.out.2.2.1]; done) | exact HB.out.2.2.1 | (simp [HB.out.2.2.1]; done) | (trace_state; done))) ?_
  simp only [Act.put, List.setIfInBounds_toArray, List.set_cons_zero, List.set_cons_succ]
  refine Seq.pure rfl rfl (by intro w; go_simp; try first | with_reducible rfl | rfl) ?_
  simp only [Act.put, List.setIfInBounds_toArray, List.set_cons_zero, List.set_cons_succ]
  refine Seq.done fun ws6 hws => ?_
  have HS6 := hws.st
  clear HS5 hws
  go_upto_region 8 with (fail)
  refine wp_seq_text [] (StR.no HS6) ?_
  refine Seq.pure rfl rfl (by intro w; go_simp; try first | with_reducible rfl | rfl) ?_
  simp only [Act.put, List.setIfInBounds_toArray, List.set_cons_zero, List.set_cons_succ]
  refine Seq.pure (v := .bool true) rfl rfl (by intro w; go_simp <;> (first | (rw [HE.out]; done) | (rw [HE.out]; done) | exact HE.out | exact HE.out | (simp [HE.out, HE.out]; done) | (trace_state; done))) ?_
  simp only [Act.put, List.setIfInBounds_toArray, List.set_cons_zero, List.set_cons_succ]
  refine Seq.done fun ws7 hws => ?_
  have HS7 := hws.st
  clear HS6 hws
  go_upto_region 9 with (fail)
  refine wp_seq_text [] (StR.no HS7) ?_
  refine Seq.pure rfl rfl (by intro w; go_simp; try first | with_reducible rfl | rfl) ?_
  simp only [Act.put, List.setIfInBounds_toArray, List.set_cons_zero, List.set_cons_succ]
  refine Seq.pure rfl rfl (by intro w; go_simp; try first | with_reducible rfl | rfl) ?_
  simp only [Act.put, List.setIfInBounds_toArray, List.set_cons_zero, List.set_cons_succ]
  refine Seq.pure rfl rfl (by intro w; go_simp; try first | with_reducible rfl | rfl) ?_
  simp only [Act.put, List.setIfInBounds_toArray, List.set_cons_zero, List.set_cons_succ]
  refine Seq.pure rfl rfl (by intro w; go_simp; try first | with_reducible rfl | rfl) ?_
  simp only [Act.put, List.setIfInBounds_toArray, List.set_cons_zero, List.set_cons_succ]
  refine Seq.pure rfl rfl (by intro w; go_simp; try first | with_reducible rfl | rfl) ?_
  simp only [Act.put, List.setIfInBounds_toArray, List.set_cons_zero, List.set_cons_succ]
  refine Seq.pure rfl rfl (by intro w; go_simp; try first | with_reducible rfl | rfl) ?_
  simp only [Act.put, List.setIfInBounds_toArray, List.set_cons_zero, List.set_cons_succ]
  refine Seq.pure rfl rfl (by intro w; go_simp; try first | with_reducible rfl | rfl) ?_
  simp only [Act.put, List.setIfInBounds_toArray, List.set_cons_zero, List.set_cons_succ]
  refine Seq.done fun ws8 hws => ?_
  have HS8 := hws.st
  clear HS7 hws
  go_wp2_with fail
  go_ret
  exact ⟨rfl, HS8.below⟩
set_option maxHeartbeats 4000000 in
set_option maxRecDepth 20000 in
theorem bn_zero0 {bb b : Nat} (w : World) (hT : Tab w) (hbb : bb = (if false = true then 9223372036854775808 else 0) + b) (hb : b = 0) :
    Calls Tryd.prog 11 #[.int .u64 (bb : Int)] w fun e w' => e = .returned (.bool true) ∧ Below w.heap.size w w' := by
  have hbn : bb = 0 + b := hbb
  obtain ⟨q, hq⟩ : ∃ q : Nat, bb / 4503599627370496 = q := ⟨_, rfl⟩
  obtain ⟨c, hc⟩ : ∃ c : Nat, q % 2048 = c := ⟨_, rfl⟩
  have HQ := Lib.hid (show (bb : Int) / 4503599627370496 = (q : Int) ∧ bits BinOp.and IntKind.u64 (q : Int) 2047 = (c : Int) ∧ ¬ (c : Int) = 2047 from ⟨by omega, by rw [and_2047 q (by omega), hc], by omega⟩)
  clear hq hc
  have HT := Lib.hid hT; clear hT
  have h0 : b = 0 := by omega
  obtain ⟨lo, elo⟩ : ∃ z, frL false b = z := ⟨_, rfl⟩
  obtain ⟨hi, ehi⟩ : ∃ z, frH false b = z := ⟨_, rfl⟩
  have hl : lo = -midE b := by rw [← elo]; unfold frL; rw [if_neg (by decide), if_pos h0]
  have hh : hi = midE b := by rw [← ehi]; unfold frH; rw [if_neg (by decide)]
  have HF := Lib.hid (And.intro elo ehi); clear elo ehi
  have zm := mid_rz (show b < 9218868437227405312 by omega)
  have zp := mid_rz (show b - 1 < 9218868437227405312 by omega)
  have mp := mid_pos b
  have mq := mid_pos (b - 1)
  have ml := mid_le (show b - 1 ≤ b by omega)
  have Z_lo := Lib.hid (show Rz 1000 lo by rw [hl]; exact zm.neg)
  have Z_hi := Lib.hid (show Rz 1000 hi by rw [hh]; exact zm)
  have HLE := Lib.hid (show lo ≤ hi by rw [hl, hh]; grind)
  have HE := Lib.hid (show ¬ (b : Int) = 9218868437227405311 from by omega)
  have HB := Lib.hid (show bb = (if false = true then 9223372036854775808 else 0) + b ∧ b < 9218868437227405312 ∧ bits BinOp.andNot IntKind.u64 (bb : Int) 9223372036854775808 = (b : Int) ∧ True from ⟨hbb, by omega, by rw [andNot_top bb (by omega)]; omega, trivial⟩)
  have mt := mid_most (show b < 9218868437227405311 by omega)
  have mt2 := mid_most (show b - 1 < 9218868437227405311 by omega)
  have HM := Lib.hid (show -ex 9218868437227405311 ≤ lo ∧ hi ≤ ex 9218868437227405311 by rw [hl, hh]; constructor <;> grind)
  clear mt mt2
  obtain ⟨m0, hm0⟩ : ∃ m0 : Nat, m0 = 18446744073709551615 := ⟨_, rfl⟩
  obtain ⟨m1, hm1⟩ : ∃ m1 : Nat, m1 = b + 1 := ⟨_, rfl⟩
  have HA := Lib.hid (show IntKind.u64.wrap ((b : Int) - 1) = (m0 : Int) ∧ IntKind.u64.wrap ((b : Int) + 1) = (m1 : Int) ∧ b = 0 ∧ (bb : Int) / 9223372036854775808 = 0 ∧ True from ⟨by rw [h0, hm0]; decide, by rw [IntWalk.u64_in _ (by omega)]; omega, by omega, by omega, trivial⟩)
  obtain ⟨b3, hb3⟩ : ∃ b3 : Nat, b3 = 1 + 9223372036854775808 := ⟨_, rfl⟩
  have HZ := Lib.hid (show (b3 : Int) = 9223372036854775809 ∧ (1 : Int) = (m1 : Int) from ⟨by omega, by omega⟩)
  have ov := ovr_mid (show b < 9218868437227405311 by omega)
  rw [show b + 1 = 1 by omega] at ov
  have HO := Lib.hid (show lo < 0 ∧ Ovr (-lo) 1 ∧ b3 = 1 + 9223372036854775808 ∧ 0 ≤ hi ∧ Ovr hi 1 from ⟨by rw [hl]; grind, by rw [hl, Rat.neg_neg]; exact ov, hb3, by rw [hh]; grind, by rw [hh]; exact ov⟩)
  clear hb zm zp mp mq ml hbb hbn h0 hl hh hm0 hm1 ov hb3
  go_enter Tryd.func11, Tryd.ntmps11
  have HS : St w [] w := St.start
  go_upto_region 0 with (fail)
  refine wp_seq_text [] (StR.no HS) ?_
  refine Seq.pure rfl rfl (by intro w; go_simp; try first | with_reducible rfl | rfl) ?_
  simp only [Act.put, List.setIfInBounds_toArray, List.set_cons_zero, List.set_cons_succ]
  refine Seq.done fun ws1 hws => ?_
  have HS1 := hws.st
  clear HS hws
  go_upto_region 1 with (fail)
  refine wp_seq_text [] (StR.no HS1) ?_
  refine Seq.call rfl rfl rfl rfl (by kernel_rfl) (bbegun_q HT.out) ?_
  simp only [Act.put, List.setIfInBounds_toArray, List.set_cons_zero, List.set_cons_succ]
  refine Seq.pure rfl rfl (by intro w; go_simp; try first | with_reducible rfl | rfl) ?_
  simp only [Act.put, List.setIfInBounds_toArray, List.set_cons_zero, List.set_cons_succ]
  refine Seq.done fun ws2 hws => ?_
  have HS2 := hws.st
  clear HS1 hws
  go_upto_region 3 with (fail)
  refine wp_seq_text [] (StR.no HS2) ?_
  refine Seq.pure rfl rfl (by intro w; go_simp; try first | with_reducible rfl | rfl) ?_
  simp only [Act.put, List.setIfInBounds_toArray, List.set_cons_zero, List.set_cons_succ]
  refine Seq.call rfl rfl rfl rfl (by kernel_rfl) (from_q (n := false) HT.out HB.out.1 HB.out.2.1 HF.out.1 HF.out.2) ?_
  simp only [Act.put, List.setIfInBounds_toArray, List.set_cons_zero, List.set_cons_succ]
  refine Seq.pure rfl rfl (by intro w; go_simp; try first | with_reducible rfl | rfl) ?_
  simp only [Act.put, List.setIfInBounds_toArray, List.set_cons_zero, List.set_cons_succ]
  refine Seq.pure (v := .agg (VC lo hi)) rfl rfl (fun w => rfl) ?_
  simp only [Act.put, List.setIfInBounds_toArray, List.set_cons_zero, List.set_cons_succ]
  refine Seq.pure (v := .int .i64 0) rfl rfl (fun w => rfl) ?_
  simp only [Act.put, List.setIfInBounds_toArray, List.set_cons_zero, List.set_cons_succ]
  refine Seq.alloc rfl rfl rfl (z := .agg #[.bool false, .string ⟨#[]⟩, .string ⟨#[]⟩, .bool false, .string ⟨#[]⟩, .string ⟨#[]⟩]) (by kernel_rfl) rfl ?_
  intro bk3 _ _ hbk3_r
  simp only [Act.put, List.setIfInBounds_toArray, List.set_cons_zero, List.set_cons_succ]
  refine Seq.store rfl rfl rfl rfl rfl (by first | exact rS | exact rN (by assumption) (rS) | exact rN (by assumption) (rN (by assumption) (rS)) | exact rN (by assumption) (rN (by assumption) (rN (by assumption) (rS))) | exact rN (by assumption) (rN (by assumption) (rN (by assumption) (rN (by assumption) (rS))))) (n := 6) rfl rfl (by kernel_rfl) (VC_one _ _) ?_
  simp only [Act.put, List.setIfInBounds_toArray, List.set_cons_zero, List.set_cons_succ]
  refine Seq.pure rfl rfl (by intro w; go_simp; try first | with_reducible rfl | rfl) ?_
  simp only [Act.put, List.setIfInBounds_toArray, List.set_cons_zero, List.set_cons_succ]
  refine Seq.done fun ws3 hws => ?_
  have HS3 : St w [(bk3, 46, VC lo hi)] ws3 := hws.list1 (by first | exact rS | exact rN (by assumption) (rS) | exact rN (by assumption) (rN (by assumption) (rS)) | exact rN (by assumption) (rN (by assumption) (rN (by assumption) (rS))) | exact rN (by assumption) (rN (by assumption) (rN (by assumption) (rN (by assumption) (rS)))))
  clear HS2 hws
  go_upto_region 4 with (fail)
  refine wp_seq_text [] (StR.no HS3) ?_
  refine Seq.pure rfl rfl (by intro w; go_simp; try first | with_reducible rfl | rfl) ?_
  simp only [Act.put, List.setIfInBounds_toArray, List.set_cons_zero, List.set_cons_succ]
  refine Seq.pure (v := .int .u64 (q : Int)) rfl rfl (by intro w; go_simp <;> (first | (rw [HQ.out.1]; done) | exact HQ.out.1 | (simp [HQ.out.1]; done) | (trace_state; done))) ?_
  simp only [Act.put, List.setIfInBounds_toArray, List.set_cons_zero, List.set_cons_succ]
  refine Seq.pure (v := .int .u64 (c : Int)) rfl rfl (by intro w; go_simp <;> (first | (rw [HQ.out.2.1]; done) | exact HQ.out.2.1 | (simp [HQ.out.2.1]; done) | (trace_state; done))) ?_
  simp only [Act.put, List.setIfInBounds_toArray, List.set_cons_zero, List.set_cons_succ]
  refine Seq.pure (v := .bool false) rfl rfl (by intro w; go_simp <;> (first | (rw [HQ.out.2.2]; done) | (rw [HQ.out.2.2]; done) | exact HQ.out.2.2 | exact HQ.out.2.2 | (simp [HQ.out.2.2, HQ.out.2.2]; done) | (trace_state; done))) ?_
  simp only [Act.put, List.setIfInBounds_toArray, List.set_cons_zero, List.set_cons_succ]
  refine Seq.done fun ws4 hws => ?_
  have HS4 := hws.st
  clear HS3 hws
  go_upto_region 6 with (fail)
  refine wp_seq_text [] (StR.no HS4) ?_
  refine Seq.load rfl rfl rfl rfl (by repeat (first | exact mC | apply mT)) (n := 6) rfl (by kernel_rfl) ?_
  simp only [Act.put, List.setIfInBounds_toArray, List.set_cons_zero, List.set_cons_succ]
  refine Seq.call rfl rfl rfl rfl (by kernel_rfl) (to_np HT.out Z_lo.out Z_hi.out HLE.out HM.out.1 HM.out.2 HO.out.1 HO.out.2.1 HO.out.2.2.1 HO.out.2.2.2.1 HO.out.2.2.2.2) ?_
  simp only [Act.put, List.setIfInBounds_toArray, List.set_cons_zero, List.set_cons_succ]
  refine Seq.pure rfl rfl (by intro w; go_simp; try first | with_reducible rfl | rfl) ?_
  simp only [Act.put, List.setIfInBounds_toArray, List.set_cons_zero, List.set_cons_succ]
  refine Seq.pure (v := .int .u64 (b3 : Int)) rfl rfl (fun w => rfl) ?_
  simp only [Act.put, List.setIfInBounds_toArray, List.set_cons_zero, List.set_cons_succ]
  refine Seq.pure (v := .int .u64 ((1 : Nat) : Int)) rfl rfl (fun w => rfl) ?_
  simp only [Act.put, List.setIfInBounds_toArray, List.set_cons_zero, List.set_cons_succ]
  refine Seq.pure (v := .int .i64 0) rfl rfl (fun w => rfl) ?_
  simp only [Act.put, List.setIfInBounds_toArray, List.set_cons_zero, List.set_cons_succ]
  refine Seq.pure rfl rfl (by intro w; go_simp; try first | with_reducible rfl | rfl) ?_
  simp only [Act.put, List.setIfInBounds_toArray, List.set_cons_zero, List.set_cons_succ]
  refine Seq.pure rfl rfl (by intro w; go_simp; try first | with_reducible rfl | rfl) ?_
  simp only [Act.put, List.setIfInBounds_toArray, List.set_cons_zero, List.set_cons_succ]
  refine Seq.pure rfl rfl (by intro w; go_simp; try first | with_reducible rfl | rfl) ?_
  simp only [Act.put, List.setIfInBounds_toArray, List.set_cons_zero, List.set_cons_succ]
  refine Seq.done fun ws5 hws => ?_
  have HS5 := hws.st
  clear HS4 hws
  go_upto_region 7 with (fail)
  refine wp_seq_text [] (StR.no HS5) ?_
  refine Seq.pure rfl rfl (by intro w; go_simp; try first | with_reducible rfl | rfl) ?_
  simp only [Act.put, List.setIfInBounds_toArray, List.set_cons_zero, List.set_cons_succ]
  refine Seq.pure (v := .int .u64 (b : Int)) rfl rfl (by intro w; go_simp <;> (first | (rw [HB.out.2.2.1]; done) | exact HB.out.2.2.1 | (simp [HB.out.2.2.1]; done) | (trace_state; done))) ?_
  simp only [Act.put, List.setIfInBounds_toArray, List.set_cons_zero, List.set_cons_succ]
  refine Seq.pure rfl rfl (by intro w; go_simp; try first | with_reducible rfl | rfl) ?_
  simp only [Act.put, List.setIfInBounds_toArray, List.set_cons_zero, List.set_cons_succ]
  refine Seq.done fun ws6 hws => ?_
  have HS6 := hws.st
  clear HS5 hws
  go_upto_region 8 with (fail)
  refine wp_seq_text [] (StR.no HS6) ?_
  refine Seq.pure rfl rfl (by intro w; go_simp; try first | with_reducible rfl | rfl) ?_
  simp only [Act.put, List.setIfInBounds_toArray, List.set_cons_zero, List.set_cons_succ]
  refine Seq.pure (v := .bool false) rfl rfl (by intro w; go_simp <;> (first | (rw [HE.out]; done) | (rw [HE.out]; done) | exact HE.out | exact HE.out | (simp [HE.out, HE.out]; done) | (trace_state; done))) ?_
  simp only [Act.put, List.setIfInBounds_toArray, List.set_cons_zero, List.set_cons_succ]
  refine Seq.done fun ws7 hws => ?_
  have HS7 := hws.st
  clear HS6 hws
  go_upto_region 10 with (fail)
  refine wp_seq_text [] (StR.no HS7) ?_
  refine Seq.pure rfl rfl (by intro w; go_simp; try first | with_reducible rfl | rfl) ?_
  simp only [Act.put, List.setIfInBounds_toArray, List.set_cons_zero, List.set_cons_succ]
  refine Seq.pure (v := .int .u64 (m0 : Int)) rfl rfl (by intro w; go_simp <;> (first | (rw [HA.out.1]; done) | (rw [HA.out.1]; done) | exact HA.out.1 | exact HA.out.1 | (simp [HA.out.1, HA.out.1]; done) | (trace_state; done))) ?_
  simp only [Act.put, List.setIfInBounds_toArray, List.set_cons_zero, List.set_cons_succ]
  refine Seq.pure rfl rfl (by intro w; go_simp; try first | with_reducible rfl | rfl) ?_
  simp only [Act.put, List.setIfInBounds_toArray, List.set_cons_zero, List.set_cons_succ]
  refine Seq.pure (v := .int .u64 (m1 : Int)) rfl rfl (by intro w; go_simp <;> (first | (rw [HA.out.2.1]; done) | (rw [HA.out.2.1]; done) | exact HA.out.2.1 | exact HA.out.2.1 | (simp [HA.out.2.1, HA.out.2.1]; done) | (trace_state; done))) ?_
  simp only [Act.put, List.setIfInBounds_toArray, List.set_cons_zero, List.set_cons_succ]
  refine Seq.pure rfl rfl (by intro w; go_simp; try first | with_reducible rfl | rfl) ?_
  simp only [Act.put, List.setIfInBounds_toArray, List.set_cons_zero, List.set_cons_succ]
  refine Seq.pure rfl rfl (by intro w; go_simp; try first | with_reducible rfl | rfl) ?_
  simp only [Act.put, List.setIfInBounds_toArray, List.set_cons_zero, List.set_cons_succ]
  refine Seq.done fun ws8 hws => ?_
  have HS8 := hws.st
  clear HS7 hws
  go_upto_region 11 with (fail)
  refine wp_seq_text [] (StR.no HS8) ?_
  refine Seq.pure rfl rfl (by intro w; go_simp; try first | with_reducible rfl | rfl) ?_
  simp only [Act.put, List.setIfInBounds_toArray, List.set_cons_zero, List.set_cons_succ]
  refine Seq.pure (v := .bool true) rfl rfl (by intro w; go_simp <;> (first | (rw [HA.out.2.2.1]; done) | (rw [HA.out.2.2.1]; done) | exact HA.out.2.2.1 | exact HA.out.2.2.1 | (simp [HA.out.2.2.1, HA.out.2.2.1]; done) | (trace_state; done))) ?_
  simp only [Act.put, List.setIfInBounds_toArray, List.set_cons_zero, List.set_cons_succ]
  refine Seq.done fun ws9 hws => ?_
  have HS9 := hws.st
  clear HS8 hws
  go_upto_region 12 with (fail)
  refine wp_seq_text [] (StR.no HS9) ?_
  refine Seq.pure rfl rfl (by intro w; go_simp; try first | with_reducible rfl | rfl) ?_
  simp only [Act.put, List.setIfInBounds_toArray, List.set_cons_zero, List.set_cons_succ]
  refine Seq.done fun ws10 hws => ?_
  have HS10 := hws.st
  clear HS9 hws
  go_upto_region 13 with (fail)
  refine wp_seq_text [] (StR.no HS10) ?_
  refine Seq.pure rfl rfl (by intro w; go_simp; try first | with_reducible rfl | rfl) ?_
  simp only [Act.put, List.setIfInBounds_toArray, List.set_cons_zero, List.set_cons_succ]
  refine Seq.pure (v := .int .u64 0) rfl rfl (by intro w; go_simp <;> (first | (rw [HA.out.2.2.2.1]; done) | exact HA.out.2.2.2.1 | (simp [HA.out.2.2.2.1]; done) | (trace_state; done))) ?_
  simp only [Act.put, List.setIfInBounds_toArray, List.set_cons_zero, List.set_cons_succ]
  refine Seq.pure rfl rfl (by intro w; go_simp; try first | with_reducible rfl | rfl) ?_
  simp only [Act.put, List.setIfInBounds_toArray, List.set_cons_zero, List.set_cons_succ]
  refine Seq.done fun ws11 hws => ?_
  have HS11 := hws.st
  clear HS10 hws
  go_upto_region 19 with (fail)
  refine wp_seq_text [] (StR.no HS11) ?_
  refine Seq.pure rfl rfl (by intro w; go_simp; try first | with_reducible rfl | rfl) ?_
  simp only [Act.put, List.setIfInBounds_toArray, List.set_cons_zero, List.set_cons_succ]
  refine Seq.pure rfl rfl (by intro w; go_simp; try first | with_reducible rfl | rfl) ?_
  simp only [Act.put, List.setIfInBounds_toArray, List.set_cons_zero, List.set_cons_succ]
  refine Seq.pure rfl rfl (by intro w; go_simp; try first | with_reducible rfl | rfl) ?_
  simp only [Act.put, List.setIfInBounds_toArray, List.set_cons_zero, List.set_cons_succ]
  refine Seq.pure rfl rfl (by intro w; go_simp; try first | with_reducible rfl | rfl) ?_
  simp only [Act.put, List.setIfInBounds_toArray, List.set_cons_zero, List.set_cons_succ]
  refine Seq.pure rfl rfl (by intro w; go_simp; try first | with_reducible rfl | rfl) ?_
  simp only [Act.put, List.setIfInBounds_toArray, List.set_cons_zero, List.set_cons_succ]
  refine Seq.pure rfl rfl (by intro w; go_simp; try first | with_reducible rfl | rfl) ?_
  simp only [Act.put, List.setIfInBounds_toArray, List.set_cons_zero, List.set_cons_succ]
  refine Seq.pure rfl rfl (by intro w; go_simp; try first | with_reducible rfl | rfl) ?_
  simp only [Act.put, List.setIfInBounds_toArray, List.set_cons_zero, List.set_cons_succ]
  refine Seq.pure rfl rfl (by intro w; go_simp; try first | with_reducible rfl | rfl) ?_
  simp only [Act.put, List.setIfInBounds_toArray, List.set_cons_zero, List.set_cons_succ]
  refine Seq.pure rfl rfl (by intro w; go_simp; try first | with_reducible rfl | rfl) ?_
  simp only [Act.put, List.setIfInBounds_toArray, List.set_cons_zero, List.set_cons_succ]
  refine Seq.pure (v := .bool true) rfl rfl (by intro w; go_simp <;> (first | (rw [HZ.out.1]; done) | exact HZ.out.1 | (simp [HZ.out.1]; done) | (trace_state; done))) ?_
  simp only [Act.put, List.setIfInBounds_toArray, List.set_cons_zero, List.set_cons_succ]
  refine Seq.pure rfl rfl (by intro w; go_simp; try first | with_reducible rfl | rfl) ?_
  simp only [Act.put, List.setIfInBounds_toArray, List.set_cons_zero, List.set_cons_succ]
  refine Seq.pure rfl rfl (by intro w; go_simp; try first | with_reducible rfl | rfl) ?_
  simp only [Act.put, List.setIfInBounds_toArray, List.set_cons_zero, List.set_cons_succ]
  refine Seq.pure rfl rfl (by intro w; go_simp; try first | with_reducible rfl | rfl) ?_
  simp only [Act.put, List.setIfInBounds_toArray, List.set_cons_zero, List.set_cons_succ]
  refine Seq.pure rfl rfl (by intro w; go_simp; try first | with_reducible rfl | rfl) ?_
  simp only [Act.put, List.setIfInBounds_toArray, List.set_cons_zero, List.set_cons_succ]
  refine Seq.pure (v := .bool true) rfl rfl (by intro w; go_simp <;> (first | (rw [HZ.out.2]; done) | exact HZ.out.2 | (simp [HZ.out.2]; done) | (trace_state; done))) ?_
  simp only [Act.put, List.setIfInBounds_toArray, List.set_cons_zero, List.set_cons_succ]
  refine Seq.pure rfl rfl (by intro w; go_simp; try first | with_reducible rfl | rfl) ?_
  simp only [Act.put, List.setIfInBounds_toArray, List.set_cons_zero, List.set_cons_succ]
  refine Seq.pure rfl rfl (by intro w; go_simp; try first | with_reducible rfl | rfl) ?_
  simp only [Act.put, List.setIfInBounds_toArray, List.set_cons_zero, List.set_cons_succ]
  refine Seq.done fun ws12 hws => ?_
  have HS12 := hws.st
  clear HS11 hws
  go_wp2_with fail
  go_ret
  exact ⟨rfl, HS12.below⟩
set_option maxHeartbeats 4000000 in
set_option maxRecDepth 20000 in
theorem bn_many0 {bb b : Nat} (w : World) (hT : Tab w) (hbb : bb = (if false = true then 9223372036854775808 else 0) + b) (hb : 0 < b) (hb2 : b < 9218868437227405311) :
    Calls Tryd.prog 11 #[.int .u64 (bb : Int)] w fun e w' => e = .returned (.bool true) ∧ Below w.heap.size w w' := by
  have hbn : bb = 0 + b := hbb
  obtain ⟨q, hq⟩ : ∃ q : Nat, bb / 4503599627370496 = q := ⟨_, rfl⟩
  obtain ⟨c, hc⟩ : ∃ c : Nat, q % 2048 = c := ⟨_, rfl⟩
  have HQ := Lib.hid (show (bb : Int) / 4503599627370496 = (q : Int) ∧ bits BinOp.and IntKind.u64 (q : Int) 2047 = (c : Int) ∧ ¬ (c : Int) = 2047 from ⟨by omega, by rw [and_2047 q (by omega), hc], by omega⟩)
  clear hq hc
  have HT := Lib.hid hT; clear hT
  have h0 : ¬ b = 0 := by omega
  obtain ⟨lo, elo⟩ : ∃ z, frL false b = z := ⟨_, rfl⟩
  obtain ⟨hi, ehi⟩ : ∃ z, frH false b = z := ⟨_, rfl⟩
  have hl : lo = midE (b - 1) := by rw [← elo]; unfold frL; rw [if_neg (by decide), if_neg h0]
  have hh : hi = midE b := by rw [← ehi]; unfold frH; rw [if_neg (by decide)]
  have HF := Lib.hid (And.intro elo ehi); clear elo ehi
  have zm := mid_rz (show b < 9218868437227405312 by omega)
  have zp := mid_rz (show b - 1 < 9218868437227405312 by omega)
  have mp := mid_pos b
  have mq := mid_pos (b - 1)
  have ml := mid_le (show b - 1 ≤ b by omega)
  have Z_lo := Lib.hid (show Rz 1000 lo by rw [hl]; exact zp)
  have Z_hi := Lib.hid (show Rz 1000 hi by rw [hh]; exact zm)
  have HLE := Lib.hid (show lo ≤ hi by rw [hl, hh]; grind)
  have HE := Lib.hid (show ¬ (b : Int) = 9218868437227405311 from by omega)
  have HB := Lib.hid (show bb = (if false = true then 9223372036854775808 else 0) + b ∧ b < 9218868437227405312 ∧ bits BinOp.andNot IntKind.u64 (bb : Int) 9223372036854775808 = (b : Int) ∧ True from ⟨hbb, by omega, by rw [andNot_top bb (by omega)]; omega, trivial⟩)
  have mt := mid_most (show b < 9218868437227405311 by omega)
  have mt2 := mid_most (show b - 1 < 9218868437227405311 by omega)
  have HM := Lib.hid (show -ex 9218868437227405311 ≤ lo ∧ hi ≤ ex 9218868437227405311 by rw [hl, hh]; constructor <;> grind)
  clear mt mt2
  obtain ⟨m0, hm0⟩ : ∃ m0 : Nat, m0 = b - 1 := ⟨_, rfl⟩
  obtain ⟨m1, hm1⟩ : ∃ m1 : Nat, m1 = b + 1 := ⟨_, rfl⟩
  have HA := Lib.hid (show IntKind.u64.wrap ((b : Int) - 1) = (m0 : Int) ∧ IntKind.u64.wrap ((b : Int) + 1) = (m1 : Int) ∧ ¬ b = 0 ∧ (bb : Int) / 9223372036854775808 = 0 ∧ True from ⟨by rw [IntWalk.u64_in _ (by omega)]; omega, by rw [IntWalk.u64_in _ (by omega)]; omega, by omega, by omega, trivial⟩)
  have HZ := Lib.hid (show m0 = m0 ∧ m1 = m1 from ⟨rfl, rfl⟩)
  have ov := ovr_mid (show b < 9218868437227405311 by omega)
  have un := und_mid (show b - 1 < 9218868437227405312 by omega)
  rw [← hm1] at ov
  rw [← hm0] at un
  have HO := Lib.hid (show 0 ≤ lo ∧ Und lo m0 ∧ 0 ≤ hi ∧ Ovr hi m1 from ⟨by rw [hl]; grind, by rw [hl, ← hm0]; exact un, by rw [hh]; grind, by rw [hh]; exact ov⟩)
  clear zm zp mp mq ml hbb hbn h0 hl hh hm0 hm1 ov un hb hb2
  go_enter Tryd.func11, Tryd.ntmps11
  have HS : St w [] w := St.start
  go_upto_region 0 with (fail)
  refine wp_seq_text [] (StR.no HS) ?_
  refine Seq.pure rfl rfl (by intro w; go_simp; try first | with_reducible rfl | rfl) ?_
  simp only [Act.put, List.setIfInBounds_toArray, List.set_cons_zero, List.set_cons_succ]
  refine Seq.done fun ws1 hws => ?_
  have HS1 := hws.st
  clear HS hws
  go_upto_region 1 with (fail)
  refine wp_seq_text [] (StR.no HS1) ?_
  refine Seq.call rfl rfl rfl rfl (by kernel_rfl) (bbegun_q HT.out) ?_
  simp only [Act.put, List.setIfInBounds_toArray, List.set_cons_zero, List.set_cons_succ]
  refine Seq.pure rfl rfl (by intro w; go_simp; try first | with_reducible rfl | rfl) ?_
  simp only [Act.put, List.setIfInBounds_toArray, List.set_cons_zero, List.set_cons_succ]
  refine Seq.done fun ws2 hws => ?_
  have HS2 := hws.st
  clear HS1 hws
  go_upto_region 3 with (fail)
  refine wp_seq_text [] (StR.no HS2) ?_
  refine Seq.pure rfl rfl (by intro w; go_simp; try first | with_reducible rfl | rfl) ?_
  simp only [Act.put, List.setIfInBounds_toArray, List.set_cons_zero, List.set_cons_succ]
  refine Seq.call rfl rfl rfl rfl (by kernel_rfl) (from_q (n := false) HT.out HB.out.1 HB.out.2.1 HF.out.1 HF.out.2) ?_
  simp only [Act.put, List.setIfInBounds_toArray, List.set_cons_zero, List.set_cons_succ]
  refine Seq.pure rfl rfl (by intro w; go_simp; try first | with_reducible rfl | rfl) ?_
  simp only [Act.put, List.setIfInBounds_toArray, List.set_cons_zero, List.set_cons_succ]
  refine Seq.pure (v := .agg (VC lo hi)) rfl rfl (fun w => rfl) ?_
  simp only [Act.put, List.setIfInBounds_toArray, List.set_cons_zero, List.set_cons_succ]
  refine Seq.pure (v := .int .i64 0) rfl rfl (fun w => rfl) ?_
  simp only [Act.put, List.setIfInBounds_toArray, List.set_cons_zero, List.set_cons_succ]
  refine Seq.alloc rfl rfl rfl (z := .agg #[.bool false, .string ⟨#[]⟩, .string ⟨#[]⟩, .bool false, .string ⟨#[]⟩, .string ⟨#[]⟩]) (by kernel_rfl) rfl ?_
  intro bk3 _ _ hbk3_r
  simp only [Act.put, List.setIfInBounds_toArray, List.set_cons_zero, List.set_cons_succ]
  refine Seq.store rfl rfl rfl rfl rfl (by first | exact rS | exact rN (by assumption) (rS) | exact rN (by assumption) (rN (by assumption) (rS)) | exact rN (by assumption) (rN (by assumption) (rN (by assumption) (rS))) | exact rN (by assumption) (rN (by assumption) (rN (by assumption) (rN (by assumption) (rS))))) (n := 6) rfl rfl (by kernel_rfl) (VC_one _ _) ?_
  simp only [Act.put, List.setIfInBounds_toArray, List.set_cons_zero, List.set_cons_succ]
  refine Seq.pure rfl rfl (by intro w; go_simp; try first | with_reducible rfl | rfl) ?_
  simp only [Act.put, List.setIfInBounds_toArray, List.set_cons_zero, List.set_cons_succ]
  refine Seq.done fun ws3 hws => ?_
  have HS3 : St w [(bk3, 46, VC lo hi)] ws3 := hws.list1 (by first | exact rS | exact rN (by assumption) (rS) | exact rN (by assumption) (rN (by assumption) (rS)) | exact rN (by assumption) (rN (by assumption) (rN (by assumption) (rS))) | exact rN (by assumption) (rN (by assumption) (rN (by assumption) (rN (by assumption) (rS)))))
  clear HS2 hws
  go_upto_region 4 with (fail)
  refine wp_seq_text [] (StR.no HS3) ?_
  refine Seq.pure rfl rfl (by intro w; go_simp; try first | with_reducible rfl | rfl) ?_
  simp only [Act.put, List.setIfInBounds_toArray, List.set_cons_zero, List.set_cons_succ]
  refine Seq.pure (v := .int .u64 (q : Int)) rfl rfl (by intro w; go_simp <;> (first | (rw [HQ.out.1]; done) | exact HQ.out.1 | (simp [HQ.out.1]; done) | (trace_state; done))) ?_
  simp only [Act.put, List.setIfInBounds_toArray, List.set_cons_zero, List.set_cons_succ]
  refine Seq.pure (v := .int .u64 (c : Int)) rfl rfl (by intro w; go_simp <;> (first | (rw [HQ.out.2.1]; done) | exact HQ.out.2.1 | (simp [HQ.out.2.1]; done) | (trace_state; done))) ?_
  simp only [Act.put, List.setIfInBounds_toArray, List.set_cons_zero, List.set_cons_succ]
  refine Seq.pure (v := .bool false) rfl rfl (by intro w; go_simp <;> (first | (rw [HQ.out.2.2]; done) | (rw [HQ.out.2.2]; done) | exact HQ.out.2.2 | exact HQ.out.2.2 | (simp [HQ.out.2.2, HQ.out.2.2]; done) | (trace_state; done))) ?_
  simp only [Act.put, List.setIfInBounds_toArray, List.set_cons_zero, List.set_cons_succ]
  refine Seq.done fun ws4 hws => ?_
  have HS4 := hws.st
  clear HS3 hws
  go_upto_region 6 with (fail)
  refine wp_seq_text [] (StR.no HS4) ?_
  refine Seq.load rfl rfl rfl rfl (by repeat (first | exact mC | apply mT)) (n := 6) rfl (by kernel_rfl) ?_
  simp only [Act.put, List.setIfInBounds_toArray, List.set_cons_zero, List.set_cons_succ]
  refine Seq.call rfl rfl rfl rfl (by kernel_rfl) (to_pp HT.out Z_lo.out Z_hi.out HLE.out HM.out.1 HM.out.2 HO.out.1 HO.out.2.1 HO.out.2.2.1 HO.out.2.2.2) ?_
  simp only [Act.put, List.setIfInBounds_toArray, List.set_cons_zero, List.set_cons_succ]
  refine Seq.pure rfl rfl (by intro w; go_simp; try first | with_reducible rfl | rfl) ?_
  simp only [Act.put, List.setIfInBounds_toArray, List.set_cons_zero, List.set_cons_succ]
  refine Seq.pure (v := .int .u64 (m0 : Int)) rfl rfl (fun w => rfl) ?_
  simp only [Act.put, List.setIfInBounds_toArray, List.set_cons_zero, List.set_cons_succ]
  refine Seq.pure (v := .int .u64 (m1 : Int)) rfl rfl (fun w => rfl) ?_
  simp only [Act.put, List.setIfInBounds_toArray, List.set_cons_zero, List.set_cons_succ]
  refine Seq.pure (v := .int .i64 0) rfl rfl (fun w => rfl) ?_
  simp only [Act.put, List.setIfInBounds_toArray, List.set_cons_zero, List.set_cons_succ]
  refine Seq.pure rfl rfl (by intro w; go_simp; try first | with_reducible rfl | rfl) ?_
  simp only [Act.put, List.setIfInBounds_toArray, List.set_cons_zero, List.set_cons_succ]
  refine Seq.pure rfl rfl (by intro w; go_simp; try first | with_reducible rfl | rfl) ?_
  simp only [Act.put, List.setIfInBounds_toArray, List.set_cons_zero, List.set_cons_succ]
  refine Seq.pure rfl rfl (by intro w; go_simp; try first | with_reducible rfl | rfl) ?_
  simp only [Act.put, List.setIfInBounds_toArray, List.set_cons_zero, List.set_cons_succ]
  refine Seq.done fun ws5 hws => ?_
  have HS5 := hws.st
  clear HS4 hws
  go_upto_region 7 with (fail)
  refine wp_seq_text [] (StR.no HS5) ?_
  refine Seq.pure rfl rfl (by intro w; go_simp; try first | with_reducible rfl | rfl) ?_
  simp only [Act.put, List.setIfInBounds_toArray, List.set_cons_zero, List.set_cons_succ]
  refine Seq.pure (v := .int .u64 (b : Int)) rfl rfl (by intro w; go_simp <;> (first | (rw [HB.out.2.2.1]; done) | exact HB.out.2.2.1 | (simp [HB.out.2.2.1]; done) | (trace_state; done))) ?_
  simp only [Act.put, List.setIfInBounds_toArray, List.set_cons_zero, List.set_cons_succ]
  refine Seq.pure rfl rfl (by intro w; go_simp; try first | with_reducible rfl | rfl) ?_
  simp only [Act.put, List.setIfInBounds_toArray, List.set_cons_zero, List.set_cons_succ]
  refine Seq.done fun ws6 hws => ?_
  have HS6 := hws.st
  clear HS5 hws
  go_upto_region 8 with (fail)
  refine wp_seq_text [] (StR.no HS6) ?_
  refine Seq.pure rfl rfl (by intro w; go_simp; try first | with_reducible rfl | rfl) ?_
  simp only [Act.put, List.setIfInBounds_toArray, List.set_cons_zero, List.set_cons_succ]
  refine Seq.pure (v := .bool false) rfl rfl (by intro w; go_simp <;> (first | (rw [HE.out]; done) | (rw [HE.out]; done) | exact HE.out | exact HE.out | (simp [HE.out, HE.out]; done) | (trace_state; done))) ?_
  simp only [Act.put, List.setIfInBounds_toArray, List.set_cons_zero, List.set_cons_succ]
  refine Seq.done fun ws7 hws => ?_
  have HS7 := hws.st
  clear HS6 hws
  go_upto_region 10 with (fail)
  refine wp_seq_text [] (StR.no HS7) ?_
  refine Seq.pure rfl rfl (by intro w; go_simp; try first | with_reducible rfl | rfl) ?_
  simp only [Act.put, List.setIfInBounds_toArray, List.set_cons_zero, List.set_cons_succ]
  refine Seq.pure (v := .int .u64 (m0 : Int)) rfl rfl (by intro w; go_simp <;> (first | (rw [HA.out.1]; done) | (rw [HA.out.1]; done) | exact HA.out.1 | exact HA.out.1 | (simp [HA.out.1, HA.out.1]; done) | (trace_state; done))) ?_
  simp only [Act.put, List.setIfInBounds_toArray, List.set_cons_zero, List.set_cons_succ]
  refine Seq.pure rfl rfl (by intro w; go_simp; try first | with_reducible rfl | rfl) ?_
  simp only [Act.put, List.setIfInBounds_toArray, List.set_cons_zero, List.set_cons_succ]
  refine Seq.pure (v := .int .u64 (m1 : Int)) rfl rfl (by intro w; go_simp <;> (first | (rw [HA.out.2.1]; done) | (rw [HA.out.2.1]; done) | exact HA.out.2.1 | exact HA.out.2.1 | (simp [HA.out.2.1, HA.out.2.1]; done) | (trace_state; done))) ?_
  simp only [Act.put, List.setIfInBounds_toArray, List.set_cons_zero, List.set_cons_succ]
  refine Seq.pure rfl rfl (by intro w; go_simp; try first | with_reducible rfl | rfl) ?_
  simp only [Act.put, List.setIfInBounds_toArray, List.set_cons_zero, List.set_cons_succ]
  refine Seq.pure rfl rfl (by intro w; go_simp; try first | with_reducible rfl | rfl) ?_
  simp only [Act.put, List.setIfInBounds_toArray, List.set_cons_zero, List.set_cons_succ]
  refine Seq.done fun ws8 hws => ?_
  have HS8 := hws.st
  clear HS7 hws
  go_upto_region 11 with (fail)
  refine wp_seq_text [] (StR.no HS8) ?_
  refine Seq.pure rfl rfl (by intro w; go_simp; try first | with_reducible rfl | rfl) ?_
  simp only [Act.put, List.setIfInBounds_toArray, List.set_cons_zero, List.set_cons_succ]
  refine Seq.pure (v := .bool false) rfl rfl (by intro w; go_simp <;> (first | (rw [HA.out.2.2.1]; done) | (rw [HA.out.2.2.1]; done) | exact HA.out.2.2.1 | exact HA.out.2.2.1 | (simp [HA.out.2.2.1, HA.out.2.2.1]; done) | (trace_state; done))) ?_
  simp only [Act.put, List.setIfInBounds_toArray, List.set_cons_zero, List.set_cons_succ]
  refine Seq.done fun ws9 hws => ?_
  have HS9 := hws.st
  clear HS8 hws
  go_upto_region 13 with (fail)
  refine wp_seq_text [] (StR.no HS9) ?_
  refine Seq.pure rfl rfl (by intro w; go_simp; try first | with_reducible rfl | rfl) ?_
  simp only [Act.put, List.setIfInBounds_toArray, List.set_cons_zero, List.set_cons_succ]
  refine Seq.pure (v := .int .u64 0) rfl rfl (by intro w; go_simp <;> (first | (rw [HA.out.2.2.2.1]; done) | exact HA.out.2.2.2.1 | (simp [HA.out.2.2.2.1]; done) | (trace_state; done))) ?_
  simp only [Act.put, List.setIfInBounds_toArray, List.set_cons_zero, List.set_cons_succ]
  refine Seq.pure rfl rfl (by intro w; go_simp; try first | with_reducible rfl | rfl) ?_
  simp only [Act.put, List.setIfInBounds_toArray, List.set_cons_zero, List.set_cons_succ]
  refine Seq.done fun ws10 hws => ?_
  have HS10 := hws.st
  clear HS9 hws
  go_upto_region 19 with (fail)
  refine wp_seq_text [] (StR.no HS10) ?_
  refine Seq.pure rfl rfl (by intro w; go_simp; try first | with_reducible rfl | rfl) ?_
  simp only [Act.put, List.setIfInBounds_toArray, List.set_cons_zero, List.set_cons_succ]
  refine Seq.pure rfl rfl (by intro w; go_simp; try first | with_reducible rfl | rfl) ?_
  simp only [Act.put, List.setIfInBounds_toArray, List.set_cons_zero, List.set_cons_succ]
  refine Seq.pure rfl rfl (by intro w; go_simp; try first | with_reducible rfl | rfl) ?_
  simp only [Act.put, List.setIfInBounds_toArray, List.set_cons_zero, List.set_cons_succ]
  refine Seq.pure rfl rfl (by intro w; go_simp; try first | with_reducible rfl | rfl) ?_
  simp only [Act.put, List.setIfInBounds_toArray, List.set_cons_zero, List.set_cons_succ]
  refine Seq.pure rfl rfl (by intro w; go_simp; try first | with_reducible rfl | rfl) ?_
  simp only [Act.put, List.setIfInBounds_toArray, List.set_cons_zero, List.set_cons_succ]
  refine Seq.pure rfl rfl (by intro w; go_simp; try first | with_reducible rfl | rfl) ?_
  simp only [Act.put, List.setIfInBounds_toArray, List.set_cons_zero, List.set_cons_succ]
  refine Seq.pure rfl rfl (by intro w; go_simp; try first | with_reducible rfl | rfl) ?_
  simp only [Act.put, List.setIfInBounds_toArray, List.set_cons_zero, List.set_cons_succ]
  refine Seq.pure rfl rfl (by intro w; go_simp; try first | with_reducible rfl | rfl) ?_
  simp only [Act.put, List.setIfInBounds_toArray, List.set_cons_zero, List.set_cons_succ]
  refine Seq.pure rfl rfl (by intro w; go_simp; try first | with_reducible rfl | rfl) ?_
  simp only [Act.put, List.setIfInBounds_toArray, List.set_cons_zero, List.set_cons_succ]
  refine Seq.pure (v := .bool true) rfl rfl (by intro w; go_simp <;> (first | (rw [HZ.out.1]; done) | exact HZ.out.1 | (simp [HZ.out.1]; done) | (trace_state; done))) ?_
  simp only [Act.put, List.setIfInBounds_toArray, List.set_cons_zero, List.set_cons_succ]
  refine Seq.pure rfl rfl (by intro w; go_simp; try first | with_reducible rfl | rfl) ?_
  simp only [Act.put, List.setIfInBounds_toArray, List.set_cons_zero, List.set_cons_succ]
  refine Seq.pure rfl rfl (by intro w; go_simp; try first | with_reducible rfl | rfl) ?_
  simp only [Act.put, List.setIfInBounds_toArray, List.set_cons_zero, List.set_cons_succ]
  refine Seq.pure rfl rfl (by intro w; go_simp; try first | with_reducible rfl | rfl) ?_
  simp only [Act.put, List.setIfInBounds_toArray, List.set_cons_zero, List.set_cons_succ]
  refine Seq.pure rfl rfl (by intro w; go_simp; try first | with_reducible rfl | rfl) ?_
  simp only [Act.put, List.setIfInBounds_toArray, List.set_cons_zero, List.set_cons_succ]
  refine Seq.pure (v := .bool true) rfl rfl (by intro w; go_simp <;> (first | (rw [HZ.out.2]; done) | exact HZ.out.2 | (simp [HZ.out.2]; done) | (trace_state; done))) ?_
  simp only [Act.put, List.setIfInBounds_toArray, List.set_cons_zero, List.set_cons_succ]
  refine Seq.pure rfl rfl (by intro w; go_simp; try first | with_reducible rfl | rfl) ?_
  simp only [Act.put, List.setIfInBounds_toArray, List.set_cons_zero, List.set_cons_succ]
  refine Seq.pure rfl rfl (by intro w; go_simp; try first | with_reducible rfl | rfl) ?_
  simp only [Act.put, List.setIfInBounds_toArray, List.set_cons_zero, List.set_cons_succ]
  refine Seq.done fun ws11 hws => ?_
  have HS11 := hws.st
  clear HS10 hws
  go_wp2_with fail
  go_ret
  exact ⟨rfl, HS11.below⟩
set_option maxHeartbeats 4000000 in
set_option maxRecDepth 20000 in
theorem bn_inf1 {bb b : Nat} (w : World) (hT : Tab w) (hbb : bb = (if true = true then 9223372036854775808 else 0) + b) (hb : 9218868437227405312 ≤ b) (hb2 : b < 9223372036854775808) :
    Calls Tryd.prog 11 #[.int .u64 (bb : Int)] w fun e w' => e = .returned (.bool true) ∧ Below w.heap.size w w' := by
  have hbn : bb = 9223372036854775808 + b := hbb
  obtain ⟨q, hq⟩ : ∃ q : Nat, bb / 4503599627370496 = q := ⟨_, rfl⟩
  obtain ⟨c, hc⟩ : ∃ c : Nat, q % 2048 = c := ⟨_, rfl⟩
  have HQ := Lib.hid (show (bb : Int) / 4503599627370496 = (q : Int) ∧ bits BinOp.and IntKind.u64 (q : Int) 2047 = (c : Int) ∧ (c : Int) = 2047 from ⟨by omega, by rw [and_2047 q (by omega), hc], by omega⟩)
  clear hq hc
  have HT := Lib.hid hT; clear hT
  have HB := Lib.hid (And.intro hbb (And.intro hb (And.intro hb2 trivial))); clear hbb hbn hb hb2
  go_enter Tryd.func11, Tryd.ntmps11
  have HS : St w [] w := St.start
  go_upto_region 0 with (fail)
  refine wp_seq_text [] (StR.no HS) ?_
  refine Seq.pure rfl rfl (by intro w; go_simp; try first | with_reducible rfl | rfl) ?_
  simp only [Act.put, List.setIfInBounds_toArray, List.set_cons_zero, List.set_cons_succ]
  refine Seq.done fun ws1 hws => ?_
  have HS1 := hws.st
  clear HS hws
  go_upto_region 1 with (fail)
  refine wp_seq_text [] (StR.no HS1) ?_
  refine Seq.call rfl rfl rfl rfl (by kernel_rfl) (bbegun_q HT.out) ?_
  simp only [Act.put, List.setIfInBounds_toArray, List.set_cons_zero, List.set_cons_succ]
  refine Seq.pure rfl rfl (by intro w; go_simp; try first | with_reducible rfl | rfl) ?_
  simp only [Act.put, List.setIfInBounds_toArray, List.set_cons_zero, List.set_cons_succ]
  refine Seq.done fun ws2 hws => ?_
  have HS2 := hws.st
  clear HS1 hws
  go_upto_region 3 with (fail)
  refine wp_seq_text [] (StR.no HS2) ?_
  refine Seq.pure rfl rfl (by intro w; go_simp; try first | with_reducible rfl | rfl) ?_
  simp only [Act.put, List.setIfInBounds_toArray, List.set_cons_zero, List.set_cons_succ]
  refine Seq.call rfl rfl rfl rfl (by kernel_rfl) (from_n (n := true) HB.out.1 HB.out.2.1 HB.out.2.2.1) ?_
  simp only [Act.put, List.setIfInBounds_toArray, List.set_cons_zero, List.set_cons_succ]
  refine Seq.pure rfl rfl (by intro w; go_simp; try first | with_reducible rfl | rfl) ?_
  simp only [Act.put, List.setIfInBounds_toArray, List.set_cons_zero, List.set_cons_succ]
  refine Seq.pure (v := .agg (#[.bool false, .string ⟨#[]⟩, .string ⟨#[]⟩, .bool false, .string ⟨#[]⟩, .string ⟨#[]⟩])) rfl rfl (fun w => rfl) ?_
  simp only [Act.put, List.setIfInBounds_toArray, List.set_cons_zero, List.set_cons_succ]
  refine Seq.pure (v := .int .i64 3) rfl rfl (fun w => rfl) ?_
  simp only [Act.put, List.setIfInBounds_toArray, List.set_cons_zero, List.set_cons_succ]
  refine Seq.alloc rfl rfl rfl (z := .agg #[.bool false, .string ⟨#[]⟩, .string ⟨#[]⟩, .bool false, .string ⟨#[]⟩, .string ⟨#[]⟩]) (by kernel_rfl) rfl ?_
  intro bk3 _ _ hbk3_r
  simp only [Act.put, List.setIfInBounds_toArray, List.set_cons_zero, List.set_cons_succ]
  refine Seq.store rfl rfl rfl rfl rfl (by first | exact rS | exact rN (by assumption) (rS) | exact rN (by assumption) (rN (by assumption) (rS)) | exact rN (by assumption) (rN (by assumption) (rN (by assumption) (rS))) | exact rN (by assumption) (rN (by assumption) (rN (by assumption) (rN (by assumption) (rS))))) (n := 6) rfl rfl (by kernel_rfl) (by intro u hu; simp at hu; rcases hu with rfl | rfl | rfl | rfl | rfl | rfl <;> rfl) ?_
  simp only [Act.put, List.setIfInBounds_toArray, List.set_cons_zero, List.set_cons_succ]
  refine Seq.pure rfl rfl (by intro w; go_simp; try first | with_reducible rfl | rfl) ?_
  simp only [Act.put, List.setIfInBounds_toArray, List.set_cons_zero, List.set_cons_succ]
  refine Seq.done fun ws3 hws => ?_
  have HS3 : St w [(bk3, 46, #[.bool false, .string ⟨#[]⟩, .string ⟨#[]⟩, .bool false, .string ⟨#[]⟩, .string ⟨#[]⟩])] ws3 := hws.list1 (by first | exact rS | exact rN (by assumption) (rS) | exact rN (by assumption) (rN (by assumption) (rS)) | exact rN (by assumption) (rN (by assumption) (rN (by assumption) (rS))) | exact rN (by assumption) (rN (by assumption) (rN (by assumption) (rN (by assumption) (rS)))))
  clear HS2 hws
  go_upto_region 4 with (fail)
  refine wp_seq_text [] (StR.no HS3) ?_
  refine Seq.pure rfl rfl (by intro w; go_simp; try first | with_reducible rfl | rfl) ?_
  simp only [Act.put, List.setIfInBounds_toArray, List.set_cons_zero, List.set_cons_succ]
  refine Seq.pure (v := .int .u64 (q : Int)) rfl rfl (by intro w; go_simp <;> (first | (rw [HQ.out.1]; done) | exact HQ.out.1 | (simp [HQ.out.1]; done) | (trace_state; done))) ?_
  simp only [Act.put, List.setIfInBounds_toArray, List.set_cons_zero, List.set_cons_succ]
  refine Seq.pure (v := .int .u64 (c : Int)) rfl rfl (by intro w; go_simp <;> (first | (rw [HQ.out.2.1]; done) | exact HQ.out.2.1 | (simp [HQ.out.2.1]; done) | (trace_state; done))) ?_
  simp only [Act.put, List.setIfInBounds_toArray, List.set_cons_zero, List.set_cons_succ]
  refine Seq.pure (v := .bool true) rfl rfl (by intro w; go_simp <;> (first | (rw [HQ.out.2.2]; done) | (rw [HQ.out.2.2]; done) | exact HQ.out.2.2 | exact HQ.out.2.2 | (simp [HQ.out.2.2, HQ.out.2.2]; done) | (trace_state; done))) ?_
  simp only [Act.put, List.setIfInBounds_toArray, List.set_cons_zero, List.set_cons_succ]
  refine Seq.done fun ws4 hws => ?_
  have HS4 := hws.st
  clear HS3 hws
  go_upto_region 5 with (fail)
  refine wp_seq_text [] (StR.no HS4) ?_
  refine Seq.pure rfl rfl (by intro w; go_simp; try first | with_reducible rfl | rfl) ?_
  simp only [Act.put, List.setIfInBounds_toArray, List.set_cons_zero, List.set_cons_succ]
  refine Seq.pure rfl rfl (by intro w; go_simp; try first | with_reducible rfl | rfl) ?_
  simp only [Act.put, List.setIfInBounds_toArray, List.set_cons_zero, List.set_cons_succ]
  refine Seq.pure rfl rfl (by intro w; go_simp; try first | with_reducible rfl | rfl) ?_
  simp only [Act.put, List.setIfInBounds_toArray, List.set_cons_zero, List.set_cons_succ]
  refine Seq.done fun ws5 hws => ?_
  have HS5 := hws.st
  clear HS4 hws
  go_wp2_with fail
  go_ret
  exact ⟨rfl, HS5.below⟩
set_option maxHeartbeats 4000000 in
set_option maxRecDepth 20000 in
theorem bn_top1 {bb b : Nat} (w : World) (hT : Tab w) (hbb : bb = (if true = true then 9223372036854775808 else 0) + b) (hb : b = 9218868437227405311) :
    Calls Tryd.prog 11 #[.int .u64 (bb : Int)] w fun e w' => e = .returned (.bool true) ∧ Below w.heap.size w w' := by
  have hbn : bb = 9223372036854775808 + b := hbb
  obtain ⟨q, hq⟩ : ∃ q : Nat, bb / 4503599627370496 = q := ⟨_, rfl⟩
  obtain ⟨c, hc⟩ : ∃ c : Nat, q % 2048 = c := ⟨_, rfl⟩
  have HQ := Lib.hid (show (bb : Int) / 4503599627370496 = (q : Int) ∧ bits BinOp.and IntKind.u64 (q : Int) 2047 = (c : Int) ∧ ¬ (c : Int) = 2047 from ⟨by omega, by rw [and_2047 q (by omega), hc], by omega⟩)
  clear hq hc
  have HT := Lib.hid hT; clear hT
  have h0 : ¬ b = 0 := by omega
  obtain ⟨lo, elo⟩ : ∃ z, frL true b = z := ⟨_, rfl⟩
  obtain ⟨hi, ehi⟩ : ∃ z, frH true b = z := ⟨_, rfl⟩
  have hl : lo = -midE b := by rw [← elo]; unfold frL; rw [if_pos rfl]
  have hh : hi = -midE (b - 1) := by rw [← ehi]; unfold frH; rw [if_pos rfl, if_neg h0]
  have HF := Lib.hid (And.intro elo ehi); clear elo ehi
  have zm := mid_rz (show b < 9218868437227405312 by omega)
  have zp := mid_rz (show b - 1 < 9218868437227405312 by omega)
  have mp := mid_pos b
  have mq := mid_pos (b - 1)
  have ml := mid_le (show b - 1 ≤ b by omega)
  have Z_lo := Lib.hid (show Rz 1000 lo by rw [hl]; exact zm.neg)
  have Z_hi := Lib.hid (show Rz 1000 hi by rw [hh]; exact zp.neg)
  have HLE := Lib.hid (show lo ≤ hi by rw [hl, hh]; grind)
  have HE := Lib.hid (show (b : Int) = 9218868437227405311 from by omega)
  have HB := Lib.hid (show bb = (if true = true then 9223372036854775808 else 0) + b ∧ b < 9218868437227405312 ∧ bits BinOp.andNot IntKind.u64 (bb : Int) 9223372036854775808 = (b : Int) ∧ True from ⟨hbb, by omega, by rw [andNot_top bb (by omega)]; omega, trivial⟩)
  have mt := mid_large
  have hb9 : b = 9218868437227405311 := hb
  rw [← hb9] at mt
  have HM := Lib.hid (show lo < -ex 9218868437227405311 by rw [← hb9, hl]; grind)
  clear mt hb9
  clear zm zp mp mq ml hbb hbn h0 hl hh hb
  go_enter Tryd.func11, Tryd.ntmps11
  have HS : St w [] w := St.start
  go_upto_region 0 with (fail)
  refine wp_seq_text [] (StR.no HS) ?_
  refine Seq.pure rfl rfl (by intro w; go_simp; try first | with_reducible rfl | rfl) ?_
  simp only [Act.put, List.setIfInBounds_toArray, List.set_cons_zero, List.set_cons_succ]
  refine Seq.done fun ws1 hws => ?_
  have HS1 := hws.st
  clear HS hws
  go_upto_region 1 with (fail)
  refine wp_seq_text [] (StR.no HS1) ?_
  refine Seq.call rfl rfl rfl rfl (by kernel_rfl) (bbegun_q HT.out) ?_
  simp only [Act.put, List.setIfInBounds_toArray, List.set_cons_zero, List.set_cons_succ]
  refine Seq.pure rfl rfl (by intro w; go_simp; try first | with_reducible rfl | rfl) ?_
  simp only [Act.put, List.setIfInBounds_toArray, List.set_cons_zero, List.set_cons_succ]
  refine Seq.done fun ws2 hws => ?_
  have HS2 := hws.st
  clear HS1 hws
  go_upto_region 3 with (fail)
  refine wp_seq_text [] (StR.no HS2) ?_
  refine Seq.pure rfl rfl (by intro w; go_simp; try first | with_reducible rfl | rfl) ?_
  simp only [Act.put, List.setIfInBounds_toArray, List.set_cons_zero, List.set_cons_succ]
  refine Seq.call rfl rfl rfl rfl (by kernel_rfl) (from_q (n := true) HT.out HB.out.1 HB.out.2.1 HF.out.1 HF.out.2) ?_
  simp only [Act.put, List.setIfInBounds_toArray, List.set_cons_zero, List.set_cons_succ]
  refine Seq.pure rfl rfl (by intro w; go_simp; try first | with_reducible rfl | rfl) ?_
  simp only [Act.put, List.setIfInBounds_toArray, List.set_cons_zero, List.set_cons_succ]
  refine Seq.pure (v := .agg (VC lo hi)) rfl rfl (fun w => rfl) ?_
  simp only [Act.put, List.setIfInBounds_toArray, List.set_cons_zero, List.set_cons_succ]
  refine Seq.pure (v := .int .i64 0) rfl rfl (fun w => rfl) ?_
  simp only [Act.put, List.setIfInBounds_toArray, List.set_cons_zero, List.set_cons_succ]
  refine Seq.alloc rfl rfl rfl (z := .agg #[.bool false, .string ⟨#[]⟩, .string ⟨#[]⟩, .bool false, .string ⟨#[]⟩, .string ⟨#[]⟩]) (by kernel_rfl) rfl ?_
  intro bk3 _ _ hbk3_r
  simp only [Act.put, List.setIfInBounds_toArray, List.set_cons_zero, List.set_cons_succ]
  refine Seq.store rfl rfl rfl rfl rfl (by first | exact rS | exact rN (by assumption) (rS) | exact rN (by assumption) (rN (by assumption) (rS)) | exact rN (by assumption) (rN (by assumption) (rN (by assumption) (rS))) | exact rN (by assumption) (rN (by assumption) (rN (by assumption) (rN (by assumption) (rS))))) (n := 6) rfl rfl (by kernel_rfl) (VC_one _ _) ?_
  simp only [Act.put, List.setIfInBounds_toArray, List.set_cons_zero, List.set_cons_succ]
  refine Seq.pure rfl rfl (by intro w; go_simp; try first | with_reducible rfl | rfl) ?_
  simp only [Act.put, List.setIfInBounds_toArray, List.set_cons_zero, List.set_cons_succ]
  refine Seq.done fun ws3 hws => ?_
  have HS3 : St w [(bk3, 46, VC lo hi)] ws3 := hws.list1 (by first | exact rS | exact rN (by assumption) (rS) | exact rN (by assumption) (rN (by assumption) (rS)) | exact rN (by assumption) (rN (by assumption) (rN (by assumption) (rS))) | exact rN (by assumption) (rN (by assumption) (rN (by assumption) (rN (by assumption) (rS)))))
  clear HS2 hws
  go_upto_region 4 with (fail)
  refine wp_seq_text [] (StR.no HS3) ?_
  refine Seq.pure rfl rfl (by intro w; go_simp; try first | with_reducible rfl | rfl) ?_
  simp only [Act.put, List.setIfInBounds_toArray, List.set_cons_zero, List.set_cons_succ]
  refine Seq.pure (v := .int .u64 (q : Int)) rfl rfl (by intro w; go_simp <;> (first | (rw [HQ.out.1]; done) | exact HQ.out.1 | (simp [HQ.out.1]; done) | (trace_state; done))) ?_
  simp only [Act.put, List.setIfInBounds_toArray, List.set_cons_zero, List.set_cons_succ]
  refine Seq.pure (v := .int .u64 (c : Int)) rfl rfl (by intro w; go_simp <;> (first | (rw [HQ.out.2.1]; done) | exact HQ.out.2.1 | (simp [HQ.out.2.1]; done) | (trace_state; done))) ?_
  simp only [Act.put, List.setIfInBounds_toArray, List.set_cons_zero, List.set_cons_succ]
  refine Seq.pure (v := .bool false) rfl rfl (by intro w; go_simp <;> (first | (rw [HQ.out.2.2]; done) | (rw [HQ.out.2.2]; done) | exact HQ.out.2.2 | exact HQ.out.2.2 | (simp [HQ.out.2.2, HQ.out.2.2]; done) | (trace_state; done))) ?_
  simp only [Act.put, List.setIfInBounds_toArray, List.set_cons_zero, List.set_cons_succ]
  refine Seq.done fun ws4 hws => ?_
  have HS4 := hws.st
  clear HS3 hws
  go_upto_region 6 with (fail)
  refine wp_seq_text [] (StR.no HS4) ?_
  refine Seq.load rfl rfl rfl rfl (by repeat (first | exact mC | apply mT)) (n := 6) rfl (by kernel_rfl) ?_
  simp only [Act.put, List.setIfInBounds_toArray, List.set_cons_zero, List.set_cons_succ]
  refine Seq.call rfl rfl rfl rfl (by kernel_rfl) (to_el HT.out Z_lo.out Z_hi.out HLE.out HM.out) ?_
  simp only [Act.put, List.setIfInBounds_toArray, List.set_cons_zero, List.set_cons_succ]
  refine Seq.pure rfl rfl (by intro w; go_simp; try first | with_reducible rfl | rfl) ?_
  simp only [Act.put, List.setIfInBounds_toArray, List.set_cons_zero, List.set_cons_succ]
  refine Seq.pure (v := .int .u64 (0 : Int)) rfl rfl (fun w => rfl) ?_
  simp only [Act.put, List.setIfInBounds_toArray, List.set_cons_zero, List.set_cons_succ]
  refine Seq.pure (v := .int .u64 (0 : Int)) rfl rfl (fun w => rfl) ?_
  simp only [Act.put, List.setIfInBounds_toArray, List.set_cons_zero, List.set_cons_succ]
  refine Seq.pure (v := .int .i64 2) rfl rfl (fun w => rfl) ?_
  simp only [Act.put, List.setIfInBounds_toArray, List.set_cons_zero, List.set_cons_succ]
  refine Seq.pure rfl rfl (by intro w; go_simp; try first | with_reducible rfl | rfl) ?_
  simp only [Act.put, List.setIfInBounds_toArray, List.set_cons_zero, List.set_cons_succ]
  refine Seq.pure rfl rfl (by intro w; go_simp; try first | with_reducible rfl | rfl) ?_
  simp only [Act.put, List.setIfInBounds_toArray, List.set_cons_zero, List.set_cons_succ]
  refine Seq.pure rfl rfl (by intro w; go_simp; try first | with_reducible rfl | rfl) ?_
  simp only [Act.put, List.setIfInBounds_toArray, List.set_cons_zero, List.set_cons_succ]
  refine Seq.done fun ws5 hws => ?_
  have HS5 := hws.st
  clear HS4 hws
  go_upto_region 7 with (fail)
  refine wp_seq_text [] (StR.no HS5) ?_
  refine Seq.pure rfl rfl (by intro w; go_simp; try first | with_reducible rfl | rfl) ?_
  simp only [Act.put, List.setIfInBounds_toArray, List.set_cons_zero, List.set_cons_succ]
  refine Seq.pure (v := .int .u64 (b : Int)) rfl rfl (by intro w; go_simp <;> (first | (rw [HB.out.2.2.1]; done) | exact HB.out.2.2.1 | (simp [HB.out.2.2.1]; done) | (trace_state; done))) ?_
  simp only [Act.put, List.setIfInBounds_toArray, List.set_cons_zero, List.set_cons_succ]
  refine Seq.pure rfl rfl (by intro w; go_simp; try first | with_reducible rfl | rfl) ?_
  simp only [Act.put, List.setIfInBounds_toArray, List.set_cons_zero, List.set_cons_succ]
  refine Seq.done fun ws6 hws => ?_
  have HS6 := hws.st
  clear HS5 hws
  go_upto_region 8 with (fail)
  refine wp_seq_text [] (StR.no HS6) ?_
  refine Seq.pure rfl rfl (by intro w; go_simp; try first | with_reducible rfl | rfl) ?_
  simp only [Act.put, List.setIfInBounds_toArray, List.set_cons_zero, List.set_cons_succ]
  refine Seq.pure (v := .bool true) rfl rfl (by intro w; go_simp <;> (first | (rw [HE.out]; done) | (rw [HE.out]; done) | exact HE.out | exact HE.out | (simp [HE.out, HE.out]; done) | (trace_state; done))) ?_
  simp only [Act.put, List.setIfInBounds_toArray, List.set_cons_zero, List.set_cons_succ]
  refine Seq.done fun ws7 hws => ?_
  have HS7 := hws.st
  clear HS6 hws
  go_upto_region 9 with (fail)
  refine wp_seq_text [] (StR.no HS7) ?_
  refine Seq.pure rfl rfl (by intro w; go_simp; try first | with_reducible rfl | rfl) ?_
  simp only [Act.put, List.setIfInBounds_toArray, List.set_cons_zero, List.set_cons_succ]
  refine Seq.pure rfl rfl (by intro w; go_simp; try first | with_reducible rfl | rfl) ?_
  simp only [Act.put, List.setIfInBounds_toArray, List.set_cons_zero, List.set_cons_succ]
  refine Seq.pure rfl rfl (by intro w; go_simp; try first | with_reducible rfl | rfl) ?_
  simp only [Act.put, List.setIfInBounds_toArray, List.set_cons_zero, List.set_cons_succ]
  refine Seq.pure rfl rfl (by intro w; go_simp; try first | with_reducible rfl | rfl) ?_
  simp only [Act.put, List.setIfInBounds_toArray, List.set_cons_zero, List.set_cons_succ]
  refine Seq.pure rfl rfl (by intro w; go_simp; try first | with_reducible rfl | rfl) ?_
  simp only [Act.put, List.setIfInBounds_toArray, List.set_cons_zero, List.set_cons_succ]
  refine Seq.pure rfl rfl (by intro w; go_simp; try first | with_reducible rfl | rfl) ?_
  simp only [Act.put, List.setIfInBounds_toArray, List.set_cons_zero, List.set_cons_succ]
  refine Seq.pure rfl rfl (by intro w; go_simp; try first | with_reducible rfl | rfl) ?_
  simp only [Act.put, List.setIfInBounds_toArray, List.set_cons_zero, List.set_cons_succ]
  refine Seq.done fun ws8 hws => ?_
  have HS8 := hws.st
  clear HS7 hws
  go_wp2_with fail
  go_ret
  exact ⟨rfl, HS8.below⟩
set_option maxHeartbeats 4000000 in
set_option maxRecDepth 20000 in
theorem bn_zero1 {bb b : Nat} (w : World) (hT : Tab w) (hbb : bb = (if true = true then 9223372036854775808 else 0) + b) (hb : b = 0) :
    Calls Tryd.prog 11 #[.int .u64 (bb : Int)] w fun e w' => e = .returned (.bool true) ∧ Below w.heap.size w w' := by
  have hbn : bb = 9223372036854775808 + b := hbb
  obtain ⟨q, hq⟩ : ∃ q : Nat, bb / 4503599627370496 = q := ⟨_, rfl⟩
  obtain ⟨c, hc⟩ : ∃ c : Nat, q % 2048 = c := ⟨_, rfl⟩
  have HQ := Lib.hid (show (bb : Int) / 4503599627370496 = (q : Int) ∧ bits BinOp.and IntKind.u64 (q : Int) 2047 = (c : Int) ∧ ¬ (c : Int) = 2047 from ⟨by omega, by rw [and_2047 q (by omega), hc], by omega⟩)
  clear hq hc
  have HT := Lib.hid hT; clear hT
  have h0 : b = 0 := by omega
  obtain ⟨lo, elo⟩ : ∃ z, frL true b = z := ⟨_, rfl⟩
  obtain ⟨hi, ehi⟩ : ∃ z, frH true b = z := ⟨_, rfl⟩
  have hl : lo = -midE b := by rw [← elo]; unfold frL; rw [if_pos rfl]
  have hh : hi = midE b := by rw [← ehi]; unfold frH; rw [if_pos rfl, if_pos h0]
  have HF := Lib.hid (And.intro elo ehi); clear elo ehi
  have zm := mid_rz (show b < 9218868437227405312 by omega)
  have zp := mid_rz (show b - 1 < 9218868437227405312 by omega)
  have mp := mid_pos b
  have mq := mid_pos (b - 1)
  have ml := mid_le (show b - 1 ≤ b by omega)
  have Z_lo := Lib.hid (show Rz 1000 lo by rw [hl]; exact zm.neg)
  have Z_hi := Lib.hid (show Rz 1000 hi by rw [hh]; exact zm)
  have HLE := Lib.hid (show lo ≤ hi by rw [hl, hh]; grind)
  have HE := Lib.hid (show ¬ (b : Int) = 9218868437227405311 from by omega)
  have HB := Lib.hid (show bb = (if true = true then 9223372036854775808 else 0) + b ∧ b < 9218868437227405312 ∧ bits BinOp.andNot IntKind.u64 (bb : Int) 9223372036854775808 = (b : Int) ∧ True from ⟨hbb, by omega, by rw [andNot_top bb (by omega)]; omega, trivial⟩)
  have mt := mid_most (show b < 9218868437227405311 by omega)
  have mt2 := mid_most (show b - 1 < 9218868437227405311 by omega)
  have HM := Lib.hid (show -ex 9218868437227405311 ≤ lo ∧ hi ≤ ex 9218868437227405311 by rw [hl, hh]; constructor <;> grind)
  clear mt mt2
  obtain ⟨m0, hm0⟩ : ∃ m0 : Nat, m0 = 18446744073709551615 := ⟨_, rfl⟩
  obtain ⟨m1, hm1⟩ : ∃ m1 : Nat, m1 = b + 1 := ⟨_, rfl⟩
  have HA := Lib.hid (show IntKind.u64.wrap ((b : Int) - 1) = (m0 : Int) ∧ IntKind.u64.wrap ((b : Int) + 1) = (m1 : Int) ∧ b = 0 ∧ (bb : Int) / 9223372036854775808 = 1 ∧ True from ⟨by rw [h0, hm0]; decide, by rw [IntWalk.u64_in _ (by omega)]; omega, by omega, by omega, trivial⟩)
  obtain ⟨b3, hb3⟩ : ∃ b3 : Nat, b3 = 1 + 9223372036854775808 := ⟨_, rfl⟩
  obtain ⟨b4, hb4⟩ : ∃ b4 : Nat, b4 = 9223372036854775809 := ⟨_, rfl⟩
  have HR := Lib.hid (show bits BinOp.or IntKind.u64 (m1 : Int) 9223372036854775808 = (b3 : Int) ∧ bits BinOp.or IntKind.u64 9223372036854775809 9223372036854775808 = (b4 : Int) ∧ ¬ (b : Int) = 1 from ⟨by rw [or_top m1 (by omega)]; omega, by rw [or_again, hb4]; rfl, by omega⟩)
  have HZ := Lib.hid (show (b3 : Int) = 9223372036854775809 ∧ (1 : Int) = (m1 : Int) from ⟨by omega, by omega⟩)
  have ov := ovr_mid (show b < 9218868437227405311 by omega)
  rw [show b + 1 = 1 by omega] at ov
  have HO := Lib.hid (show lo < 0 ∧ Ovr (-lo) 1 ∧ b3 = 1 + 9223372036854775808 ∧ 0 ≤ hi ∧ Ovr hi 1 from ⟨by rw [hl]; grind, by rw [hl, Rat.neg_neg]; exact ov, hb3, by rw [hh]; grind, by rw [hh]; exact ov⟩)
  clear hb zm zp mp mq ml hbb hbn h0 hl hh hm0 hm1 ov hb3 hb4
  go_enter Tryd.func11, Tryd.ntmps11
  have HS : St w [] w := St.start
  go_upto_region 0 with (fail)
  refine wp_seq_text [] (StR.no HS) ?_
  refine Seq.pure rfl rfl (by intro w; go_simp; try first | with_reducible rfl | rfl) ?_
  simp only [Act.put, List.setIfInBounds_toArray, List.set_cons_zero, List.set_cons_succ]
  refine Seq.done fun ws1 hws => ?_
  have HS1 := hws.st
  clear HS hws
  go_upto_region 1 with (fail)
  refine wp_seq_text [] (StR.no HS1) ?_
  refine Seq.call rfl rfl rfl rfl (by kernel_rfl) (bbegun_q HT.out) ?_
  simp only [Act.put, List.setIfInBounds_toArray, List.set_cons_zero, List.set_cons_succ]
  refine Seq.pure rfl rfl (by intro w; go_simp; try first | with_reducible rfl | rfl) ?_
  simp only [Act.put, List.setIfInBounds_toArray, List.set_cons_zero, List.set_cons_succ]
  refine Seq.done fun ws2 hws => ?_
  have HS2 := hws.st
  clear HS1 hws
  go_upto_region 3 with (fail)
  refine wp_seq_text [] (StR.no HS2) ?_
  refine Seq.pure rfl rfl (by intro w; go_simp; try first | with_reducible rfl | rfl) ?_
  simp only [Act.put, List.setIfInBounds_toArray, List.set_cons_zero, List.set_cons_succ]
  refine Seq.call rfl rfl rfl rfl (by kernel_rfl) (from_q (n := true) HT.out HB.out.1 HB.out.2.1 HF.out.1 HF.out.2) ?_
  simp only [Act.put, List.setIfInBounds_toArray, List.set_cons_zero, List.set_cons_succ]
  refine Seq.pure rfl rfl (by intro w; go_simp; try first | with_reducible rfl | rfl) ?_
  simp only [Act.put, List.setIfInBounds_toArray, List.set_cons_zero, List.set_cons_succ]
  refine Seq.pure (v := .agg (VC lo hi)) rfl rfl (fun w => rfl) ?_
  simp only [Act.put, List.setIfInBounds_toArray, List.set_cons_zero, List.set_cons_succ]
  refine Seq.pure (v := .int .i64 0) rfl rfl (fun w => rfl) ?_
  simp only [Act.put, List.setIfInBounds_toArray, List.set_cons_zero, List.set_cons_succ]
  refine Seq.alloc rfl rfl rfl (z := .agg #[.bool false, .string ⟨#[]⟩, .string ⟨#[]⟩, .bool false, .string ⟨#[]⟩, .string ⟨#[]⟩]) (by kernel_rfl) rfl ?_
  intro bk3 _ _ hbk3_r
  simp only [Act.put, List.setIfInBounds_toArray, List.set_cons_zero, List.set_cons_succ]
  refine Seq.store rfl rfl rfl rfl rfl (by first | exact rS | exact rN (by assumption) (rS) | exact rN (by assumption) (rN (by assumption) (rS)) | exact rN (by assumption) (rN (by assumption) (rN (by assumption) (rS))) | exact rN (by assumption) (rN (by assumption) (rN (by assumption) (rN (by assumption) (rS))))) (n := 6) rfl rfl (by kernel_rfl) (VC_one _ _) ?_
  simp only [Act.put, List.setIfInBounds_toArray, List.set_cons_zero, List.set_cons_succ]
  refine Seq.pure rfl rfl (by intro w; go_simp; try first | with_reducible rfl | rfl) ?_
  simp only [Act.put, List.setIfInBounds_toArray, List.set_cons_zero, List.set_cons_succ]
  refine Seq.done fun ws3 hws => ?_
  have HS3 : St w [(bk3, 46, VC lo hi)] ws3 := hws.list1 (by first | exact rS | exact rN (by assumption) (rS) | exact rN (by assumption) (rN (by assumption) (rS)) | exact rN (by assumption) (rN (by assumption) (rN (by assumption) (rS))) | exact rN (by assumption) (rN (by assumption) (rN (by assumption) (rN (by assumption) (rS)))))
  clear HS2 hws
  go_upto_region 4 with (fail)
  refine wp_seq_text [] (StR.no HS3) ?_
  refine Seq.pure rfl rfl (by intro w; go_simp; try first | with_reducible rfl | rfl) ?_
  simp only [Act.put, List.setIfInBounds_toArray, List.set_cons_zero, List.set_cons_succ]
  refine Seq.pure (v := .int .u64 (q : Int)) rfl rfl (by intro w; go_simp <;> (first | (rw [HQ.out.1]; done) | exact HQ.out.1 | (simp [HQ.out.1]; done) | (trace_state; done))) ?_
  simp only [Act.put, List.setIfInBounds_toArray, List.set_cons_zero, List.set_cons_succ]
  refine Seq.pure (v := .int .u64 (c : Int)) rfl rfl (by intro w; go_simp <;> (first | (rw [HQ.out.2.1]; done) | exact HQ.out.2.1 | (simp [HQ.out.2.1]; done) | (trace_state; done))) ?_
  simp only [Act.put, List.setIfInBounds_toArray, List.set_cons_zero, List.set_cons_succ]
  refine Seq.pure (v := .bool false) rfl rfl (by intro w; go_simp <;> (first | (rw [HQ.out.2.2]; done) | (rw [HQ.out.2.2]; done) | exact HQ.out.2.2 | exact HQ.out.2.2 | (simp [HQ.out.2.2, HQ.out.2.2]; done) | (trace_state; done))) ?_
  simp only [Act.put, List.setIfInBounds_toArray, List.set_cons_zero, List.set_cons_succ]
  refine Seq.done fun ws4 hws => ?_
  have HS4 := hws.st
  clear HS3 hws
  go_upto_region 6 with (fail)
  refine wp_seq_text [] (StR.no HS4) ?_
  refine Seq.load rfl rfl rfl rfl (by repeat (first | exact mC | apply mT)) (n := 6) rfl (by kernel_rfl) ?_
  simp only [Act.put, List.setIfInBounds_toArray, List.set_cons_zero, List.set_cons_succ]
  refine Seq.call rfl rfl rfl rfl (by kernel_rfl) (to_np HT.out Z_lo.out Z_hi.out HLE.out HM.out.1 HM.out.2 HO.out.1 HO.out.2.1 HO.out.2.2.1 HO.out.2.2.2.1 HO.out.2.2.2.2) ?_
  simp only [Act.put, List.setIfInBounds_toArray, List.set_cons_zero, List.set_cons_succ]
  refine Seq.pure rfl rfl (by intro w; go_simp; try first | with_reducible rfl | rfl) ?_
  simp only [Act.put, List.setIfInBounds_toArray, List.set_cons_zero, List.set_cons_succ]
  refine Seq.pure (v := .int .u64 (b3 : Int)) rfl rfl (fun w => rfl) ?_
  simp only [Act.put, List.setIfInBounds_toArray, List.set_cons_zero, List.set_cons_succ]
  refine Seq.pure (v := .int .u64 ((1 : Nat) : Int)) rfl rfl (fun w => rfl) ?_
  simp only [Act.put, List.setIfInBounds_toArray, List.set_cons_zero, List.set_cons_succ]
  refine Seq.pure (v := .int .i64 0) rfl rfl (fun w => rfl) ?_
  simp only [Act.put, List.setIfInBounds_toArray, List.set_cons_zero, List.set_cons_succ]
  refine Seq.pure rfl rfl (by intro w; go_simp; try first | with_reducible rfl | rfl) ?_
  simp only [Act.put, List.setIfInBounds_toArray, List.set_cons_zero, List.set_cons_succ]
  refine Seq.pure rfl rfl (by intro w; go_simp; try first | with_reducible rfl | rfl) ?_
  simp only [Act.put, List.setIfInBounds_toArray, List.set_cons_zero, List.set_cons_succ]
  refine Seq.pure rfl rfl (by intro w; go_simp; try first | with_reducible rfl | rfl) ?_
  simp only [Act.put, List.setIfInBounds_toArray, List.set_cons_zero, List.set_cons_succ]
  refine Seq.done fun ws5 hws => ?_
  have HS5 := hws.st
  clear HS4 hws
  go_upto_region 7 with (fail)
  refine wp_seq_text [] (StR.no HS5) ?_
  refine Seq.pure rfl rfl (by intro w; go_simp; try first | with_reducible rfl | rfl) ?_
  simp only [Act.put, List.setIfInBounds_toArray, List.set_cons_zero, List.set_cons_succ]
  refine Seq.pure (v := .int .u64 (b : Int)) rfl rfl (by intro w; go_simp <;> (first | (rw [HB.out.2.2.1]; done) | exact HB.out.2.2.1 | (simp [HB.out.2.2.1]; done) | (trace_state; done))) ?_
  simp only [Act.put, List.setIfInBounds_toArray, List.set_cons_zero, List.set_cons_succ]
  refine Seq.pure rfl rfl (by intro w; go_simp; try first | with_reducible rfl | rfl) ?_
  simp only [Act.put, List.setIfInBounds_toArray, List.set_cons_zero, List.set_cons_succ]
  refine Seq.done fun ws6 hws => ?_
  have HS6 := hws.st
  clear HS5 hws
  go_upto_region 8 with (fail)
  refine wp_seq_text [] (StR.no HS6) ?_
  refine Seq.pure rfl rfl (by intro w; go_simp; try first | with_reducible rfl | rfl) ?_
  simp only [Act.put, List.setIfInBounds_toArray, List.set_cons_zero, List.set_cons_succ]
  refine Seq.pure (v := .bool false) rfl rfl (by intro w; go_simp <;> (first | (rw [HE.out]; done) | (rw [HE.out]; done) | exact HE.out | exact HE.out | (simp [HE.out, HE.out]; done) | (trace_state; done))) ?_
  simp only [Act.put, List.setIfInBounds_toArray, List.set_cons_zero, List.set_cons_succ]
  refine Seq.done fun ws7 hws => ?_
  have HS7 := hws.st
  clear HS6 hws
  go_upto_region 10 with (fail)
  refine wp_seq_text [] (StR.no HS7) ?_
  refine Seq.pure rfl rfl (by intro w; go_simp; try first | with_reducible rfl | rfl) ?_
  simp only [Act.put, List.setIfInBounds_toArray, List.set_cons_zero, List.set_cons_succ]
  refine Seq.pure (v := .int .u64 (m0 : Int)) rfl rfl (by intro w; go_simp <;> (first | (rw [HA.out.1]; done) | (rw [HA.out.1]; done) | exact HA.out.1 | exact HA.out.1 | (simp [HA.out.1, HA.out.1]; done) | (trace_state; done))) ?_
  simp only [Act.put, List.setIfInBounds_toArray, List.set_cons_zero, List.set_cons_succ]
  refine Seq.pure rfl rfl (by intro w; go_simp; try first | with_reducible rfl | rfl) ?_
  simp only [Act.put, List.setIfInBounds_toArray, List.set_cons_zero, List.set_cons_succ]
  refine Seq.pure (v := .int .u64 (m1 : Int)) rfl rfl (by intro w; go_simp <;> (first | (rw [HA.out.2.1]; done) | (rw [HA.out.2.1]; done) | exact HA.out.2.1 | exact HA.out.2.1 | (simp [HA.out.2.1, HA.out.2.1]; done) | (trace_state; done))) ?_
  simp only [Act.put, List.setIfInBounds_toArray, List.set_cons_zero, List.set_cons_succ]
  refine Seq.pure rfl rfl (by intro w; go_simp; try first | with_reducible rfl | rfl) ?_
  simp only [Act.put, List.setIfInBounds_toArray, List.set_cons_zero, List.set_cons_succ]
  refine Seq.pure rfl rfl (by intro w; go_simp; try first | with_reducible rfl | rfl) ?_
  simp only [Act.put, List.setIfInBounds_toArray, List.set_cons_zero, List.set_cons_succ]
  refine Seq.done fun ws8 hws => ?_
  have HS8 := hws.st
  clear HS7 hws
  go_upto_region 11 with (fail)
  refine wp_seq_text [] (StR.no HS8) ?_
  refine Seq.pure rfl rfl (by intro w; go_simp; try first | with_reducible rfl | rfl) ?_
  simp only [Act.put, List.setIfInBounds_toArray, List.set_cons_zero, List.set_cons_succ]
  refine Seq.pure (v := .bool true) rfl rfl (by intro w; go_simp <;> (first | (rw [HA.out.2.2.1]; done) | (rw [HA.out.2.2.1]; done) | exact HA.out.2.2.1 | exact HA.out.2.2.1 | (simp [HA.out.2.2.1, HA.out.2.2.1]; done) | (trace_state; done))) ?_
  simp only [Act.put, List.setIfInBounds_toArray, List.set_cons_zero, List.set_cons_succ]
  refine Seq.done fun ws9 hws => ?_
  have HS9 := hws.st
  clear HS8 hws
  go_upto_region 12 with (fail)
  refine wp_seq_text [] (StR.no HS9) ?_
  refine Seq.pure rfl rfl (by intro w; go_simp; try first | with_reducible rfl | rfl) ?_
  simp only [Act.put, List.setIfInBounds_toArray, List.set_cons_zero, List.set_cons_succ]
  refine Seq.done fun ws10 hws => ?_
  have HS10 := hws.st
  clear HS9 hws
  go_upto_region 13 with (fail)
  refine wp_seq_text [] (StR.no HS10) ?_
  refine Seq.pure rfl rfl (by intro w; go_simp; try first | with_reducible rfl | rfl) ?_
  simp only [Act.put, List.setIfInBounds_toArray, List.set_cons_zero, List.set_cons_succ]
  refine Seq.pure (v := .int .u64 1) rfl rfl (by intro w; go_simp <;> (first | (rw [HA.out.2.2.2.1]; done) | exact HA.out.2.2.2.1 | (simp [HA.out.2.2.2.1]; done) | (trace_state; done))) ?_
  simp only [Act.put, List.setIfInBounds_toArray, List.set_cons_zero, List.set_cons_succ]
  refine Seq.pure rfl rfl (by intro w; go_simp; try first | with_reducible rfl | rfl) ?_
  simp only [Act.put, List.setIfInBounds_toArray, List.set_cons_zero, List.set_cons_succ]
  refine Seq.done fun ws11 hws => ?_
  have HS11 := hws.st
  clear HS10 hws
  go_upto_region 14 with (fail)
  refine wp_seq_text [] (StR.no HS11) ?_
  refine Seq.pure rfl rfl (by intro w; go_simp; try first | with_reducible rfl | rfl) ?_
  simp only [Act.put, List.setIfInBounds_toArray, List.set_cons_zero, List.set_cons_succ]
  refine Seq.pure (v := .int .u64 (b3 : Int)) rfl rfl (by intro w; go_simp <;> (first | (rw [HR.out.1]; done) | exact HR.out.1 | (simp [HR.out.1]; done) | (trace_state; done))) ?_
  simp only [Act.put, List.setIfInBounds_toArray, List.set_cons_zero, List.set_cons_succ]
  refine Seq.pure rfl rfl (by intro w; go_simp; try first | with_reducible rfl | rfl) ?_
  simp only [Act.put, List.setIfInBounds_toArray, List.set_cons_zero, List.set_cons_succ]
  refine Seq.pure (v := .int .u64 (b4 : Int)) rfl rfl (by intro w; go_simp <;> (first | (rw [HR.out.2.1]; done) | (rw [HR.out.2.1]; done) | exact HR.out.2.1 | exact HR.out.2.1 | (simp [HR.out.2.1, HR.out.2.1]; done) | (trace_state; done))) ?_
  simp only [Act.put, List.setIfInBounds_toArray, List.set_cons_zero, List.set_cons_succ]
  refine Seq.pure rfl rfl (by intro w; go_simp; try first | with_reducible rfl | rfl) ?_
  simp only [Act.put, List.setIfInBounds_toArray, List.set_cons_zero, List.set_cons_succ]
  refine Seq.pure rfl rfl (by intro w; go_simp; try first | with_reducible rfl | rfl) ?_
  simp only [Act.put, List.setIfInBounds_toArray, List.set_cons_zero, List.set_cons_succ]
  refine Seq.done fun ws12 hws => ?_
  have HS12 := hws.st
  clear HS11 hws
  go_upto_region 15 with (fail)
  refine wp_seq_text [] (StR.no HS12) ?_
  refine Seq.pure rfl rfl (by intro w; go_simp; try first | with_reducible rfl | rfl) ?_
  simp only [Act.put, List.setIfInBounds_toArray, List.set_cons_zero, List.set_cons_succ]
  refine Seq.pure (v := .bool false) rfl rfl (by intro w; go_simp <;> (first | (rw [HR.out.2.2]; done) | (rw [HR.out.2.2]; done) | exact HR.out.2.2 | exact HR.out.2.2 | (simp [HR.out.2.2, HR.out.2.2]; done) | (trace_state; done))) ?_
  simp only [Act.put, List.setIfInBounds_toArray, List.set_cons_zero, List.set_cons_succ]
  refine Seq.done fun ws13 hws => ?_
  have HS13 := hws.st
  clear HS12 hws
  go_upto_region 17 with (fail)
  refine wp_seq_text [] (StR.no HS13) ?_
  refine Seq.pure rfl rfl (by intro w; go_simp; try first | with_reducible rfl | rfl) ?_
  simp only [Act.put, List.setIfInBounds_toArray, List.set_cons_zero, List.set_cons_succ]
  refine Seq.pure (v := .bool true) rfl rfl (by intro w; go_simp <;> (first | (rw [HA.out.2.2.1]; done) | (rw [HA.out.2.2.1]; done) | exact HA.out.2.2.1 | exact HA.out.2.2.1 | (simp [HA.out.2.2.1, HA.out.2.2.1]; done) | (trace_state; done))) ?_
  simp only [Act.put, List.setIfInBounds_toArray, List.set_cons_zero, List.set_cons_succ]
  refine Seq.done fun ws14 hws => ?_
  have HS14 := hws.st
  clear HS13 hws
  go_upto_region 18 with (fail)
  refine wp_seq_text [] (StR.no HS14) ?_
  refine Seq.pure rfl rfl (by intro w; go_simp; try first | with_reducible rfl | rfl) ?_
  simp only [Act.put, List.setIfInBounds_toArray, List.set_cons_zero, List.set_cons_succ]
  refine Seq.pure rfl rfl (by intro w; go_simp; try first | with_reducible rfl | rfl) ?_
  simp only [Act.put, List.setIfInBounds_toArray, List.set_cons_zero, List.set_cons_succ]
  refine Seq.done fun ws15 hws => ?_
  have HS15 := hws.st
  clear HS14 hws
  go_upto_region 19 with (fail)
  refine wp_seq_text [] (StR.no HS15) ?_
  refine Seq.pure rfl rfl (by intro w; go_simp; try first | with_reducible rfl | rfl) ?_
  simp only [Act.put, List.setIfInBounds_toArray, List.set_cons_zero, List.set_cons_succ]
  refine Seq.pure rfl rfl (by intro w; go_simp; try first | with_reducible rfl | rfl) ?_
  simp only [Act.put, List.setIfInBounds_toArray, List.set_cons_zero, List.set_cons_succ]
  refine Seq.pure rfl rfl (by intro w; go_simp; try first | with_reducible rfl | rfl) ?_
  simp only [Act.put, List.setIfInBounds_toArray, List.set_cons_zero, List.set_cons_succ]
  refine Seq.pure rfl rfl (by intro w; go_simp; try first | with_reducible rfl | rfl) ?_
  simp only [Act.put, List.setIfInBounds_toArray, List.set_cons_zero, List.set_cons_succ]
  refine Seq.pure rfl rfl (by intro w; go_simp; try first | with_reducible rfl | rfl) ?_
  simp only [Act.put, List.setIfInBounds_toArray, List.set_cons_zero, List.set_cons_succ]
  refine Seq.pure rfl rfl (by intro w; go_simp; try first | with_reducible rfl | rfl) ?_
  simp only [Act.put, List.setIfInBounds_toArray, List.set_cons_zero, List.set_cons_succ]
  refine Seq.pure rfl rfl (by intro w; go_simp; try first | with_reducible rfl | rfl) ?_
  simp only [Act.put, List.setIfInBounds_toArray, List.set_cons_zero, List.set_cons_succ]
  refine Seq.pure rfl rfl (by intro w; go_simp; try first | with_reducible rfl | rfl) ?_
  simp only [Act.put, List.setIfInBounds_toArray, List.set_cons_zero, List.set_cons_succ]
  refine Seq.pure rfl rfl (by intro w; go_simp; try first | with_reducible rfl | rfl) ?_
  simp only [Act.put, List.setIfInBounds_toArray, List.set_cons_zero, List.set_cons_succ]
  refine Seq.pure (v := .bool true) rfl rfl (by intro w; go_simp <;> (first | (rw [HZ.out.1]; done) | exact HZ.out.1 | (simp [HZ.out.1]; done) | (trace_state; done))) ?_
  simp only [Act.put, List.setIfInBounds_toArray, List.set_cons_zero, List.set_cons_succ]
  refine Seq.pure rfl rfl (by intro w; go_simp; try first | with_reducible rfl | rfl) ?_
  simp only [Act.put, List.setIfInBounds_toArray, List.set_cons_zero, List.set_cons_succ]
  refine Seq.pure rfl rfl (by intro w; go_simp; try first | with_reducible rfl | rfl) ?_
  simp only [Act.put, List.setIfInBounds_toArray, List.set_cons_zero, List.set_cons_succ]
  refine Seq.pure rfl rfl (by intro w; go_simp; try first | with_reducible rfl | rfl) ?_
  simp only [Act.put, List.setIfInBounds_toArray, List.set_cons_zero, List.set_cons_succ]
  refine Seq.pure rfl rfl (by intro w; go_simp; try first | with_reducible rfl | rfl) ?_
  simp only [Act.put, List.setIfInBounds_toArray, List.set_cons_zero, List.set_cons_succ]
  refine Seq.pure (v := .bool true) rfl rfl (by intro w; go_simp <;> (first | (rw [HZ.out.2]; done) | exact HZ.out.2 | (simp [HZ.out.2]; done) | (trace_state; done))) ?_
  simp only [Act.put, List.setIfInBounds_toArray, List.set_cons_zero, List.set_cons_succ]
  refine Seq.pure rfl rfl (by intro w; go_simp; try first | with_reducible rfl | rfl) ?_
  simp only [Act.put, List.setIfInBounds_toArray, List.set_cons_zero, List.set_cons_succ]
  refine Seq.pure rfl rfl (by intro w; go_simp; try first | with_reducible rfl | rfl) ?_
  simp only [Act.put, List.setIfInBounds_toArray, List.set_cons_zero, List.set_cons_succ]
  refine Seq.done fun ws16 hws => ?_
  have HS16 := hws.st
  clear HS15 hws
  go_wp2_with fail
  go_ret
  exact ⟨rfl, HS16.below⟩
set_option maxHeartbeats 4000000 in
set_option maxRecDepth 20000 in
theorem bn_one1 {bb b : Nat} (w : World) (hT : Tab w) (hbb : bb = (if true = true then 9223372036854775808 else 0) + b) (hb : b = 1) :
    Calls Tryd.prog 11 #[.int .u64 (bb : Int)] w fun e w' => e = .returned (.bool true) ∧ Below w.heap.size w w' := by
  have hbn : bb = 9223372036854775808 + b := hbb
  obtain ⟨q, hq⟩ : ∃ q : Nat, bb / 4503599627370496 = q := ⟨_, rfl⟩
  obtain ⟨c, hc⟩ : ∃ c : Nat, q % 2048 = c := ⟨_, rfl⟩
  have HQ := Lib.hid (show (bb : Int) / 4503599627370496 = (q : Int) ∧ bits BinOp.and IntKind.u64 (q : Int) 2047 = (c : Int) ∧ ¬ (c : Int) = 2047 from ⟨by omega, by rw [and_2047 q (by omega), hc], by omega⟩)
  clear hq hc
  have HT := Lib.hid hT; clear hT
  have h0 : ¬ b = 0 := by omega
  obtain ⟨lo, elo⟩ : ∃ z, frL true b = z := ⟨_, rfl⟩
  obtain ⟨hi, ehi⟩ : ∃ z, frH true b = z := ⟨_, rfl⟩
  have hl : lo = -midE b := by rw [← elo]; unfold frL; rw [if_pos rfl]
  have hh : hi = -midE (b - 1) := by rw [← ehi]; unfold frH; rw [if_pos rfl, if_neg h0]
  have HF := Lib.hid (And.intro elo ehi); clear elo ehi
  have zm := mid_rz (show b < 9218868437227405312 by omega)
  have zp := mid_rz (show b - 1 < 9218868437227405312 by omega)
  have mp := mid_pos b
  have mq := mid_pos (b - 1)
  have ml := mid_le (show b - 1 ≤ b by omega)
  have Z_lo := Lib.hid (show Rz 1000 lo by rw [hl]; exact zm.neg)
  have Z_hi := Lib.hid (show Rz 1000 hi by rw [hh]; exact zp.neg)
  have HLE := Lib.hid (show lo ≤ hi by rw [hl, hh]; grind)
  have HE := Lib.hid (show ¬ (b : Int) = 9218868437227405311 from by omega)
  have HB := Lib.hid (show bb = (if true = true then 9223372036854775808 else 0) + b ∧ b < 9218868437227405312 ∧ bits BinOp.andNot IntKind.u64 (bb : Int) 9223372036854775808 = (b : Int) ∧ True from ⟨hbb, by omega, by rw [andNot_top bb (by omega)]; omega, trivial⟩)
  have mt := mid_most (show b < 9218868437227405311 by omega)
  have mt2 := mid_most (show b - 1 < 9218868437227405311 by omega)
  have HM := Lib.hid (show -ex 9218868437227405311 ≤ lo ∧ hi ≤ ex 9218868437227405311 by rw [hl, hh]; constructor <;> grind)
  clear mt mt2
  obtain ⟨m0, hm0⟩ : ∃ m0 : Nat, m0 = b - 1 := ⟨_, rfl⟩
  obtain ⟨m1, hm1⟩ : ∃ m1 : Nat, m1 = b + 1 := ⟨_, rfl⟩
  have HA := Lib.hid (show IntKind.u64.wrap ((b : Int) - 1) = (m0 : Int) ∧ IntKind.u64.wrap ((b : Int) + 1) = (m1 : Int) ∧ ¬ b = 0 ∧ (bb : Int) / 9223372036854775808 = 1 ∧ True from ⟨by rw [IntWalk.u64_in _ (by omega)]; omega, by rw [IntWalk.u64_in _ (by omega)]; omega, by omega, by omega, trivial⟩)
  obtain ⟨b3, hb3⟩ : ∃ b3 : Nat, b3 = m1 + 9223372036854775808 := ⟨_, rfl⟩
  obtain ⟨b4, hb4⟩ : ∃ b4 : Nat, b4 = m0 + 9223372036854775808 := ⟨_, rfl⟩
  have HR := Lib.hid (show bits BinOp.or IntKind.u64 (m1 : Int) 9223372036854775808 = (b3 : Int) ∧ bits BinOp.or IntKind.u64 (m0 : Int) 9223372036854775808 = (b4 : Int) ∧ (b : Int) = 1 from ⟨by rw [or_top m1 (by omega), hb3], by rw [or_top m0 (by omega), hb4], by omega⟩)
  have HZ := Lib.hid (show b3 = b3 ∧ b4 = b4 from ⟨rfl, rfl⟩)
  have ov := ovr_mid (show b < 9218868437227405311 by omega)
  have un := und_mid (show b - 1 < 9218868437227405312 by omega)
  rw [← hm1] at ov
  rw [show b - 1 = 0 by omega] at un
  have HO := Lib.hid (show lo < 0 ∧ Ovr (-lo) m1 ∧ b3 = m1 + 9223372036854775808 ∧ hi < 0 ∧ Und (-hi) 0 from ⟨by rw [hl]; grind, by rw [hl, Rat.neg_neg]; exact ov, hb3, by rw [hh]; grind, by rw [hh, Rat.neg_neg, show b - 1 = 0 by omega]; exact un⟩)
  clear zm zp mp mq ml hbb hbn h0 hl hh hm0 hm1 ov un hb3 hb4 hb
  go_enter Tryd.func11, Tryd.ntmps11
  have HS : St w [] w := St.start
  go_upto_region 0 with (fail)
  refine wp_seq_text [] (StR.no HS) ?_
  refine Seq.pure rfl rfl (by intro w; go_simp; try first | with_reducible rfl | rfl) ?_
  simp only [Act.put, List.setIfInBounds_toArray, List.set_cons_zero, List.set_cons_succ]
  refine Seq.done fun ws1 hws => ?_
  have HS1 := hws.st
  clear HS hws
  go_upto_region 1 with (fail)
  refine wp_seq_text [] (StR.no HS1) ?_
  refine Seq.call rfl rfl rfl rfl (by kernel_rfl) (bbegun_q HT.out) ?_
  simp only [Act.put, List.setIfInBounds_toArray, List.set_cons_zero, List.set_cons_succ]
  refine Seq.pure rfl rfl (by intro w; go_simp; try first | with_reducible rfl | rfl) ?_
  simp only [Act.put, List.setIfInBounds_toArray, List.set_cons_zero, List.set_cons_succ]
  refine Seq.done fun ws2 hws => ?_
  have HS2 := hws.st
  clear HS1 hws
  go_upto_region 3 with (fail)
  refine wp_seq_text [] (StR.no HS2) ?_
  refine Seq.pure rfl rfl (by intro w; go_simp; try first | with_reducible rfl | rfl) ?_
  simp only [Act.put, List.setIfInBounds_toArray, List.set_cons_zero, List.set_cons_succ]
  refine Seq.call rfl rfl rfl rfl (by kernel_rfl) (from_q (n := true) HT.out HB.out.1 HB.out.2.1 HF.out.1 HF.out.2) ?_
  simp only [Act.put, List.setIfInBounds_toArray, List.set_cons_zero, List.set_cons_succ]
  refine Seq.pure rfl rfl (by intro w; go_simp; try first | with_reducible rfl | rfl) ?_
  simp only [Act.put, List.setIfInBounds_toArray, List.set_cons_zero, List.set_cons_succ]
  refine Seq.pure (v := .agg (VC lo hi)) rfl rfl (fun w => rfl) ?_
  simp only [Act.put, List.setIfInBounds_toArray, List.set_cons_zero, List.set_cons_succ]
  refine Seq.pure (v := .int .i64 0) rfl rfl (fun w => rfl) ?_
  simp only [Act.put, List.setIfInBounds_toArray, List.set_cons_zero, List.set_cons_succ]
  refine Seq.alloc rfl rfl rfl (z := .agg #[.bool false, .string ⟨#[]⟩, .string ⟨#[]⟩, .bool false, .string ⟨#[]⟩, .string ⟨#[]⟩]) (by kernel_rfl) rfl ?_
  intro bk3 _ _ hbk3_r
  simp only [Act.put, List.setIfInBounds_toArray, List.set_cons_zero, List.set_cons_succ]
  refine Seq.store rfl rfl rfl rfl rfl (by first | exact rS | exact rN (by assumption) (rS) | exact rN (by assumption) (rN (by assumption) (rS)) | exact rN (by assumption) (rN (by assumption) (rN (by assumption) (rS))) | exact rN (by assumption) (rN (by assumption) (rN (by assumption) (rN (by assumption) (rS))))) (n := 6) rfl rfl (by kernel_rfl) (VC_one _ _) ?_
  simp only [Act.put, List.setIfInBounds_toArray, List.set_cons_zero, List.set_cons_succ]
  refine Seq.pure rfl rfl (by intro w; go_simp; try first | with_reducible rfl | rfl) ?_
  simp only [Act.put, List.setIfInBounds_toArray, List.set_cons_zero, List.set_cons_succ]
  refine Seq.done fun ws3 hws => ?_
  have HS3 : St w [(bk3, 46, VC lo hi)] ws3 := hws.list1 (by first | exact rS | exact rN (by assumption) (rS) | exact rN (by assumption) (rN (by assumption) (rS)) | exact rN (by assumption) (rN (by assumption) (rN (by assumption) (rS))) | exact rN (by assumption) (rN (by assumption) (rN (by assumption) (rN (by assumption) (rS)))))
  clear HS2 hws
  go_upto_region 4 with (fail)
  refine wp_seq_text [] (StR.no HS3) ?_
  refine Seq.pure rfl rfl (by intro w; go_simp; try first | with_reducible rfl | rfl) ?_
  simp only [Act.put, List.setIfInBounds_toArray, List.set_cons_zero, List.set_cons_succ]
  refine Seq.pure (v := .int .u64 (q : Int)) rfl rfl (by intro w; go_simp <;> (first | (rw [HQ.out.1]; done) | exact HQ.out.1 | (simp [HQ.out.1]; done) | (trace_state; done))) ?_
  simp only [Act.put, List.setIfInBounds_toArray, List.set_cons_zero, List.set_cons_succ]
  refine Seq.pure (v := .int .u64 (c : Int)) rfl rfl (by intro w; go_simp <;> (first | (rw [HQ.out.2.1]; done) | exact HQ.out.2.1 | (simp [HQ.out.2.1]; done) | (trace_state; done))) ?_
  simp only [Act.put, List.setIfInBounds_toArray, List.set_cons_zero, List.set_cons_succ]
  refine Seq.pure (v := .bool false) rfl rfl (by intro w; go_simp <;> (first | (rw [HQ.out.2.2]; done) | (rw [HQ.out.2.2]; done) | exact HQ.out.2.2 | exact HQ.out.2.2 | (simp [HQ.out.2.2, HQ.out.2.2]; done) | (trace_state; done))) ?_
  simp only [Act.put, List.setIfInBounds_toArray, List.set_cons_zero, List.set_cons_succ]
  refine Seq.done fun ws4 hws => ?_
  have HS4 := hws.st
  clear HS3 hws
  go_upto_region 6 with (fail)
  refine wp_seq_text [] (StR.no HS4) ?_
  refine Seq.load rfl rfl rfl rfl (by repeat (first | exact mC | apply mT)) (n := 6) rfl (by kernel_rfl) ?_
  simp only [Act.put, List.setIfInBounds_toArray, List.set_cons_zero, List.set_cons_succ]
  refine Seq.call rfl rfl rfl rfl (by kernel_rfl) (to_n0 HT.out Z_lo.out Z_hi.out HLE.out HM.out.1 HM.out.2 HO.out.1 HO.out.2.1 HO.out.2.2.1 HO.out.2.2.2.1 HO.out.2.2.2.2 rfl) ?_
  simp only [Act.put, List.setIfInBounds_toArray, List.set_cons_zero, List.set_cons_succ]
  refine Seq.pure rfl rfl (by intro w; go_simp; try first | with_reducible rfl | rfl) ?_
  simp only [Act.put, List.setIfInBounds_toArray, List.set_cons_zero, List.set_cons_succ]
  refine Seq.pure (v := .int .u64 (b3 : Int)) rfl rfl (fun w => rfl) ?_
  simp only [Act.put, List.setIfInBounds_toArray, List.set_cons_zero, List.set_cons_succ]
  refine Seq.pure (v := .int .u64 ((0 : Nat) : Int)) rfl rfl (fun w => rfl) ?_
  simp only [Act.put, List.setIfInBounds_toArray, List.set_cons_zero, List.set_cons_succ]
  refine Seq.pure (v := .int .i64 0) rfl rfl (fun w => rfl) ?_
  simp only [Act.put, List.setIfInBounds_toArray, List.set_cons_zero, List.set_cons_succ]
  refine Seq.pure rfl rfl (by intro w; go_simp; try first | with_reducible rfl | rfl) ?_
  simp only [Act.put, List.setIfInBounds_toArray, List.set_cons_zero, List.set_cons_succ]
  refine Seq.pure rfl rfl (by intro w; go_simp; try first | with_reducible rfl | rfl) ?_
  simp only [Act.put, List.setIfInBounds_toArray, List.set_cons_zero, List.set_cons_succ]
  refine Seq.pure rfl rfl (by intro w; go_simp; try first | with_reducible rfl | rfl) ?_
  simp only [Act.put, List.setIfInBounds_toArray, List.set_cons_zero, List.set_cons_succ]
  refine Seq.done fun ws5 hws => ?_
  have HS5 := hws.st
  clear HS4 hws
  go_upto_region 7 with (fail)
  refine wp_seq_text [] (StR.no HS5) ?_
  refine Seq.pure rfl rfl (by intro w; go_simp; try first | with_reducible rfl | rfl) ?_
  simp only [Act.put, List.setIfInBounds_toArray, List.set_cons_zero, List.set_cons_succ]
  refine Seq.pure (v := .int .u64 (b : Int)) rfl rfl (by intro w; go_simp <;> (first | (rw [HB.out.2.2.1]; done) | exact HB.out.2.2.1 | (simp [HB.out.2.2.1]; done) | (trace_state; done))) ?_
  simp only [Act.put, List.setIfInBounds_toArray, List.set_cons_zero, List.set_cons_succ]
  refine Seq.pure rfl rfl (by intro w; go_simp; try first | with_reducible rfl | rfl) ?_
  simp only [Act.put, List.setIfInBounds_toArray, List.set_cons_zero, List.set_cons_succ]
  refine Seq.done fun ws6 hws => ?_
  have HS6 := hws.st
  clear HS5 hws
  go_upto_region 8 with (fail)
  refine wp_seq_text [] (StR.no HS6) ?_
  refine Seq.pure rfl rfl (by intro w; go_simp; try first | with_reducible rfl | rfl) ?_
  simp only [Act.put, List.setIfInBounds_toArray, List.set_cons_zero, List.set_cons_succ]
  refine Seq.pure (v := .bool false) rfl rfl (by intro w; go_simp <;> (first | (rw [HE.out]; done) | (rw [HE.out]; done) | exact HE.out | exact HE.out | (simp [HE.out, HE.out]; done) | (trace_state; done))) ?_
  simp only [Act.put, List.setIfInBounds_toArray, List.set_cons_zero, List.set_cons_succ]
  refine Seq.done fun ws7 hws => ?_
  have HS7 := hws.st
  clear HS6 hws
  go_upto_region 10 with (fail)
  refine wp_seq_text [] (StR.no HS7) ?_
  refine Seq.pure rfl rfl (by intro w; go_simp; try first | with_reducible rfl | rfl) ?_
  simp only [Act.put, List.setIfInBounds_toArray, List.set_cons_zero, List.set_cons_succ]
  refine Seq.pure (v := .int .u64 (m0 : Int)) rfl rfl (by intro w; go_simp <;> (first | (rw [HA.out.1]; done) | (rw [HA.out.1]; done) | exact HA.out.1 | exact HA.out.1 | (simp [HA.out.1, HA.out.1]; done) | (trace_state; done))) ?_
  simp only [Act.put, List.setIfInBounds_toArray, List.set_cons_zero, List.set_cons_succ]
  refine Seq.pure rfl rfl (by intro w; go_simp; try first | with_reducible rfl | rfl) ?_
  simp only [Act.put, List.setIfInBounds_toArray, List.set_cons_zero, List.set_cons_succ]
  refine Seq.pure (v := .int .u64 (m1 : Int)) rfl rfl (by intro w; go_simp <;> (first | (rw [HA.out.2.1]; done) | (rw [HA.out.2.1]; done) | exact HA.out.2.1 | exact HA.out.2.1 | (simp [HA.out.2.1, HA.out.2.1]; done) | (trace_state; done))) ?_
  simp only [Act.put, List.setIfInBounds_toArray, List.set_cons_zero, List.set_cons_succ]
  refine Seq.pure rfl rfl (by intro w; go_simp; try first | with_reducible rfl | rfl) ?_
  simp only [Act.put, List.setIfInBounds_toArray, List.set_cons_zero, List.set_cons_succ]
  refine Seq.pure rfl rfl (by intro w; go_simp; try first | with_reducible rfl | rfl) ?_
  simp only [Act.put, List.setIfInBounds_toArray, List.set_cons_zero, List.set_cons_succ]
  refine Seq.done fun ws8 hws => ?_
  have HS8 := hws.st
  clear HS7 hws
  go_upto_region 11 with (fail)
  refine wp_seq_text [] (StR.no HS8) ?_
  refine Seq.pure rfl rfl (by intro w; go_simp; try first | with_reducible rfl | rfl) ?_
  simp only [Act.put, List.setIfInBounds_toArray, List.set_cons_zero, List.set_cons_succ]
  refine Seq.pure (v := .bool false) rfl rfl (by intro w; go_simp <;> (first | (rw [HA.out.2.2.1]; done) | (rw [HA.out.2.2.1]; done) | exact HA.out.2.2.1 | exact HA.out.2.2.1 | (simp [HA.out.2.2.1, HA.out.2.2.1]; done) | (trace_state; done))) ?_
  simp only [Act.put, List.setIfInBounds_toArray, List.set_cons_zero, List.set_cons_succ]
  refine Seq.done fun ws9 hws => ?_
  have HS9 := hws.st
  clear HS8 hws
  go_upto_region 13 with (fail)
  refine wp_seq_text [] (StR.no HS9) ?_
  refine Seq.pure rfl rfl (by intro w; go_simp; try first | with_reducible rfl | rfl) ?_
  simp only [Act.put, List.setIfInBounds_toArray, List.set_cons_zero, List.set_cons_succ]
  refine Seq.pure (v := .int .u64 1) rfl rfl (by intro w; go_simp <;> (first | (rw [HA.out.2.2.2.1]; done) | exact HA.out.2.2.2.1 | (simp [HA.out.2.2.2.1]; done) | (trace_state; done))) ?_
  simp only [Act.put, List.setIfInBounds_toArray, List.set_cons_zero, List.set_cons_succ]
  refine Seq.pure rfl rfl (by intro w; go_simp; try first | with_reducible rfl | rfl) ?_
  simp only [Act.put, List.setIfInBounds_toArray, List.set_cons_zero, List.set_cons_succ]
  refine Seq.done fun ws10 hws => ?_
  have HS10 := hws.st
  clear HS9 hws
  go_upto_region 14 with (fail)
  refine wp_seq_text [] (StR.no HS10) ?_
  refine Seq.pure rfl rfl (by intro w; go_simp; try first | with_reducible rfl | rfl) ?_
  simp only [Act.put, List.setIfInBounds_toArray, List.set_cons_zero, List.set_cons_succ]
  refine Seq.pure (v := .int .u64 (b3 : Int)) rfl rfl (by intro w; go_simp <;> (first | (rw [HR.out.1]; done) | exact HR.out.1 | (simp [HR.out.1]; done) | (trace_state; done))) ?_
  simp only [Act.put, List.setIfInBounds_toArray, List.set_cons_zero, List.set_cons_succ]
  refine Seq.pure rfl rfl (by intro w; go_simp; try first | with_reducible rfl | rfl) ?_
  simp only [Act.put, List.setIfInBounds_toArray, List.set_cons_zero, List.set_cons_succ]
  refine Seq.pure (v := .int .u64 (b4 : Int)) rfl rfl (by intro w; go_simp <;> (first | (rw [HR.out.2.1]; done) | (rw [HR.out.2.1]; done) | exact HR.out.2.1 | exact HR.out.2.1 | (simp [HR.out.2.1, HR.out.2.1]; done) | (trace_state; done))) ?_
  simp only [Act.put, List.setIfInBounds_toArray, List.set_cons_zero, List.set_cons_succ]
  refine Seq.pure rfl rfl (by intro w; go_simp; try first | with_reducible rfl | rfl) ?_
  simp only [Act.put, List.setIfInBounds_toArray, List.set_cons_zero, List.set_cons_succ]
  refine Seq.pure rfl rfl (by intro w; go_simp; try first | with_reducible rfl | rfl) ?_
  simp only [Act.put, List.setIfInBounds_toArray, List.set_cons_zero, List.set_cons_succ]
  refine Seq.done fun ws11 hws => ?_
  have HS11 := hws.st
  clear HS10 hws
  go_upto_region 15 with (fail)
  refine wp_seq_text [] (StR.no HS11) ?_
  refine Seq.pure rfl rfl (by intro w; go_simp; try first | with_reducible rfl | rfl) ?_
  simp only [Act.put, List.setIfInBounds_toArray, List.set_cons_zero, List.set_cons_succ]
  refine Seq.pure (v := .bool true) rfl rfl (by intro w; go_simp <;> (first | (rw [HR.out.2.2]; done) | (rw [HR.out.2.2]; done) | exact HR.out.2.2 | exact HR.out.2.2 | (simp [HR.out.2.2, HR.out.2.2]; done) | (trace_state; done))) ?_
  simp only [Act.put, List.setIfInBounds_toArray, List.set_cons_zero, List.set_cons_succ]
  refine Seq.done fun ws12 hws => ?_
  have HS12 := hws.st
  clear HS11 hws
  go_upto_region 16 with (fail)
  refine wp_seq_text [] (StR.no HS12) ?_
  refine Seq.pure rfl rfl (by intro w; go_simp; try first | with_reducible rfl | rfl) ?_
  simp only [Act.put, List.setIfInBounds_toArray, List.set_cons_zero, List.set_cons_succ]
  refine Seq.done fun ws13 hws => ?_
  have HS13 := hws.st
  clear HS12 hws
  go_upto_region 17 with (fail)
  refine wp_seq_text [] (StR.no HS13) ?_
  refine Seq.pure rfl rfl (by intro w; go_simp; try first | with_reducible rfl | rfl) ?_
  simp only [Act.put, List.setIfInBounds_toArray, List.set_cons_zero, List.set_cons_succ]
  refine Seq.pure (v := .bool false) rfl rfl (by intro w; go_simp <;> (first | (rw [HA.out.2.2.1]; done) | (rw [HA.out.2.2.1]; done) | exact HA.out.2.2.1 | exact HA.out.2.2.1 | (simp [HA.out.2.2.1, HA.out.2.2.1]; done) | (trace_state; done))) ?_
  simp only [Act.put, List.setIfInBounds_toArray, List.set_cons_zero, List.set_cons_succ]
  refine Seq.done fun ws14 hws => ?_
  have HS14 := hws.st
  clear HS13 hws
  go_upto_region 19 with (fail)
  refine wp_seq_text [] (StR.no HS14) ?_
  refine Seq.pure rfl rfl (by intro w; go_simp; try first | with_reducible rfl | rfl) ?_
  simp only [Act.put, List.setIfInBounds_toArray, List.set_cons_zero, List.set_cons_succ]
  refine Seq.pure rfl rfl (by intro w; go_simp; try first | with_reducible rfl | rfl) ?_
  simp only [Act.put, List.setIfInBounds_toArray, List.set_cons_zero, List.set_cons_succ]
  refine Seq.pure rfl rfl (by intro w; go_simp; try first | with_reducible rfl | rfl) ?_
  simp only [Act.put, List.setIfInBounds_toArray, List.set_cons_zero, List.set_cons_succ]
  refine Seq.pure rfl rfl (by intro w; go_simp; try first | with_reducible rfl | rfl) ?_
  simp only [Act.put, List.setIfInBounds_toArray, List.set_cons_zero, List.set_cons_succ]
  refine Seq.pure rfl rfl (by intro w; go_simp; try first | with_reducible rfl | rfl) ?_
  simp only [Act.put, List.setIfInBounds_toArray, List.set_cons_zero, List.set_cons_succ]
  refine Seq.pure rfl rfl (by intro w; go_simp; try first | with_reducible rfl | rfl) ?_
  simp only [Act.put, List.setIfInBounds_toArray, List.set_cons_zero, List.set_cons_succ]
  refine Seq.pure rfl rfl (by intro w; go_simp; try first | with_reducible rfl | rfl) ?_
  simp only [Act.put, List.setIfInBounds_toArray, List.set_cons_zero, List.set_cons_succ]
  refine Seq.pure rfl rfl (by intro w; go_simp; try first | with_reducible rfl | rfl) ?_
  simp only [Act.put, List.setIfInBounds_toArray, List.set_cons_zero, List.set_cons_succ]
  refine Seq.pure rfl rfl (by intro w; go_simp; try first | with_reducible rfl | rfl) ?_
  simp only [Act.put, List.setIfInBounds_toArray, List.set_cons_zero, List.set_cons_succ]
  refine Seq.pure (v := .bool true) rfl rfl (by intro w; go_simp <;> (first | (rw [HZ.out.1]; done) | exact HZ.out.1 | (simp [HZ.out.1]; done) | (trace_state; done))) ?_
  simp only [Act.put, List.setIfInBounds_toArray, List.set_cons_zero, List.set_cons_succ]
  refine Seq.pure rfl rfl (by intro w; go_simp; try first | with_reducible rfl | rfl) ?_
  simp only [Act.put, List.setIfInBounds_toArray, List.set_cons_zero, List.set_cons_succ]
  refine Seq.pure rfl rfl (by intro w; go_simp; try first | with_reducible rfl | rfl) ?_
  simp only [Act.put, List.setIfInBounds_toArray, List.set_cons_zero, List.set_cons_succ]
  refine Seq.pure rfl rfl (by intro w; go_simp; try first | with_reducible rfl | rfl) ?_
  simp only [Act.put, List.setIfInBounds_toArray, List.set_cons_zero, List.set_cons_succ]
  refine Seq.pure rfl rfl (by intro w; go_simp; try first | with_reducible rfl | rfl) ?_
  simp only [Act.put, List.setIfInBounds_toArray, List.set_cons_zero, List.set_cons_succ]
  refine Seq.pure (v := .bool true) rfl rfl (by intro w; go_simp <;> (first | (rw [HZ.out.2]; done) | exact HZ.out.2 | (simp [HZ.out.2]; done) | (trace_state; done))) ?_
  simp only [Act.put, List.setIfInBounds_toArray, List.set_cons_zero, List.set_cons_succ]
  refine Seq.pure rfl rfl (by intro w; go_simp; try first | with_reducible rfl | rfl) ?_
  simp only [Act.put, List.setIfInBounds_toArray, List.set_cons_zero, List.set_cons_succ]
  refine Seq.pure rfl rfl (by intro w; go_simp; try first | with_reducible rfl | rfl) ?_
  simp only [Act.put, List.setIfInBounds_toArray, List.set_cons_zero, List.set_cons_succ]
  refine Seq.done fun ws15 hws => ?_
  have HS15 := hws.st
  clear HS14 hws
  go_wp2_with fail
  go_ret
  exact ⟨rfl, HS15.below⟩
set_option maxHeartbeats 4000000 in
set_option maxRecDepth 20000 in
theorem bn_many1 {bb b : Nat} (w : World) (hT : Tab w) (hbb : bb = (if true = true then 9223372036854775808 else 0) + b) (hb : 1 < b) (hb2 : b < 9218868437227405311) :
    Calls Tryd.prog 11 #[.int .u64 (bb : Int)] w fun e w' => e = .returned (.bool true) ∧ Below w.heap.size w w' := by
  have hbn : bb = 9223372036854775808 + b := hbb
  obtain ⟨q, hq⟩ : ∃ q : Nat, bb / 4503599627370496 = q := ⟨_, rfl⟩
  obtain ⟨c, hc⟩ : ∃ c : Nat, q % 2048 = c := ⟨_, rfl⟩
  have HQ := Lib.hid (show (bb : Int) / 4503599627370496 = (q : Int) ∧ bits BinOp.and IntKind.u64 (q : Int) 2047 = (c : Int) ∧ ¬ (c : Int) = 2047 from ⟨by omega, by rw [and_2047 q (by omega), hc], by omega⟩)
  clear hq hc
  have HT := Lib.hid hT; clear hT
  have h0 : ¬ b = 0 := by omega
  obtain ⟨lo, elo⟩ : ∃ z, frL true b = z := ⟨_, rfl⟩
  obtain ⟨hi, ehi⟩ : ∃ z, frH true b = z := ⟨_, rfl⟩
  have hl : lo = -midE b := by rw [← elo]; unfold frL; rw [if_pos rfl]
  have hh : hi = -midE (b - 1) := by rw [← ehi]; unfold frH; rw [if_pos rfl, if_neg h0]
  have HF := Lib.hid (And.intro elo ehi); clear elo ehi
  have zm := mid_rz (show b < 9218868437227405312 by omega)
  have zp := mid_rz (show b - 1 < 9218868437227405312 by omega)
  have mp := mid_pos b
  have mq := mid_pos (b - 1)
  have ml := mid_le (show b - 1 ≤ b by omega)
  have Z_lo := Lib.hid (show Rz 1000 lo by rw [hl]; exact zm.neg)
  have Z_hi := Lib.hid (show Rz 1000 hi by rw [hh]; exact zp.neg)
  have HLE := Lib.hid (show lo ≤ hi by rw [hl, hh]; grind)
  have HE := Lib.hid (show ¬ (b : Int) = 9218868437227405311 from by omega)
  have HB := Lib.hid (show bb = (if true = true then 9223372036854775808 else 0) + b ∧ b < 9218868437227405312 ∧ bits BinOp.andNot IntKind.u64 (bb : Int) 9223372036854775808 = (b : Int) ∧ True from ⟨hbb, by omega, by rw [andNot_top bb (by omega)]; omega, trivial⟩)
  have mt := mid_most (show b < 9218868437227405311 by omega)
  have mt2 := mid_most (show b - 1 < 9218868437227405311 by omega)
  have HM := Lib.hid (show -ex 9218868437227405311 ≤ lo ∧ hi ≤ ex 9218868437227405311 by rw [hl, hh]; constructor <;> grind)
  clear mt mt2
  obtain ⟨m0, hm0⟩ : ∃ m0 : Nat, m0 = b - 1 := ⟨_, rfl⟩
  obtain ⟨m1, hm1⟩ : ∃ m1 : Nat, m1 = b + 1 := ⟨_, rfl⟩
  have HA := Lib.hid (show IntKind.u64.wrap ((b : Int) - 1) = (m0 : Int) ∧ IntKind.u64.wrap ((b : Int) + 1) = (m1 : Int) ∧ ¬ b = 0 ∧ (bb : Int) / 9223372036854775808 = 1 ∧ True from ⟨by rw [IntWalk.u64_in _ (by omega)]; omega, by rw [IntWalk.u64_in _ (by omega)]; omega, by omega, by omega, trivial⟩)
  obtain ⟨b3, hb3⟩ : ∃ b3 : Nat, b3 = m1 + 9223372036854775808 := ⟨_, rfl⟩
  obtain ⟨b4, hb4⟩ : ∃ b4 : Nat, b4 = m0 + 9223372036854775808 := ⟨_, rfl⟩
  have HR := Lib.hid (show bits BinOp.or IntKind.u64 (m1 : Int) 9223372036854775808 = (b3 : Int) ∧ bits BinOp.or IntKind.u64 (m0 : Int) 9223372036854775808 = (b4 : Int) ∧ ¬ (b : Int) = 1 from ⟨by rw [or_top m1 (by omega), hb3], by rw [or_top m0 (by omega), hb4], by omega⟩)
  have HZ := Lib.hid (show b3 = b3 ∧ b4 = b4 from ⟨rfl, rfl⟩)
  have ov := ovr_mid (show b < 9218868437227405311 by omega)
  have un := und_mid (show b - 1 < 9218868437227405312 by omega)
  rw [← hm1] at ov
  rw [show b - 1 = m0 by omega] at un
  have HO := Lib.hid (show lo < 0 ∧ Ovr (-lo) m1 ∧ b3 = m1 + 9223372036854775808 ∧ hi < 0 ∧ Und (-hi) m0 ∧ 0 < m0 ∧ b4 = m0 + 9223372036854775808 from ⟨by rw [hl]; grind, by rw [hl, Rat.neg_neg]; exact ov, hb3, by rw [hh]; grind, by rw [hh, Rat.neg_neg, show b - 1 = m0 by omega]; exact un, by omega, hb4⟩)
  clear zm zp mp mq ml hbb hbn h0 hl hh hm0 hm1 ov un hb3 hb4 hb hb2
  go_enter Tryd.func11, Tryd.ntmps11
  have HS : St w [] w := St.start
  go_upto_region 0 with (fail)
  refine wp_seq_text [] (StR.no HS) ?_
  refine Seq.pure rfl rfl (by intro w; go_simp; try first | with_reducible rfl | rfl) ?_
  simp only [Act.put, List.setIfInBounds_toArray, List.set_cons_zero, List.set_cons_succ]
  refine Seq.done fun ws1 hws => ?_
  have HS1 := hws.st
  clear HS hws
  go_upto_region 1 with (fail)
  refine wp_seq_text [] (StR.no HS1) ?_
  refine Seq.call rfl rfl rfl rfl (by kernel_rfl) (bbegun_q HT.out) ?_
  simp only [Act.put, List.setIfInBounds_toArray, List.set_cons_zero, List.set_cons_succ]
  refine Seq.pure rfl rfl (by intro w; go_simp; try first | with_reducible rfl | rfl) ?_
  simp only [Act.put, List.setIfInBounds_toArray, List.set_cons_zero, List.set_cons_succ]
  refine Seq.done fun ws2 hws => ?_
  have HS2 := hws.st
  clear HS1 hws
  go_upto_region 3 with (fail)
  refine wp_seq_text [] (StR.no HS2) ?_
  refine Seq.pure rfl rfl (by intro w; go_simp; try first | with_reducible rfl | rfl) ?_
  simp only [Act.put, List.setIfInBounds_toArray, List.set_cons_zero, List.set_cons_succ]
  refine Seq.call rfl rfl rfl rfl (by kernel_rfl) (from_q (n := true) HT.out HB.out.1 HB.out.2.1 HF.out.1 HF.out.2) ?_
  simp only [Act.put, List.setIfInBounds_toArray, List.set_cons_zero, List.set_cons_succ]
  refine Seq.pure rfl rfl (by intro w; go_simp; try first | with_reducible rfl | rfl) ?_
  simp only [Act.put, List.setIfInBounds_toArray, List.set_cons_zero, List.set_cons_succ]
  refine Seq.pure (v := .agg (VC lo hi)) rfl rfl (fun w => rfl) ?_
  simp only [Act.put, List.setIfInBounds_toArray, List.set_cons_zero, List.set_cons_succ]
  refine Seq.pure (v := .int .i64 0) rfl rfl (fun w => rfl) ?_
  simp only [Act.put, List.setIfInBounds_toArray, List.set_cons_zero, List.set_cons_succ]
  refine Seq.alloc rfl rfl rfl (z := .agg #[.bool false, .string ⟨#[]⟩, .string ⟨#[]⟩, .bool false, .string ⟨#[]⟩, .string ⟨#[]⟩]) (by kernel_rfl) rfl ?_
  intro bk3 _ _ hbk3_r
  simp only [Act.put, List.setIfInBounds_toArray, List.set_cons_zero, List.set_cons_succ]
  refine Seq.store rfl rfl rfl rfl rfl (by first | exact rS | exact rN (by assumption) (rS) | exact rN (by assumption) (rN (by assumption) (rS)) | exact rN (by assumption) (rN (by assumption) (rN (by assumption) (rS))) | exact rN (by assumption) (rN (by assumption) (rN (by assumption) (rN (by assumption) (rS))))) (n := 6) rfl rfl (by kernel_rfl) (VC_one _ _) ?_
  simp only [Act.put, List.setIfInBounds_toArray, List.set_cons_zero, List.set_cons_succ]
  refine Seq.pure rfl rfl (by intro w; go_simp; try first | with_reducible rfl | rfl) ?_
  simp only [Act.put, List.setIfInBounds_toArray, List.set_cons_zero, List.set_cons_succ]
  refine Seq.done fun ws3 hws => ?_
  have HS3 : St w [(bk3, 46, VC lo hi)] ws3 := hws.list1 (by first | exact rS | exact rN (by assumption) (rS) | exact rN (by assumption) (rN (by assumption) (rS)) | exact rN (by assumption) (rN (by assumption) (rN (by assumption) (rS))) | exact rN (by assumption) (rN (by assumption) (rN (by assumption) (rN (by assumption) (rS)))))
  clear HS2 hws
  go_upto_region 4 with (fail)
  refine wp_seq_text [] (StR.no HS3) ?_
  refine Seq.pure rfl rfl (by intro w; go_simp; try first | with_reducible rfl | rfl) ?_
  simp only [Act.put, List.setIfInBounds_toArray, List.set_cons_zero, List.set_cons_succ]
  refine Seq.pure (v := .int .u64 (q : Int)) rfl rfl (by intro w; go_simp <;> (first | (rw [HQ.out.1]; done) | exact HQ.out.1 | (simp [HQ.out.1]; done) | (trace_state; done))) ?_
  simp only [Act.put, List.setIfInBounds_toArray, List.set_cons_zero, List.set_cons_succ]
  refine Seq.pure (v := .int .u64 (c : Int)) rfl rfl (by intro w; go_simp <;> (first | (rw [HQ.out.2.1]; done) | exact HQ.out.2.1 | (simp [HQ.out.2.1]; done) | (trace_state; done))) ?_
  simp only [Act.put, List.setIfInBounds_toArray, List.set_cons_zero, List.set_cons_succ]
  refine Seq.pure (v := .bool false) rfl rfl (by intro w; go_simp <;> (first | (rw [HQ.out.2.2]; done) | (rw [HQ.out.2.2]; done) | exact HQ.out.2.2 | exact HQ.out.2.2 | (simp [HQ.out.2.2, HQ.out.2.2]; done) | (trace_state; done))) ?_
  simp only [Act.put, List.setIfInBounds_toArray, List.set_cons_zero, List.set_cons_succ]
  refine Seq.done fun ws4 hws => ?_
  have HS4 := hws.st
  clear HS3 hws
  go_upto_region 6 with (fail)
  refine wp_seq_text [] (StR.no HS4) ?_
  refine Seq.load rfl rfl rfl rfl (by repeat (first | exact mC | apply mT)) (n := 6) rfl (by kernel_rfl) ?_
  simp only [Act.put, List.setIfInBounds_toArray, List.set_cons_zero, List.set_cons_succ]
  refine Seq.call rfl rfl rfl rfl (by kernel_rfl) (to_nn HT.out Z_lo.out Z_hi.out HLE.out HM.out.1 HM.out.2 HO.out.1 HO.out.2.1 HO.out.2.2.1 HO.out.2.2.2.1 HO.out.2.2.2.2.1 HO.out.2.2.2.2.2.1 HO.out.2.2.2.2.2.2) ?_
  simp only [Act.put, List.setIfInBounds_toArray, List.set_cons_zero, List.set_cons_succ]
  refine Seq.pure rfl rfl (by intro w; go_simp; try first | with_reducible rfl | rfl) ?_
  simp only [Act.put, List.setIfInBounds_toArray, List.set_cons_zero, List.set_cons_succ]
  refine Seq.pure (v := .int .u64 (b3 : Int)) rfl rfl (fun w => rfl) ?_
  simp only [Act.put, List.setIfInBounds_toArray, List.set_cons_zero, List.set_cons_succ]
  refine Seq.pure (v := .int .u64 (b4 : Int)) rfl rfl (fun w => rfl) ?_
  simp only [Act.put, List.setIfInBounds_toArray, List.set_cons_zero, List.set_cons_succ]
  refine Seq.pure (v := .int .i64 0) rfl rfl (fun w => rfl) ?_
  simp only [Act.put, List.setIfInBounds_toArray, List.set_cons_zero, List.set_cons_succ]
  refine Seq.pure rfl rfl (by intro w; go_simp; try first | with_reducible rfl | rfl) ?_
  simp only [Act.put, List.setIfInBounds_toArray, List.set_cons_zero, List.set_cons_succ]
  refine Seq.pure rfl rfl (by intro w; go_simp; try first | with_reducible rfl | rfl) ?_
  simp only [Act.put, List.setIfInBounds_toArray, List.set_cons_zero, List.set_cons_succ]
  refine Seq.pure rfl rfl (by intro w; go_simp; try first | with_reducible rfl | rfl) ?_
  simp only [Act.put, List.setIfInBounds_toArray, List.set_cons_zero, List.set_cons_succ]
  refine Seq.done fun ws5 hws => ?_
  have HS5 := hws.st
  clear HS4 hws
  go_upto_region 7 with (fail)
  refine wp_seq_text [] (StR.no HS5) ?_
  refine Seq.pure rfl rfl (by intro w; go_simp; try first | with_reducible rfl | rfl) ?_
  simp only [Act.put, List.setIfInBounds_toArray, List.set_cons_zero, List.set_cons_succ]
  refine Seq.pure (v := .int .u64 (b : Int)) rfl rfl (by intro w; go_simp <;> (first | (rw [HB.out.2.2.1]; done) | exact HB.out.2.2.1 | (simp [HB.out.2.2.1]; done) | (trace_state; done))) ?_
  simp only [Act.put, List.setIfInBounds_toArray, List.set_cons_zero, List.set_cons_succ]
  refine Seq.pure rfl rfl (by intro w; go_simp; try first | with_reducible rfl | rfl) ?_
  simp only [Act.put, List.setIfInBounds_toArray, List.set_cons_zero, List.set_cons_succ]
  refine Seq.done fun ws6 hws => ?_
  have HS6 := hws.st
  clear HS5 hws
  go_upto_region 8 with (fail)
  refine wp_seq_text [] (StR.no HS6) ?_
  refine Seq.pure rfl rfl (by intro w; go_simp; try first | with_reducible rfl | rfl) ?_
  simp only [Act.put, List.setIfInBounds_toArray, List.set_cons_zero, List.set_cons_succ]
  refine Seq.pure (v := .bool false) rfl rfl (by intro w; go_simp <;> (first | (rw [HE.out]; done) | (rw [HE.out]; done) | exact HE.out | exact HE.out | (simp [HE.out, HE.out]; done) | (trace_state; done))) ?_
  simp only [Act.put, List.setIfInBounds_toArray, List.set_cons_zero, List.set_cons_succ]
  refine Seq.done fun ws7 hws => ?_
  have HS7 := hws.st
  clear HS6 hws
  go_upto_region 10 with (fail)
  refine wp_seq_text [] (StR.no HS7) ?_
  refine Seq.pure rfl rfl (by intro w; go_simp; try first | with_reducible rfl | rfl) ?_
  simp only [Act.put, List.setIfInBounds_toArray, List.set_cons_zero, List.set_cons_succ]
  refine Seq.pure (v := .int .u64 (m0 : Int)) rfl rfl (by intro w; go_simp <;> (first | (rw [HA.out.1]; done) | (rw [HA.out.1]; done) | exact HA.out.1 | exact HA.out.1 | (simp [HA.out.1, HA.out.1]; done) | (trace_state; done))) ?_
  simp only [Act.put, List.setIfInBounds_toArray, List.set_cons_zero, List.set_cons_succ]
  refine Seq.pure rfl rfl (by intro w; go_simp; try first | with_reducible rfl | rfl) ?_
  simp only [Act.put, List.setIfInBounds_toArray, List.set_cons_zero, List.set_cons_succ]
  refine Seq.pure (v := .int .u64 (m1 : Int)) rfl rfl (by intro w; go_simp <;> (first | (rw [HA.out.2.1]; done) | (rw [HA.out.2.1]; done) | exact HA.out.2.1 | exact HA.out.2.1 | (simp [HA.out.2.1, HA.out.2.1]; done) | (trace_state; done))) ?_
  simp only [Act.put, List.setIfInBounds_toArray, List.set_cons_zero, List.set_cons_succ]
  refine Seq.pure rfl rfl (by intro w; go_simp; try first | with_reducible rfl | rfl) ?_
  simp only [Act.put, List.setIfInBounds_toArray, List.set_cons_zero, List.set_cons_succ]
  refine Seq.pure rfl rfl (by intro w; go_simp; try first | with_reducible rfl | rfl) ?_
  simp only [Act.put, List.setIfInBounds_toArray, List.set_cons_zero, List.set_cons_succ]
  refine Seq.done fun ws8 hws => ?_
  have HS8 := hws.st
  clear HS7 hws
  go_upto_region 11 with (fail)
  refine wp_seq_text [] (StR.no HS8) ?_
  refine Seq.pure rfl rfl (by intro w; go_simp; try first | with_reducible rfl | rfl) ?_
  simp only [Act.put, List.setIfInBounds_toArray, List.set_cons_zero, List.set_cons_succ]
  refine Seq.pure (v := .bool false) rfl rfl (by intro w; go_simp <;> (first | (rw [HA.out.2.2.1]; done) | (rw [HA.out.2.2.1]; done) | exact HA.out.2.2.1 | exact HA.out.2.2.1 | (simp [HA.out.2.2.1, HA.out.2.2.1]; done) | (trace_state; done))) ?_
  simp only [Act.put, List.setIfInBounds_toArray, List.set_cons_zero, List.set_cons_succ]
  refine Seq.done fun ws9 hws => ?_
  have HS9 := hws.st
  clear HS8 hws
  go_upto_region 13 with (fail)
  refine wp_seq_text [] (StR.no HS9) ?_
  refine Seq.pure rfl rfl (by intro w; go_simp; try first | with_reducible rfl | rfl) ?_
  simp only [Act.put, List.setIfInBounds_toArray, List.set_cons_zero, List.set_cons_succ]
  refine Seq.pure (v := .int .u64 1) rfl rfl (by intro w; go_simp <;> (first | (rw [HA.out.2.2.2.1]; done) | exact HA.out.2.2.2.1 | (simp [HA.out.2.2.2.1]; done) | (trace_state; done))) ?_
  simp only [Act.put, List.setIfInBounds_toArray, List.set_cons_zero, List.set_cons_succ]
  refine Seq.pure rfl rfl (by intro w; go_simp; try first | with_reducible rfl | rfl) ?_
  simp only [Act.put, List.setIfInBounds_toArray, List.set_cons_zero, List.set_cons_succ]
  refine Seq.done fun ws10 hws => ?_
  have HS10 := hws.st
  clear HS9 hws
  go_upto_region 14 with (fail)
  refine wp_seq_text [] (StR.no HS10) ?_
  refine Seq.pure rfl rfl (by intro w; go_simp; try first | with_reducible rfl | rfl) ?_
  simp only [Act.put, List.setIfInBounds_toArray, List.set_cons_zero, List.set_cons_succ]
  refine Seq.pure (v := .int .u64 (b3 : Int)) rfl rfl (by intro w; go_simp <;> (first | (rw [HR.out.1]; done) | exact HR.out.1 | (simp [HR.out.1]; done) | (trace_state; done))) ?_
  simp only [Act.put, List.setIfInBounds_toArray, List.set_cons_zero, List.set_cons_succ]
  refine Seq.pure rfl rfl (by intro w; go_simp; try first | with_reducible rfl | rfl) ?_
  simp only [Act.put, List.setIfInBounds_toArray, List.set_cons_zero, List.set_cons_succ]
  refine Seq.pure (v := .int .u64 (b4 : Int)) rfl rfl (by intro w; go_simp <;> (first | (rw [HR.out.2.1]; done) | (rw [HR.out.2.1]; done) | exact HR.out.2.1 | exact HR.out.2.1 | (simp [HR.out.2.1, HR.out.2.1]; done) | (trace_state; done))) ?_
  simp only [Act.put, List.setIfInBounds_toArray, List.set_cons_zero, List.set_cons_succ]
  refine Seq.pure rfl rfl (by intro w; go_simp; try first | with_reducible rfl | rfl) ?_
  simp only [Act.put, List.setIfInBounds_toArray, List.set_cons_zero, List.set_cons_succ]
  refine Seq.pure rfl rfl (by intro w; go_simp; try first | with_reducible rfl | rfl) ?_
  simp only [Act.put, List.setIfInBounds_toArray, List.set_cons_zero, List.set_cons_succ]
  refine Seq.done fun ws11 hws => ?_
  have HS11 := hws.st
  clear HS10 hws
  go_upto_region 15 with (fail)
  refine wp_seq_text [] (StR.no HS11) ?_
  refine Seq.pure rfl rfl (by intro w; go_simp; try first | with_reducible rfl | rfl) ?_
  simp only [Act.put, List.setIfInBounds_toArray, List.set_cons_zero, List.set_cons_succ]
  refine Seq.pure (v := .bool false) rfl rfl (by intro w; go_simp <;> (first | (rw [HR.out.2.2]; done) | (rw [HR.out.2.2]; done) | exact HR.out.2.2 | exact HR.out.2.2 | (simp [HR.out.2.2, HR.out.2.2]; done) | (trace_state; done))) ?_
  simp only [Act.put, List.setIfInBounds_toArray, List.set_cons_zero, List.set_cons_succ]
  refine Seq.done fun ws12 hws => ?_
  have HS12 := hws.st
  clear HS11 hws
  go_upto_region 17 with (fail)
  refine wp_seq_text [] (StR.no HS12) ?_
  refine Seq.pure rfl rfl (by intro w; go_simp; try first | with_reducible rfl | rfl) ?_
  simp only [Act.put, List.setIfInBounds_toArray, List.set_cons_zero, List.set_cons_succ]
  refine Seq.pure (v := .bool false) rfl rfl (by intro w; go_simp <;> (first | (rw [HA.out.2.2.1]; done) | (rw [HA.out.2.2.1]; done) | exact HA.out.2.2.1 | exact HA.out.2.2.1 | (simp [HA.out.2.2.1, HA.out.2.2.1]; done) | (trace_state; done))) ?_
  simp only [Act.put, List.setIfInBounds_toArray, List.set_cons_zero, List.set_cons_succ]
  refine Seq.done fun ws13 hws => ?_
  have HS13 := hws.st
  clear HS12 hws
  go_upto_region 19 with (fail)
  refine wp_seq_text [] (StR.no HS13) ?_
  refine Seq.pure rfl rfl (by intro w; go_simp; try first | with_reducible rfl | rfl) ?_
  simp only [Act.put, List.setIfInBounds_toArray, List.set_cons_zero, List.set_cons_succ]
  refine Seq.pure rfl rfl (by intro w; go_simp; try first | with_reducible rfl | rfl) ?_
  simp only [Act.put, List.setIfInBounds_toArray, List.set_cons_zero, List.set_cons_succ]
  refine Seq.pure rfl rfl (by intro w; go_simp; try first | with_reducible rfl | rfl) ?_
  simp only [Act.put, List.setIfInBounds_toArray, List.set_cons_zero, List.set_cons_succ]
  refine Seq.pure rfl rfl (by intro w; go_simp; try first | with_reducible rfl | rfl) ?_
  simp only [Act.put, List.setIfInBounds_toArray, List.set_cons_zero, List.set_cons_succ]
  refine Seq.pure rfl rfl (by intro w; go_simp; try first | with_reducible rfl | rfl) ?_
  simp only [Act.put, List.setIfInBounds_toArray, List.set_cons_zero, List.set_cons_succ]
  refine Seq.pure rfl rfl (by intro w; go_simp; try first | with_reducible rfl | rfl) ?_
  simp only [Act.put, List.setIfInBounds_toArray, List.set_cons_zero, List.set_cons_succ]
  refine Seq.pure rfl rfl (by intro w; go_simp; try first | with_reducible rfl | rfl) ?_
  simp only [Act.put, List.setIfInBounds_toArray, List.set_cons_zero, List.set_cons_succ]
  refine Seq.pure rfl rfl (by intro w; go_simp; try first | with_reducible rfl | rfl) ?_
  simp only [Act.put, List.setIfInBounds_toArray, List.set_cons_zero, List.set_cons_succ]
  refine Seq.pure rfl rfl (by intro w; go_simp; try first | with_reducible rfl | rfl) ?_
  simp only [Act.put, List.setIfInBounds_toArray, List.set_cons_zero, List.set_cons_succ]
  refine Seq.pure (v := .bool true) rfl rfl (by intro w; go_simp <;> (first | (rw [HZ.out.1]; done) | exact HZ.out.1 | (simp [HZ.out.1]; done) | (trace_state; done))) ?_
  simp only [Act.put, List.setIfInBounds_toArray, List.set_cons_zero, List.set_cons_succ]
  refine Seq.pure rfl rfl (by intro w; go_simp; try first | with_reducible rfl | rfl) ?_
  simp only [Act.put, List.setIfInBounds_toArray, List.set_cons_zero, List.set_cons_succ]
  refine Seq.pure rfl rfl (by intro w; go_simp; try first | with_reducible rfl | rfl) ?_
  simp only [Act.put, List.setIfInBounds_toArray, List.set_cons_zero, List.set_cons_succ]
  refine Seq.pure rfl rfl (by intro w; go_simp; try first | with_reducible rfl | rfl) ?_
  simp only [Act.put, List.setIfInBounds_toArray, List.set_cons_zero, List.set_cons_succ]
  refine Seq.pure rfl rfl (by intro w; go_simp; try first | with_reducible rfl | rfl) ?_
  simp only [Act.put, List.setIfInBounds_toArray, List.set_cons_zero, List.set_cons_succ]
  refine Seq.pure (v := .bool true) rfl rfl (by intro w; go_simp <;> (first | (rw [HZ.out.2]; done) | exact HZ.out.2 | (simp [HZ.out.2]; done) | (trace_state; done))) ?_
  simp only [Act.put, List.setIfInBounds_toArray, List.set_cons_zero, List.set_cons_succ]
  refine Seq.pure rfl rfl (by intro w; go_simp; try first | with_reducible rfl | rfl) ?_
  simp only [Act.put, List.setIfInBounds_toArray, List.set_cons_zero, List.set_cons_succ]
  refine Seq.pure rfl rfl (by intro w; go_simp; try first | with_reducible rfl | rfl) ?_
  simp only [Act.put, List.setIfInBounds_toArray, List.set_cons_zero, List.set_cons_succ]
  refine Seq.done fun ws14 hws => ?_
  have HS14 := hws.st
  clear HS13 hws
  go_wp2_with fail
  go_ret
  exact ⟨rfl, HS14.below⟩
theorem borderNext_nat (bb : Nat) (w : World) (hb : bb < 18446744073709551616) (hT : Tab w) :
    Calls Tryd.prog 11 #[.int .u64 (bb : Int)] w fun e w' => e = .returned (.bool true) ∧ Below w.heap.size w w' := by
  by_cases h0 : bb < 9223372036854775808
  · have e : bb = (if false = true then 9223372036854775808 else 0) + bb := by simp
    rcases Nat.lt_trichotomy bb 9218868437227405311 with h | h | h
    · rcases Nat.eq_zero_or_pos bb with h1 | h1
      · exact bn_zero0 w hT e h1
      · exact bn_many0 w hT e h1 h
    · exact bn_top0 w hT e h
    · exact bn_inf0 w hT e (by omega) h0
  · obtain ⟨b, hbb⟩ : ∃ b, bb = 9223372036854775808 + b := ⟨bb - 9223372036854775808, by omega⟩
    have e : bb = (if true = true then 9223372036854775808 else 0) + b := by simpa using hbb
    rcases Nat.lt_trichotomy b 9218868437227405311 with h | h | h
    · rcases Nat.eq_zero_or_pos b with h1 | h1
      · exact bn_zero1 w hT e h1
      · by_cases h2 : b = 1
        · exact bn_one1 w hT e h2
        · exact bn_many1 w hT e (by omega) h
    · exact bn_top1 w hT e h
    · exact bn_inf1 w hT e (by omega) (by omega)
end Go.Proofs.YtahmajbgfjinbaaDoor
