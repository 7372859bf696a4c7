/- Joined texts: Bo5 BoO. -/
import Derived.Test.YtmchjmflkaiakaaGreatDoorBo4
import Derived.OwnWalk
/- border.To (printed by lawvec.py). -/
namespace Go.Proofs.YtmchjmflkaiakaaGreatDoor
open Go.RowKit
set_option linter.unusedVariables false
set_option linter.unusedSimpArgs false
set_option maxHeartbeats 2000000
set_option maxRecDepth 20000
variable {W : World} {l : List Own}
theorem f64_run (n : Nat) (w : World) : (callFunc 92 #[.float .f64 n]).run Tryz.prog w = .ok (.value (.int .u64 (n : Int))) w := by
 rw [run_callFunc_extern Tryz.func92 (by kernel_rfl) (by kernel_rfl) (by kernel_rfl) (e := Extern.MathFloatBits.float64bits) (by kernel_rfl)]
 rfl
theorem f64_op {o : Oper} {a : Act} {n : Nat} {ts : Array TypeId} (ho : o.op = .call { callee := .value (.func 92), args := #[.const (.float .f64 n)], argTypes := ts }) (w : World) : (execOp a.eval o).run Tryz.prog w = .ok (.value (.int .u64 (n : Int))) w := by
 have h := f64_run n w
 simpa [execOp, ho, resolve, invoke, Deferred.ofValue, Act.eval, go_sem] using h
theorem und_zero : Und 0 0 := ⟨by omega, by rw [ex_zero]; exact Rat.le_refl, .inr (by have := ex_lt (show 0 < 0 + 1 by omega); rw [ex_zero] at this; exact this)⟩
theorem ovr_zero : Ovr 0 0 := ⟨by omega, by rw [ex_zero]; exact Rat.le_refl, .inl rfl⟩
theorem maxQ_pos {a : Rat} (h : 0 ≤ a) : maxQ a 0 = a := by unfold maxQ cmpQ; grind
theorem maxQ_neg {a : Rat} (h : a < 0) : maxQ a 0 = 0 := by unfold maxQ cmpQ; grind
theorem sgn_neg {a : Rat} (h : a < 0) : decide (sgnQ a < 0) = true := decide_eq_true (by unfold sgnQ cmpQ; rw [if_pos h]; omega)
theorem sgn_nneg {a : Rat} (h : 0 ≤ a) : decide (sgnQ a < 0) = false := decide_eq_false (by unfold sgnQ cmpQ; grind)
theorem cmp_nlt {a b : Rat} (h : b ≤ a) : decide (cmpQ a b < 0) = false := decide_eq_false (by unfold cmpQ; grind)
theorem cmp_lt_t {a b : Rat} (h : a < b) : decide (cmpQ a b < 0) = true := decide_eq_true (by unfold cmpQ; rw [if_pos h]; omega)
theorem cmp_ngt {a b : Rat} (h : a ≤ b) : decide (0 < cmpQ a b) = false := decide_eq_false (by unfold cmpQ; grind)
theorem to_pp {lo hi : Rat} {a1 a2 : Nat} (hT : Tab W) (Zlo : Rz 1000 lo) (Zhi : Rz 1000 hi) (hle : lo ≤ hi) (hm1 : -ex 9218868437227405311 ≤ lo) (hm2 : hi ≤ ex 9218868437227405311) (hl : 0 ≤ lo) (hu1 : Und lo a1) (hh : 0 ≤ hi) (hu2 : Ovr hi a2) (w : World) (h : St W l w) :
  Calls Tryz.prog 50 #[.agg (VC lo hi)] w fun e w' => e = .returned (.tuple #[.int .u64 ((a1 : Nat) : Int), .int .u64 ((a2 : Nat) : Int), .int .i64 0]) ∧ Below w.heap.size w w' := by
 have HT := Lib.hid (tabS hT h); clear hT h
 have Z_lo := Lib.hid Zlo; clear Zlo
 have Z_hi := Lib.hid Zhi; clear Zhi
 obtain ⟨mo, em⟩ : ∃ z, ex 9218868437227405311 = z := ⟨_, rfl⟩
 have Z_mo := Lib.hid (show Rz 158 mo from em ▸ ex_rz (by omega))
 rw [em] at hm1 hm2
 have EM := Lib.hid em; clear em
 have HLE := Lib.hid hle; clear hle
 obtain ⟨v1, hv1, hc1⟩ : ∃ v, cmpQ lo (-mo) = v ∧ decide (v < 0) = false := ⟨_, rfl, cmp_nlt hm1⟩
 have HV1 := Lib.hid hv1; clear hv1 hm1
 obtain ⟨v2, hv2, hc2⟩ : ∃ v, cmpQ hi mo = v ∧ decide (0 < v) = false := ⟨_, rfl, cmp_ngt hm2⟩
 have HV2 := Lib.hid hv2; clear hv2 hm2
 obtain ⟨s1, hs1, hd1⟩ : ∃ v, sgnQ lo = v ∧ decide (v < 0) = false := ⟨_, rfl, sgn_nneg hl⟩
 have HS1_ := Lib.hid hs1; clear hs1
 obtain ⟨s2, hs2, hd2⟩ : ∃ v, sgnQ hi = v ∧ decide (v < 0) = false := ⟨_, rfl, sgn_nneg hh⟩
 have HS2_ := Lib.hid hs2; clear hs2
 have HU1 := Lib.hid hu1; clear hu1
 have HL := Lib.hid hl; clear hl
 have HU2 := Lib.hid hu2; clear hu2
 have HH := Lib.hid hh; clear hh
 go_enter Tryz.func50, Tryz.ntmps50
 have HS : St w [] w := St.start
 go_upto_region 0 with fail
 refine rgT [] HS ?_
 refine bX (VC lo hi) ?_
 intro bk1 _ _ hbk1_r
 refine nZ ?_
 iterate 3 refine pW ?_
 refine d1 bk1 fun _ HS1=>?_
 clear HS
 go_upto_region 1 with fail
 refine rgT [] HS1 ?_
 refine lV ?_
 refine cX rfl rfl (sgood_q (k := 1000) HT.out (Z_lo.out.more (by omega)) (Z_hi.out.more (by omega)) HLE.out  (by omega)) ?_
 refine pW ?_
 refine dS fun _ HS2=>?_
 clear HS1
 go_upto_region 3 with fail
 refine rgT [] HS2 ?_
 refine pV (.int .u64 ((9218868437227405311 : Nat) : Int)) (fun w => f64_op rfl w) ?_
 refine cX rfl rfl (exact_q HT.out (by omega) EM.out) ?_
 refine aL3 ?_
 intro bk5 _ _ hbk5_r
 refine nZ ?_
 refine sV (RC_one _) ?_
 refine d1 bk5 fun _ HS3=>?_
 clear HS2
 go_upto_region 4 with fail
 refine rgW [] HS3 ?_
 refine pV (.pointer (some ⟨bk1, 0, none⟩)) (by intro w; go_simp; try first | with_reducible rfl | rfl) ?_
 refine Seq.loadAt rfl rfl rfl rfl (by repeat first|exact mC|apply mT) (n := 3) (cs' := RC lo) (by first | decide | exact Nat.le_refl _ | (simp [VC, TC, FC, BC, RC]; done)) (by kernel_rfl) (by first | rfl | (simp [VC, TC, FC, BC, RC]; done)) (nZ ?_)
 refine lV ?_
 refine cX rfl rfl (neg_q (k := 158) HT.out (Z_mo.out.more (by omega)) rfl (by omega)) ?_
 refine cX rfl rfl (cmp_q (k := 1000) HT.out (Z_lo.out.more (by omega)) (Z_mo.out.neg.more (by omega)) HV1.out (by omega)) ?_
 iterate 2 refine pW ?_
 refine pV (.pointer (some ⟨bk1, 3, none⟩)) (by intro w; go_simp; try first | with_reducible rfl | rfl) ?_
 refine Seq.loadAt rfl rfl rfl rfl (by repeat first|exact mC|apply mT) (n := 3) (cs' := RC hi) (by first | decide | exact Nat.le_refl _ | (simp [VC, TC, FC, BC, RC]; done)) (by kernel_rfl) (by first | rfl | (simp [VC, TC, FC, BC, RC]; done)) (nZ ?_)
 refine lV ?_
 refine cX rfl rfl (cmp_q (k := 1000) HT.out (Z_hi.out.more (by omega)) (Z_mo.out.more (by omega)) HV2.out (by omega)) ?_
 iterate 2 refine pW ?_
 refine dS fun _ HS4=>?_
 clear HS3
 go_upto_region 6 with fail
 refine rgW [] HS4 ?_
 refine pV (.pointer (some ⟨bk1, 0, none⟩)) (by intro w; go_simp; try first | with_reducible rfl | rfl) ?_
 refine Seq.loadAt rfl rfl rfl rfl (by repeat first|exact mC|apply mT) (n := 3) (cs' := RC lo) (by first | decide | exact Nat.le_refl _ | (simp [VC, TC, FC, BC, RC]; done)) (by kernel_rfl) (by first | rfl | (simp [VC, TC, FC, BC, RC]; done)) (nZ ?_)
 refine cX rfl rfl (of_q HT.out (by omega) (by omega) (show ((0 : Int) : Rat) = (0 : Rat) from rfl)) ?_
 refine cX rfl rfl (max_q (k := 1000) HT.out (Z_lo.out.more (by omega)) ((show Rz 2 (0 : Rat) from Rz.lit (z := 0) rfl (by decide)).more (by omega)) (maxQ_pos HL.out) (by omega)) ?_
 refine cX rfl rfl (under_q (k := 1000) HT.out (Z_lo.out.more (by omega)) HU1.out (by omega)) ?_
 refine pV (.pointer (some ⟨bk1, 3, none⟩)) (by intro w; go_simp; try first | with_reducible rfl | rfl) ?_
 refine Seq.loadAt rfl rfl rfl rfl (by repeat first|exact mC|apply mT) (n := 3) (cs' := RC hi) (by first | decide | exact Nat.le_refl _ | (simp [VC, TC, FC, BC, RC]; done)) (by kernel_rfl) (by first | rfl | (simp [VC, TC, FC, BC, RC]; done)) (nZ ?_)
 refine cX rfl rfl (of_q HT.out (by omega) (by omega) (show ((0 : Int) : Rat) = (0 : Rat) from rfl)) ?_
 refine cX rfl rfl (max_q (k := 1000) HT.out (Z_hi.out.more (by omega)) ((show Rz 2 (0 : Rat) from Rz.lit (z := 0) rfl (by decide)).more (by omega)) (maxQ_pos HH.out) (by omega)) ?_
 refine cX rfl rfl (over_q (k := 1000) HT.out (Z_hi.out.more (by omega)) HH.out HU2.out (by omega)) ?_
 iterate 2 refine pW ?_
 refine dS fun _ HS5=>?_
 clear HS4
 go_upto_region 7 with fail
 refine rgT [] HS5 ?_
 refine pV (.pointer (some ⟨bk1, 0, none⟩)) (by intro w; go_simp; try first | with_reducible rfl | rfl) ?_
 refine Seq.loadAt rfl rfl rfl rfl (by repeat first|exact mC|apply mT) (n := 3) (cs' := RC lo) (by first | decide | exact Nat.le_refl _ | (simp [VC, TC, FC, BC, RC]; done)) (by kernel_rfl) (by first | rfl | (simp [VC, TC, FC, BC, RC]; done)) (nZ ?_)
 refine cX rfl rfl (sign_q (k := 1000) HT.out (Z_lo.out.more (by omega)) HS1_.out (by omega)) ?_
 refine pW ?_
 refine dS fun _ HS6=>?_
 clear HS5
 go_upto_region 9 with fail
 refine rgT [] HS6 ?_
 refine pV (.pointer (some ⟨bk1, 3, none⟩)) (by intro w; go_simp; try first | with_reducible rfl | rfl) ?_
 refine Seq.loadAt rfl rfl rfl rfl (by repeat first|exact mC|apply mT) (n := 3) (cs' := RC hi) (by first | decide | exact Nat.le_refl _ | (simp [VC, TC, FC, BC, RC]; done)) (by kernel_rfl) (by first | rfl | (simp [VC, TC, FC, BC, RC]; done)) (nZ ?_)
 refine cX rfl rfl (sign_q (k := 1000) HT.out (Z_hi.out.more (by omega)) HS2_.out (by omega)) ?_
 refine pW ?_
 refine dS fun _ HS7=>?_
 clear HS6
 go_upto_region 13 with fail
 refine rgT [] HS7 ?_
 iterate 5 refine pW ?_
 refine dS fun _ HS8=>?_
 clear HS7
 go_wp2_with fail
 go_ret3
 exact ⟨rfl, HS8.below⟩
theorem to_np {lo hi : Rat} {a2 a3 b3 : Nat} (hT : Tab W) (Zlo : Rz 1000 lo) (Zhi : Rz 1000 hi) (hle : lo ≤ hi) (hm1 : -ex 9218868437227405311 ≤ lo) (hm2 : hi ≤ ex 9218868437227405311) (hl : lo < 0) (hu3 : Ovr (-lo) a3) (hb3 : b3 = a3 + 9223372036854775808) (hh : 0 ≤ hi) (hu2 : Ovr hi a2) (w : World) (h : St W l w) :
  Calls Tryz.prog 50 #[.agg (VC lo hi)] w fun e w' => e = .returned (.tuple #[.int .u64 ((b3 : Nat) : Int), .int .u64 ((a2 : Nat) : Int), .int .i64 0]) ∧ Below w.heap.size w w' := by
 have HT := Lib.hid (tabS hT h); clear hT h
 have Z_lo := Lib.hid Zlo; clear Zlo
 have Z_hi := Lib.hid Zhi; clear Zhi
 obtain ⟨mo, em⟩ : ∃ z, ex 9218868437227405311 = z := ⟨_, rfl⟩
 have Z_mo := Lib.hid (show Rz 158 mo from em ▸ ex_rz (by omega))
 rw [em] at hm1 hm2
 have EM := Lib.hid em; clear em
 have HLE := Lib.hid hle; clear hle
 obtain ⟨v1, hv1, hc1⟩ : ∃ v, cmpQ lo (-mo) = v ∧ decide (v < 0) = false := ⟨_, rfl, cmp_nlt hm1⟩
 have HV1 := Lib.hid hv1; clear hv1 hm1
 obtain ⟨v2, hv2, hc2⟩ : ∃ v, cmpQ hi mo = v ∧ decide (0 < v) = false := ⟨_, rfl, cmp_ngt hm2⟩
 have HV2 := Lib.hid hv2; clear hv2 hm2
 obtain ⟨s1, hs1, hd1⟩ : ∃ v, sgnQ lo = v ∧ decide (v < 0) = true := ⟨_, rfl, sgn_neg hl⟩
 have HS1_ := Lib.hid hs1; clear hs1
 obtain ⟨s2, hs2, hd2⟩ : ∃ v, sgnQ hi = v ∧ decide (v < 0) = false := ⟨_, rfl, sgn_nneg hh⟩
 have HS2_ := Lib.hid hs2; clear hs2
 have HNL := Lib.hid (show (0 : Rat) ≤ -lo by grind)
 have HB3 := Lib.hid (show bits BinOp.or IntKind.u64 9223372036854775808 (a3 : Int) = (b3 : Int) from by rw [hb3]; exact top_or a3 (by have := hu3.1; omega))
 have HU3 := Lib.hid hu3; clear hu3 hb3
 have HL := Lib.hid hl; clear hl
 have HU2 := Lib.hid hu2; clear hu2
 have HH := Lib.hid hh; clear hh
 go_enter Tryz.func50, Tryz.ntmps50
 have HS : St w [] w := St.start
 go_upto_region 0 with fail
 refine rgT [] HS ?_
 refine bX (VC lo hi) ?_
 intro bk1 _ _ hbk1_r
 refine nZ ?_
 iterate 3 refine pW ?_
 refine d1 bk1 fun _ HS1=>?_
 clear HS
 go_upto_region 1 with fail
 refine rgT [] HS1 ?_
 refine lV ?_
 refine cX rfl rfl (sgood_q (k := 1000) HT.out (Z_lo.out.more (by omega)) (Z_hi.out.more (by omega)) HLE.out  (by omega)) ?_
 refine pW ?_
 refine dS fun _ HS2=>?_
 clear HS1
 go_upto_region 3 with fail
 refine rgT [] HS2 ?_
 refine pV (.int .u64 ((9218868437227405311 : Nat) : Int)) (fun w => f64_op rfl w) ?_
 refine cX rfl rfl (exact_q HT.out (by omega) EM.out) ?_
 refine aL3 ?_
 intro bk5 _ _ hbk5_r
 refine nZ ?_
 refine sV (RC_one _) ?_
 refine d1 bk5 fun _ HS3=>?_
 clear HS2
 go_upto_region 4 with fail
 refine rgW [] HS3 ?_
 refine pV (.pointer (some ⟨bk1, 0, none⟩)) (by intro w; go_simp; try first | with_reducible rfl | rfl) ?_
 refine Seq.loadAt rfl rfl rfl rfl (by repeat first|exact mC|apply mT) (n := 3) (cs' := RC lo) (by first | decide | exact Nat.le_refl _ | (simp [VC, TC, FC, BC, RC]; done)) (by kernel_rfl) (by first | rfl | (simp [VC, TC, FC, BC, RC]; done)) (nZ ?_)
 refine lV ?_
 refine cX rfl rfl (neg_q (k := 158) HT.out (Z_mo.out.more (by omega)) rfl (by omega)) ?_
 refine cX rfl rfl (cmp_q (k := 1000) HT.out (Z_lo.out.more (by omega)) (Z_mo.out.neg.more (by omega)) HV1.out (by omega)) ?_
 iterate 2 refine pW ?_
 refine pV (.pointer (some ⟨bk1, 3, none⟩)) (by intro w; go_simp; try first | with_reducible rfl | rfl) ?_
 refine Seq.loadAt rfl rfl rfl rfl (by repeat first|exact mC|apply mT) (n := 3) (cs' := RC hi) (by first | decide | exact Nat.le_refl _ | (simp [VC, TC, FC, BC, RC]; done)) (by kernel_rfl) (by first | rfl | (simp [VC, TC, FC, BC, RC]; done)) (nZ ?_)
 refine lV ?_
 refine cX rfl rfl (cmp_q (k := 1000) HT.out (Z_hi.out.more (by omega)) (Z_mo.out.more (by omega)) HV2.out (by omega)) ?_
 iterate 2 refine pW ?_
 refine dS fun _ HS4=>?_
 clear HS3
 go_upto_region 6 with fail
 refine rgW [] HS4 ?_
 refine pV (.pointer (some ⟨bk1, 0, none⟩)) (by intro w; go_simp; try first | with_reducible rfl | rfl) ?_
 refine Seq.loadAt rfl rfl rfl rfl (by repeat first|exact mC|apply mT) (n := 3) (cs' := RC lo) (by first | decide | exact Nat.le_refl _ | (simp [VC, TC, FC, BC, RC]; done)) (by kernel_rfl) (by first | rfl | (simp [VC, TC, FC, BC, RC]; done)) (nZ ?_)
 refine cX rfl rfl (of_q HT.out (by omega) (by omega) (show ((0 : Int) : Rat) = (0 : Rat) from rfl)) ?_
 refine cX rfl rfl (max_q (k := 1000) HT.out (Z_lo.out.more (by omega)) ((show Rz 2 (0 : Rat) from Rz.lit (z := 0) rfl (by decide)).more (by omega)) (maxQ_neg HL.out) (by omega)) ?_
 refine cX rfl rfl (under_q (k := 1000) HT.out (Rz.zero2.more (by omega)) und_zero (by omega)) ?_
 refine pV (.pointer (some ⟨bk1, 3, none⟩)) (by intro w; go_simp; try first | with_reducible rfl | rfl) ?_
 refine Seq.loadAt rfl rfl rfl rfl (by repeat first|exact mC|apply mT) (n := 3) (cs' := RC hi) (by first | decide | exact Nat.le_refl _ | (simp [VC, TC, FC, BC, RC]; done)) (by kernel_rfl) (by first | rfl | (simp [VC, TC, FC, BC, RC]; done)) (nZ ?_)
 refine cX rfl rfl (of_q HT.out (by omega) (by omega) (show ((0 : Int) : Rat) = (0 : Rat) from rfl)) ?_
 refine cX rfl rfl (max_q (k := 1000) HT.out (Z_hi.out.more (by omega)) ((show Rz 2 (0 : Rat) from Rz.lit (z := 0) rfl (by decide)).more (by omega)) (maxQ_pos HH.out) (by omega)) ?_
 refine cX rfl rfl (over_q (k := 1000) HT.out (Z_hi.out.more (by omega)) HH.out HU2.out (by omega)) ?_
 iterate 2 refine pW ?_
 refine dS fun _ HS5=>?_
 clear HS4
 go_upto_region 7 with fail
 refine rgT [] HS5 ?_
 refine pV (.pointer (some ⟨bk1, 0, none⟩)) (by intro w; go_simp; try first | with_reducible rfl | rfl) ?_
 refine Seq.loadAt rfl rfl rfl rfl (by repeat first|exact mC|apply mT) (n := 3) (cs' := RC lo) (by first | decide | exact Nat.le_refl _ | (simp [VC, TC, FC, BC, RC]; done)) (by kernel_rfl) (by first | rfl | (simp [VC, TC, FC, BC, RC]; done)) (nZ ?_)
 refine cX rfl rfl (sign_q (k := 1000) HT.out (Z_lo.out.more (by omega)) HS1_.out (by omega)) ?_
 refine pW ?_
 refine dS fun _ HS6=>?_
 clear HS5
 go_upto_region 8 with fail
 refine rgT [] HS6 ?_
 refine pV (.pointer (some ⟨bk1, 0, none⟩)) (by intro w; go_simp; try first | with_reducible rfl | rfl) ?_
 refine Seq.loadAt rfl rfl rfl rfl (by repeat first|exact mC|apply mT) (n := 3) (cs' := RC lo) (by first | decide | exact Nat.le_refl _ | (simp [VC, TC, FC, BC, RC]; done)) (by kernel_rfl) (by first | rfl | (simp [VC, TC, FC, BC, RC]; done)) (nZ ?_)
 refine cX rfl rfl (neg_q (k := 1000) HT.out (Z_lo.out.more (by omega)) rfl (by omega)) ?_
 refine cX rfl rfl (over_q (k := 1000) HT.out (Z_lo.out.neg.more (by omega)) HNL.out HU3.out (by omega)) ?_
 refine pV (.int .u64 (b3 : Int)) (by intro w; go_simp <;> (first | (rw [HB3.out]; done) | exact HB3.out | (simp [HB3.out]; done) | (trace_state; done))) ?_
 refine pW ?_
 refine dS fun _ HS7=>?_
 clear HS6
 go_upto_region 9 with fail
 refine rgT [] HS7 ?_
 refine pV (.pointer (some ⟨bk1, 3, none⟩)) (by intro w; go_simp; try first | with_reducible rfl | rfl) ?_
 refine Seq.loadAt rfl rfl rfl rfl (by repeat first|exact mC|apply mT) (n := 3) (cs' := RC hi) (by first | decide | exact Nat.le_refl _ | (simp [VC, TC, FC, BC, RC]; done)) (by kernel_rfl) (by first | rfl | (simp [VC, TC, FC, BC, RC]; done)) (nZ ?_)
 refine cX rfl rfl (sign_q (k := 1000) HT.out (Z_hi.out.more (by omega)) HS2_.out (by omega)) ?_
 refine pW ?_
 refine dS fun _ HS8=>?_
 clear HS7
 go_upto_region 13 with fail
 refine rgT [] HS8 ?_
 iterate 5 refine pW ?_
 refine dS fun _ HS9=>?_
 clear HS8
 go_wp2_with fail
 go_ret3
 exact ⟨rfl, HS9.below⟩
theorem to_nn {lo hi : Rat} {a3 a4 b3 b4 : Nat} (hT : Tab W) (Zlo : Rz 1000 lo) (Zhi : Rz 1000 hi) (hle : lo ≤ hi) (hm1 : -ex 9218868437227405311 ≤ lo) (hm2 : hi ≤ ex 9218868437227405311) (hl : lo < 0) (hu3 : Ovr (-lo) a3) (hb3 : b3 = a3 + 9223372036854775808) (hh : hi < 0) (hu4 : Und (-hi) a4) (hp4 : 0 < a4) (hb4 : b4 = a4 + 9223372036854775808) (w : World) (h : St W l w) :
  Calls Tryz.prog 50 #[.agg (VC lo hi)] w fun e w' => e = .returned (.tuple #[.int .u64 ((b3 : Nat) : Int), .int .u64 ((b4 : Nat) : Int), .int .i64 0]) ∧ Below w.heap.size w w' := by
 have HT := Lib.hid (tabS hT h); clear hT h
 have Z_lo := Lib.hid Zlo; clear Zlo
 have Z_hi := Lib.hid Zhi; clear Zhi
 obtain ⟨mo, em⟩ : ∃ z, ex 9218868437227405311 = z := ⟨_, rfl⟩
 have Z_mo := Lib.hid (show Rz 158 mo from em ▸ ex_rz (by omega))
 rw [em] at hm1 hm2
 have EM := Lib.hid em; clear em
 have HLE := Lib.hid hle; clear hle
 obtain ⟨v1, hv1, hc1⟩ : ∃ v, cmpQ lo (-mo) = v ∧ decide (v < 0) = false := ⟨_, rfl, cmp_nlt hm1⟩
 have HV1 := Lib.hid hv1; clear hv1 hm1
 obtain ⟨v2, hv2, hc2⟩ : ∃ v, cmpQ hi mo = v ∧ decide (0 < v) = false := ⟨_, rfl, cmp_ngt hm2⟩
 have HV2 := Lib.hid hv2; clear hv2 hm2
 obtain ⟨s1, hs1, hd1⟩ : ∃ v, sgnQ lo = v ∧ decide (v < 0) = true := ⟨_, rfl, sgn_neg hl⟩
 have HS1_ := Lib.hid hs1; clear hs1
 obtain ⟨s2, hs2, hd2⟩ : ∃ v, sgnQ hi = v ∧ decide (v < 0) = true := ⟨_, rfl, sgn_neg hh⟩
 have HS2_ := Lib.hid hs2; clear hs2
 have HNL := Lib.hid (show (0 : Rat) ≤ -lo by grind)
 have HB3 := Lib.hid (show bits BinOp.or IntKind.u64 9223372036854775808 (a3 : Int) = (b3 : Int) from by rw [hb3]; exact top_or a3 (by have := hu3.1; omega))
 have HU3 := Lib.hid hu3; clear hu3 hb3
 have HL := Lib.hid hl; clear hl
 have HB4 := Lib.hid (show bits BinOp.or IntKind.u64 (a4 : Int) 9223372036854775808 = (b4 : Int) from by rw [hb4]; exact or_top a4 (by have := hu4.1; omega))
 clear hb4
 have HP4 := Lib.hid (show 0 < a4 from by omega)
 have HU4 := Lib.hid hu4; clear hu4 hp4
 have HH := Lib.hid hh; clear hh
 go_enter Tryz.func50, Tryz.ntmps50
 have HS : St w [] w := St.start
 go_upto_region 0 with fail
 refine rgT [] HS ?_
 refine bX (VC lo hi) ?_
 intro bk1 _ _ hbk1_r
 refine nZ ?_
 iterate 3 refine pW ?_
 refine d1 bk1 fun _ HS1=>?_
 clear HS
 go_upto_region 1 with fail
 refine rgT [] HS1 ?_
 refine lV ?_
 refine cX rfl rfl (sgood_q (k := 1000) HT.out (Z_lo.out.more (by omega)) (Z_hi.out.more (by omega)) HLE.out  (by omega)) ?_
 refine pW ?_
 refine dS fun _ HS2=>?_
 clear HS1
 go_upto_region 3 with fail
 refine rgT [] HS2 ?_
 refine pV (.int .u64 ((9218868437227405311 : Nat) : Int)) (fun w => f64_op rfl w) ?_
 refine cX rfl rfl (exact_q HT.out (by omega) EM.out) ?_
 refine aL3 ?_
 intro bk5 _ _ hbk5_r
 refine nZ ?_
 refine sV (RC_one _) ?_
 refine d1 bk5 fun _ HS3=>?_
 clear HS2
 go_upto_region 4 with fail
 refine rgW [] HS3 ?_
 refine pV (.pointer (some ⟨bk1, 0, none⟩)) (by intro w; go_simp; try first | with_reducible rfl | rfl) ?_
 refine Seq.loadAt rfl rfl rfl rfl (by repeat first|exact mC|apply mT) (n := 3) (cs' := RC lo) (by first | decide | exact Nat.le_refl _ | (simp [VC, TC, FC, BC, RC]; done)) (by kernel_rfl) (by first | rfl | (simp [VC, TC, FC, BC, RC]; done)) (nZ ?_)
 refine lV ?_
 refine cX rfl rfl (neg_q (k := 158) HT.out (Z_mo.out.more (by omega)) rfl (by omega)) ?_
 refine cX rfl rfl (cmp_q (k := 1000) HT.out (Z_lo.out.more (by omega)) (Z_mo.out.neg.more (by omega)) HV1.out (by omega)) ?_
 iterate 2 refine pW ?_
 refine pV (.pointer (some ⟨bk1, 3, none⟩)) (by intro w; go_simp; try first | with_reducible rfl | rfl) ?_
 refine Seq.loadAt rfl rfl rfl rfl (by repeat first|exact mC|apply mT) (n := 3) (cs' := RC hi) (by first | decide | exact Nat.le_refl _ | (simp [VC, TC, FC, BC, RC]; done)) (by kernel_rfl) (by first | rfl | (simp [VC, TC, FC, BC, RC]; done)) (nZ ?_)
 refine lV ?_
 refine cX rfl rfl (cmp_q (k := 1000) HT.out (Z_hi.out.more (by omega)) (Z_mo.out.more (by omega)) HV2.out (by omega)) ?_
 iterate 2 refine pW ?_
 refine dS fun _ HS4=>?_
 clear HS3
 go_upto_region 6 with fail
 refine rgW [] HS4 ?_
 refine pV (.pointer (some ⟨bk1, 0, none⟩)) (by intro w; go_simp; try first | with_reducible rfl | rfl) ?_
 refine Seq.loadAt rfl rfl rfl rfl (by repeat first|exact mC|apply mT) (n := 3) (cs' := RC lo) (by first | decide | exact Nat.le_refl _ | (simp [VC, TC, FC, BC, RC]; done)) (by kernel_rfl) (by first | rfl | (simp [VC, TC, FC, BC, RC]; done)) (nZ ?_)
 refine cX rfl rfl (of_q HT.out (by omega) (by omega) (show ((0 : Int) : Rat) = (0 : Rat) from rfl)) ?_
 refine cX rfl rfl (max_q (k := 1000) HT.out (Z_lo.out.more (by omega)) ((show Rz 2 (0 : Rat) from Rz.lit (z := 0) rfl (by decide)).more (by omega)) (maxQ_neg HL.out) (by omega)) ?_
 refine cX rfl rfl (under_q (k := 1000) HT.out (Rz.zero2.more (by omega)) und_zero (by omega)) ?_
 refine pV (.pointer (some ⟨bk1, 3, none⟩)) (by intro w; go_simp; try first | with_reducible rfl | rfl) ?_
 refine Seq.loadAt rfl rfl rfl rfl (by repeat first|exact mC|apply mT) (n := 3) (cs' := RC hi) (by first | decide | exact Nat.le_refl _ | (simp [VC, TC, FC, BC, RC]; done)) (by kernel_rfl) (by first | rfl | (simp [VC, TC, FC, BC, RC]; done)) (nZ ?_)
 refine cX rfl rfl (of_q HT.out (by omega) (by omega) (show ((0 : Int) : Rat) = (0 : Rat) from rfl)) ?_
 refine cX rfl rfl (max_q (k := 1000) HT.out (Z_hi.out.more (by omega)) ((show Rz 2 (0 : Rat) from Rz.lit (z := 0) rfl (by decide)).more (by omega)) (maxQ_neg HH.out) (by omega)) ?_
 refine cX rfl rfl (over_q (k := 1000) HT.out (Rz.zero2.more (by omega)) Rat.le_refl ovr_zero (by omega)) ?_
 iterate 2 refine pW ?_
 refine dS fun _ HS5=>?_
 clear HS4
 go_upto_region 7 with fail
 refine rgT [] HS5 ?_
 refine pV (.pointer (some ⟨bk1, 0, none⟩)) (by intro w; go_simp; try first | with_reducible rfl | rfl) ?_
 refine Seq.loadAt rfl rfl rfl rfl (by repeat first|exact mC|apply mT) (n := 3) (cs' := RC lo) (by first | decide | exact Nat.le_refl _ | (simp [VC, TC, FC, BC, RC]; done)) (by kernel_rfl) (by first | rfl | (simp [VC, TC, FC, BC, RC]; done)) (nZ ?_)
 refine cX rfl rfl (sign_q (k := 1000) HT.out (Z_lo.out.more (by omega)) HS1_.out (by omega)) ?_
 refine pW ?_
 refine dS fun _ HS6=>?_
 clear HS5
 go_upto_region 8 with fail
 refine rgT [] HS6 ?_
 refine pV (.pointer (some ⟨bk1, 0, none⟩)) (by intro w; go_simp; try first | with_reducible rfl | rfl) ?_
 refine Seq.loadAt rfl rfl rfl rfl (by repeat first|exact mC|apply mT) (n := 3) (cs' := RC lo) (by first | decide | exact Nat.le_refl _ | (simp [VC, TC, FC, BC, RC]; done)) (by kernel_rfl) (by first | rfl | (simp [VC, TC, FC, BC, RC]; done)) (nZ ?_)
 refine cX rfl rfl (neg_q (k := 1000) HT.out (Z_lo.out.more (by omega)) rfl (by omega)) ?_
 refine cX rfl rfl (over_q (k := 1000) HT.out (Z_lo.out.neg.more (by omega)) HNL.out HU3.out (by omega)) ?_
 refine pV (.int .u64 (b3 : Int)) (by intro w; go_simp <;> (first | (rw [HB3.out]; done) | exact HB3.out | (simp [HB3.out]; done) | (trace_state; done))) ?_
 refine pW ?_
 refine dS fun _ HS7=>?_
 clear HS6
 go_upto_region 9 with fail
 refine rgT [] HS7 ?_
 refine pV (.pointer (some ⟨bk1, 3, none⟩)) (by intro w; go_simp; try first | with_reducible rfl | rfl) ?_
 refine Seq.loadAt rfl rfl rfl rfl (by repeat first|exact mC|apply mT) (n := 3) (cs' := RC hi) (by first | decide | exact Nat.le_refl _ | (simp [VC, TC, FC, BC, RC]; done)) (by kernel_rfl) (by first | rfl | (simp [VC, TC, FC, BC, RC]; done)) (nZ ?_)
 refine cX rfl rfl (sign_q (k := 1000) HT.out (Z_hi.out.more (by omega)) HS2_.out (by omega)) ?_
 refine pW ?_
 refine dS fun _ HS8=>?_
 clear HS7
 go_upto_region 10 with fail
 refine rgT [] HS8 ?_
 refine pV (.pointer (some ⟨bk1, 3, none⟩)) (by intro w; go_simp; try first | with_reducible rfl | rfl) ?_
 refine Seq.loadAt rfl rfl rfl rfl (by repeat first|exact mC|apply mT) (n := 3) (cs' := RC hi) (by first | decide | exact Nat.le_refl _ | (simp [VC, TC, FC, BC, RC]; done)) (by kernel_rfl) (by first | rfl | (simp [VC, TC, FC, BC, RC]; done)) (nZ ?_)
 refine cX rfl rfl (neg_q (k := 1000) HT.out (Z_hi.out.more (by omega)) rfl (by omega)) ?_
 refine cX rfl rfl (under_q (k := 1000) HT.out (Z_hi.out.neg.more (by omega)) HU4.out (by omega)) ?_
 refine pW ?_
 refine dS fun _ HS9=>?_
 clear HS8
 go_upto_region 11 with fail
 refine rgT [] HS9 ?_
 refine pW ?_
 refine pV (.bool true) (by intro w; go_simp <;> (first | (rw [HP4.out]; done) | (rw [HP4.out]; done) | exact HP4.out | exact HP4.out | (simp [HP4.out, HP4.out]; done) | (trace_state; done))) ?_
 refine dS fun _ HS10=>?_
 clear HS9
 go_upto_region 12 with fail
 refine rgT [] HS10 ?_
 refine pW ?_
 refine pV (.int .u64 (b4 : Int)) (by intro w; go_simp <;> (first | (rw [HB4.out]; done) | exact HB4.out | (simp [HB4.out]; done) | (trace_state; done))) ?_
 refine pW ?_
 refine dS fun _ HS11=>?_
 clear HS10
 go_upto_region 13 with fail
 refine rgT [] HS11 ?_
 iterate 5 refine pW ?_
 refine dS fun _ HS12=>?_
 clear HS11
 go_wp2_with fail
 go_ret3
 exact ⟨rfl, HS12.below⟩
theorem to_n0 {lo hi : Rat} {a3 a4 b3 : Nat} (hT : Tab W) (Zlo : Rz 1000 lo) (Zhi : Rz 1000 hi) (hle : lo ≤ hi) (hm1 : -ex 9218868437227405311 ≤ lo) (hm2 : hi ≤ ex 9218868437227405311) (hl : lo < 0) (hu3 : Ovr (-lo) a3) (hb3 : b3 = a3 + 9223372036854775808) (hh : hi < 0) (hu4 : Und (-hi) a4) (hp4 : a4 = 0) (w : World) (h : St W l w) :
  Calls Tryz.prog 50 #[.agg (VC lo hi)] w fun e w' => e = .returned (.tuple #[.int .u64 ((b3 : Nat) : Int), .int .u64 ((a4 : Nat) : Int), .int .i64 0]) ∧ Below w.heap.size w w' := by
 have HT := Lib.hid (tabS hT h); clear hT h
 have Z_lo := Lib.hid Zlo; clear Zlo
 have Z_hi := Lib.hid Zhi; clear Zhi
 obtain ⟨mo, em⟩ : ∃ z, ex 9218868437227405311 = z := ⟨_, rfl⟩
 have Z_mo := Lib.hid (show Rz 158 mo from em ▸ ex_rz (by omega))
 rw [em] at hm1 hm2
 have EM := Lib.hid em; clear em
 have HLE := Lib.hid hle; clear hle
 obtain ⟨v1, hv1, hc1⟩ : ∃ v, cmpQ lo (-mo) = v ∧ decide (v < 0) = false := ⟨_, rfl, cmp_nlt hm1⟩
 have HV1 := Lib.hid hv1; clear hv1 hm1
 obtain ⟨v2, hv2, hc2⟩ : ∃ v, cmpQ hi mo = v ∧ decide (0 < v) = false := ⟨_, rfl, cmp_ngt hm2⟩
 have HV2 := Lib.hid hv2; clear hv2 hm2
 obtain ⟨s1, hs1, hd1⟩ : ∃ v, sgnQ lo = v ∧ decide (v < 0) = true := ⟨_, rfl, sgn_neg hl⟩
 have HS1_ := Lib.hid hs1; clear hs1
 obtain ⟨s2, hs2, hd2⟩ : ∃ v, sgnQ hi = v ∧ decide (v < 0) = true := ⟨_, rfl, sgn_neg hh⟩
 have HS2_ := Lib.hid hs2; clear hs2
 have HNL := Lib.hid (show (0 : Rat) ≤ -lo by grind)
 have HB3 := Lib.hid (show bits BinOp.or IntKind.u64 9223372036854775808 (a3 : Int) = (b3 : Int) from by rw [hb3]; exact top_or a3 (by have := hu3.1; omega))
 have HU3 := Lib.hid hu3; clear hu3 hb3
 have HL := Lib.hid hl; clear hl
 have HP4 := Lib.hid (show a4 = 0 from by omega)
 have HU4 := Lib.hid hu4; clear hu4 hp4
 have HH := Lib.hid hh; clear hh
 go_enter Tryz.func50, Tryz.ntmps50
 have HS : St w [] w := St.start
 go_upto_region 0 with fail
 refine rgT [] HS ?_
 refine bX (VC lo hi) ?_
 intro bk1 _ _ hbk1_r
 refine nZ ?_
 iterate 3 refine pW ?_
 refine d1 bk1 fun _ HS1=>?_
 clear HS
 go_upto_region 1 with fail
 refine rgT [] HS1 ?_
 refine lV ?_
 refine cX rfl rfl (sgood_q (k := 1000) HT.out (Z_lo.out.more (by omega)) (Z_hi.out.more (by omega)) HLE.out  (by omega)) ?_
 refine pW ?_
 refine dS fun _ HS2=>?_
 clear HS1
 go_upto_region 3 with fail
 refine rgT [] HS2 ?_
 refine pV (.int .u64 ((9218868437227405311 : Nat) : Int)) (fun w => f64_op rfl w) ?_
 refine cX rfl rfl (exact_q HT.out (by omega) EM.out) ?_
 refine aL3 ?_
 intro bk5 _ _ hbk5_r
 refine nZ ?_
 refine sV (RC_one _) ?_
 refine d1 bk5 fun _ HS3=>?_
 clear HS2
 go_upto_region 4 with fail
 refine rgW [] HS3 ?_
 refine pV (.pointer (some ⟨bk1, 0, none⟩)) (by intro w; go_simp; try first | with_reducible rfl | rfl) ?_
 refine Seq.loadAt rfl rfl rfl rfl (by repeat first|exact mC|apply mT) (n := 3) (cs' := RC lo) (by first | decide | exact Nat.le_refl _ | (simp [VC, TC, FC, BC, RC]; done)) (by kernel_rfl) (by first | rfl | (simp [VC, TC, FC, BC, RC]; done)) (nZ ?_)
 refine lV ?_
 refine cX rfl rfl (neg_q (k := 158) HT.out (Z_mo.out.more (by omega)) rfl (by omega)) ?_
 refine cX rfl rfl (cmp_q (k := 1000) HT.out (Z_lo.out.more (by omega)) (Z_mo.out.neg.more (by omega)) HV1.out (by omega)) ?_
 iterate 2 refine pW ?_
 refine pV (.pointer (some ⟨bk1, 3, none⟩)) (by intro w; go_simp; try first | with_reducible rfl | rfl) ?_
 refine Seq.loadAt rfl rfl rfl rfl (by repeat first|exact mC|apply mT) (n := 3) (cs' := RC hi) (by first | decide | exact Nat.le_refl _ | (simp [VC, TC, FC, BC, RC]; done)) (by kernel_rfl) (by first | rfl | (simp [VC, TC, FC, BC, RC]; done)) (nZ ?_)
 refine lV ?_
 refine cX rfl rfl (cmp_q (k := 1000) HT.out (Z_hi.out.more (by omega)) (Z_mo.out.more (by omega)) HV2.out (by omega)) ?_
 iterate 2 refine pW ?_
 refine dS fun _ HS4=>?_
 clear HS3
 go_upto_region 6 with fail
 refine rgW [] HS4 ?_
 refine pV (.pointer (some ⟨bk1, 0, none⟩)) (by intro w; go_simp; try first | with_reducible rfl | rfl) ?_
 refine Seq.loadAt rfl rfl rfl rfl (by repeat first|exact mC|apply mT) (n := 3) (cs' := RC lo) (by first | decide | exact Nat.le_refl _ | (simp [VC, TC, FC, BC, RC]; done)) (by kernel_rfl) (by first | rfl | (simp [VC, TC, FC, BC, RC]; done)) (nZ ?_)
 refine cX rfl rfl (of_q HT.out (by omega) (by omega) (show ((0 : Int) : Rat) = (0 : Rat) from rfl)) ?_
 refine cX rfl rfl (max_q (k := 1000) HT.out (Z_lo.out.more (by omega)) ((show Rz 2 (0 : Rat) from Rz.lit (z := 0) rfl (by decide)).more (by omega)) (maxQ_neg HL.out) (by omega)) ?_
 refine cX rfl rfl (under_q (k := 1000) HT.out (Rz.zero2.more (by omega)) und_zero (by omega)) ?_
 refine pV (.pointer (some ⟨bk1, 3, none⟩)) (by intro w; go_simp; try first | with_reducible rfl | rfl) ?_
 refine Seq.loadAt rfl rfl rfl rfl (by repeat first|exact mC|apply mT) (n := 3) (cs' := RC hi) (by first | decide | exact Nat.le_refl _ | (simp [VC, TC, FC, BC, RC]; done)) (by kernel_rfl) (by first | rfl | (simp [VC, TC, FC, BC, RC]; done)) (nZ ?_)
 refine cX rfl rfl (of_q HT.out (by omega) (by omega) (show ((0 : Int) : Rat) = (0 : Rat) from rfl)) ?_
 refine cX rfl rfl (max_q (k := 1000) HT.out (Z_hi.out.more (by omega)) ((show Rz 2 (0 : Rat) from Rz.lit (z := 0) rfl (by decide)).more (by omega)) (maxQ_neg HH.out) (by omega)) ?_
 refine cX rfl rfl (over_q (k := 1000) HT.out (Rz.zero2.more (by omega)) Rat.le_refl ovr_zero (by omega)) ?_
 iterate 2 refine pW ?_
 refine dS fun _ HS5=>?_
 clear HS4
 go_upto_region 7 with fail
 refine rgT [] HS5 ?_
 refine pV (.pointer (some ⟨bk1, 0, none⟩)) (by intro w; go_simp; try first | with_reducible rfl | rfl) ?_
 refine Seq.loadAt rfl rfl rfl rfl (by repeat first|exact mC|apply mT) (n := 3) (cs' := RC lo) (by first | decide | exact Nat.le_refl _ | (simp [VC, TC, FC, BC, RC]; done)) (by kernel_rfl) (by first | rfl | (simp [VC, TC, FC, BC, RC]; done)) (nZ ?_)
 refine cX rfl rfl (sign_q (k := 1000) HT.out (Z_lo.out.more (by omega)) HS1_.out (by omega)) ?_
 refine pW ?_
 refine dS fun _ HS6=>?_
 clear HS5
 go_upto_region 8 with fail
 refine rgT [] HS6 ?_
 refine pV (.pointer (some ⟨bk1, 0, none⟩)) (by intro w; go_simp; try first | with_reducible rfl | rfl) ?_
 refine Seq.loadAt rfl rfl rfl rfl (by repeat first|exact mC|apply mT) (n := 3) (cs' := RC lo) (by first | decide | exact Nat.le_refl _ | (simp [VC, TC, FC, BC, RC]; done)) (by kernel_rfl) (by first | rfl | (simp [VC, TC, FC, BC, RC]; done)) (nZ ?_)
 refine cX rfl rfl (neg_q (k := 1000) HT.out (Z_lo.out.more (by omega)) rfl (by omega)) ?_
 refine cX rfl rfl (over_q (k := 1000) HT.out (Z_lo.out.neg.more (by omega)) HNL.out HU3.out (by omega)) ?_
 refine pV (.int .u64 (b3 : Int)) (by intro w; go_simp <;> (first | (rw [HB3.out]; done) | exact HB3.out | (simp [HB3.out]; done) | (trace_state; done))) ?_
 refine pW ?_
 refine dS fun _ HS7=>?_
 clear HS6
 go_upto_region 9 with fail
 refine rgT [] HS7 ?_
 refine pV (.pointer (some ⟨bk1, 3, none⟩)) (by intro w; go_simp; try first | with_reducible rfl | rfl) ?_
 refine Seq.loadAt rfl rfl rfl rfl (by repeat first|exact mC|apply mT) (n := 3) (cs' := RC hi) (by first | decide | exact Nat.le_refl _ | (simp [VC, TC, FC, BC, RC]; done)) (by kernel_rfl) (by first | rfl | (simp [VC, TC, FC, BC, RC]; done)) (nZ ?_)
 refine cX rfl rfl (sign_q (k := 1000) HT.out (Z_hi.out.more (by omega)) HS2_.out (by omega)) ?_
 refine pW ?_
 refine dS fun _ HS8=>?_
 clear HS7
 go_upto_region 10 with fail
 refine rgT [] HS8 ?_
 refine pV (.pointer (some ⟨bk1, 3, none⟩)) (by intro w; go_simp; try first | with_reducible rfl | rfl) ?_
 refine Seq.loadAt rfl rfl rfl rfl (by repeat first|exact mC|apply mT) (n := 3) (cs' := RC hi) (by first | decide | exact Nat.le_refl _ | (simp [VC, TC, FC, BC, RC]; done)) (by kernel_rfl) (by first | rfl | (simp [VC, TC, FC, BC, RC]; done)) (nZ ?_)
 refine cX rfl rfl (neg_q (k := 1000) HT.out (Z_hi.out.more (by omega)) rfl (by omega)) ?_
 refine cX rfl rfl (under_q (k := 1000) HT.out (Z_hi.out.neg.more (by omega)) HU4.out (by omega)) ?_
 refine pW ?_
 refine dS fun _ HS9=>?_
 clear HS8
 go_upto_region 11 with fail
 refine rgT [] HS9 ?_
 refine pW ?_
 refine pV (.bool false) (by intro w; go_simp <;> (first | (rw [HP4.out]; done) | (rw [HP4.out]; done) | exact HP4.out | exact HP4.out | (simp [HP4.out, HP4.out]; done) | (trace_state; done))) ?_
 refine dS fun _ HS10=>?_
 clear HS9
 go_upto_region 13 with fail
 refine rgT [] HS10 ?_
 iterate 5 refine pW ?_
 refine dS fun _ HS11=>?_
 clear HS10
 go_wp2_with fail
 go_ret3
 exact ⟨rfl, HS11.below⟩
def a_ok (lo al ah : Rat) : Prop := al < lo ∧ lo - ah < ah - al
def b_ok (hi bl bh : Rat) : Prop := hi < bh ∧ bl - hi < bh - bl
theorem frL_t (b : Nat) : frL true b = -midE b := if_pos rfl
theorem frL_f (b : Nat) : frL false b = if b = 0 then -midE b else midE (b - 1) := if_neg (by decide)
theorem frH_t (b : Nat) : frH true b = if b = 0 then midE b else -midE (b - 1) := if_pos rfl
theorem frH_f (b : Nat) : frH false b = midE b := if_neg (by decide)
theorem frL_rz {n : Bool} {b : Nat} (h : b < 9218868437227405312) : Rz 1000 (frL n b) := by
 unfold frL
 split
 ·exact (mid_rz h).neg
 ·split
  ·exact (mid_rz h).neg
  ·exact mid_rz (by omega)
theorem frH_rz {n : Bool} {b : Nat} (h : b < 9218868437227405312) : Rz 1000 (frH n b) := by
 unfold frH
 split
 ·split
  ·exact mid_rz h
  ·exact (mid_rz (by omega)).neg
 ·exact mid_rz h
theorem mid_twice (b : Nat) : midE b + midE b = ex b + ex (b + 1) := by unfold midE; rw [half_is]; grind
theorem mid_step {b : Nat} (h : 0 < b) : midE (b - 1) + midE (b - 1) = ex (b - 1) + ex b := by
 have := mid_twice (b - 1)
 rwa [show b - 1 + 1 = b by omega] at this
theorem a_pos {lo : Rat} {u : Nat} (h1 : ex u ≤ lo) (h2 : lo < ex (u + 1)) : a_ok lo (frL false u) (frH false u) := by
 have t := mid_twice u
 have g := ex_lt (show u < u + 1 by omega)
 have p := mid_pos u
 unfold a_ok
 rw [frL_f, frH_f]
 by_cases h0 : u = 0
 ·rw [if_pos h0]
  subst h0
  rw [ex_zero] at t h1
  constructor <;> grind
 ·rw [if_neg h0]
  have s := mid_step (show 0 < u by omega)
  have g2 := ex_lt (show u - 1 < u by omega)
  constructor <;> grind
theorem a_neg {lo : Rat} {o : Nat} (h : Ovr (-lo) o) (h0 : lo < 0) : 0 < o ∧ a_ok lo (frL true o) (frH true o) := by
 obtain ⟨h1, h2, h3⟩ := h
 have ho : 0 < o := by
  rcases Nat.eq_zero_or_pos o with h5 | h5
  ·subst h5; rw [ex_zero] at h2; grind
  ·exact h5
 have h4 : ex (o - 1) < -lo := by rcases h3 with h3 | h3; omega; exact h3
 refine ⟨ho, ?_⟩
 have t := mid_twice o
 have s := mid_step ho
 have g := ex_lt (show o < o + 1 by omega)
 have g2 := ex_lt (show o - 1 < o by omega)
 unfold a_ok
 rw [frL_t, frH_t, if_neg (by omega)]
 constructor <;> grind
theorem b_pos {hi : Rat} {o : Nat} (h : Ovr hi o) (h0 : 0 ≤ hi) : b_ok hi (frL false o) (frH false o) := by
 obtain ⟨h1, h2, h3⟩ := h
 have t := mid_twice o
 have g := ex_lt (show o < o + 1 by omega)
 have p := mid_pos o
 unfold b_ok
 rw [frL_f, frH_f]
 by_cases h5 : o = 0
 ·rw [if_pos h5]
  subst h5
  rw [ex_zero] at t h2
  constructor <;> grind
 ·rw [if_neg h5]
  have h4 : ex (o - 1) < hi := by rcases h3 with h3 | h3; omega; exact h3
  have s := mid_step (show 0 < o by omega)
  have g2 := ex_lt (show o - 1 < o by omega)
  constructor <;> grind
theorem b_neg {hi : Rat} {u : Nat} (h1 : ex u ≤ -hi) (h2 : -hi < ex (u + 1)) (h0 : 0 < u) : b_ok hi (frL true u) (frH true u) := by
 have t := mid_twice u
 have s := mid_step h0
 have g := ex_lt (show u < u + 1 by omega)
 have g2 := ex_lt (show u - 1 < u by omega)
 unfold b_ok
 rw [frL_t, frH_t, if_neg (by omega)]
 constructor <;> grind
theorem b_neg0 {hi : Rat} (h1 : hi < 0) (h2 : -hi < ex (0 + 1)) : b_ok hi (frL false 0) (frH false 0) := by
 have t := mid_twice 0
 have p := mid_pos 0
 rw [ex_zero] at t
 unfold b_ok
 rw [frL_f, frH_f, if_pos rfl]
 constructor <;> grind
theorem und_ex_n {a : Rat} (h0 : 0 ≤ a) (n : Nat) (hn : a < ex n) : ∃ u, u < n ∧ ex u ≤ a ∧ a < ex (u + 1) := by
 induction n with
 | zero => rw [ex_zero] at hn; grind
 | succ n ih =>
   rcases rat_tri a (ex n) with h | h | h
   ·obtain ⟨u, h1, h2⟩ := ih h
    exact ⟨u, by omega, h2⟩
   ·exact ⟨n, by omega, by grind, hn⟩
   ·exact ⟨n, by omega, by grind, hn⟩
end Go.Proofs.YtmchjmflkaiakaaGreatDoor
