/- Joined texts. -/
import Derived.Test.YtahmajbgfjinbaaDoorBo5

/- borderBegun (printed by lawvec.py). -/
namespace Go.Proofs.YtahmajbgfjinbaaDoor
open Go.RowKit
set_option linter.unusedVariables false
set_option linter.unusedSimpArgs false

theorem ex_one : ex 4607182418800017408 = 1 := by
  rw [← ex_lo (b := 4607182418800017408) (by decide)]
  have e1 : exM 4607182418800017408 = 4503599627370496 := by decide
  have e2 : exE 4607182418800017408 = 1023 := by decide
  rw [e1, e2]
  have e3 : pw (1075 - 1023) = 4503599627370496 := by decide +kernel
  rw [e3]; decide +kernel
theorem ex_two : ex 4611686018427387904 = 2 := by
  rw [← ex_lo (b := 4611686018427387904) (by decide)]
  have e1 : exM 4611686018427387904 = 4503599627370496 := by decide
  have e2 : exE 4611686018427387904 = 1024 := by decide
  rw [e1, e2]
  have e3 : pw (1075 - 1024) = 2251799813685248 := by decide +kernel
  rw [e3]; decide +kernel
theorem ovr_mid {b : Nat} (h : b < 9218868437227405311) : Ovr (midE b) (b + 1) :=
  ⟨by omega, by have := mid_lt b; grind, .inr (mid_gt b)⟩
set_option maxHeartbeats 2000000 in
set_option maxRecDepth 20000 in
theorem bbegun_q {W : World} {l : List Own} (hT : Tab W) (w : World) (h : St W l w) :
    Calls Tryd.prog 63 #[] w fun e w' => e = .returned (.bool true) ∧ Below w.heap.size w w' := by
  have HT := Lib.hid (tabS hT h); clear hT h
  obtain ⟨lo, elo⟩ : ∃ z, midE 4607182418800017407 = z := ⟨_, rfl⟩
  obtain ⟨hi, ehi⟩ : ∃ z, midE 4607182418800017408 = z := ⟨_, rfl⟩
  have hl : lo < 1 := by rw [← elo, ← ex_one]; exact mid_lt 4607182418800017407
  have hh : 1 < hi := by rw [← ehi, ← ex_one]; exact mid_gt 4607182418800017408
  have hh2 : hi < 2 := by
    rw [← ehi, ← ex_two]
    have h1 := mid_lt 4607182418800017408
    have h2 := ex_le (show 4607182418800017408 + 1 ≤ 4611686018427387904 by omega)
    grind
  have Z_lo := Lib.hid (show Rz 1000 lo from elo ▸ mid_rz (by omega))
  have Z_hi := Lib.hid (show Rz 1000 hi from ehi ▸ mid_rz (by omega))
  have HF := Lib.hid (show frL false 4607182418800017408 = lo ∧ frH false 4607182418800017408 = hi from ⟨elo, ehi⟩); clear elo ehi
  have HLE := Lib.hid (show lo ≤ hi by grind)
  have HZ := Lib.hid (show decide (lo ≤ (1 : Rat) ∧ (1 : Rat) ≤ hi) = true ∧ decide (lo ≤ (2 : Rat) ∧ (2 : Rat) ≤ hi) = false from ⟨decide_eq_true (by grind), decide_eq_false (by grind)⟩)
  clear hl hh hh2
  go_enter Tryd.func63, Tryd.ntmps63
  have HS : St w [] w := St.start
  go_upto_region 0 with (fail)
  refine wp_seq_text [] (StR.no HS) ?_
  refine Seq.pure rfl rfl (by intro w; go_simp; try first | with_reducible rfl | rfl) ?_
  simp only [Act.put, List.setIfInBounds_toArray, List.set_cons_zero, List.set_cons_succ]
  refine Seq.done fun ws1 hws => ?_
  have HS1 := hws.st
  clear HS hws
  go_upto_region 1 with (fail)
  refine wp_seq_text [] (StR.no HS1) ?_
  refine Seq.call rfl rfl rfl rfl (by kernel_rfl) (from_q (n := false) (bb := 4607182418800017408) (b := 4607182418800017408) HT.out rfl (by omega) HF.out.1 HF.out.2) ?_
  simp only [Act.put, List.setIfInBounds_toArray, List.set_cons_zero, List.set_cons_succ]
  refine Seq.pure rfl rfl (by intro w; go_simp; try first | with_reducible rfl | rfl) ?_
  simp only [Act.put, List.setIfInBounds_toArray, List.set_cons_zero, List.set_cons_succ]
  refine Seq.pure (v := .agg (VC lo hi)) rfl rfl (fun w => rfl) ?_
  simp only [Act.put, List.setIfInBounds_toArray, List.set_cons_zero, List.set_cons_succ]
  refine Seq.pure (v := .int .i64 0) rfl rfl (fun w => rfl) ?_
  simp only [Act.put, List.setIfInBounds_toArray, List.set_cons_zero, List.set_cons_succ]
  refine Seq.alloc rfl rfl rfl (z := .agg #[.bool false, .string ⟨#[]⟩, .string ⟨#[]⟩, .bool false, .string ⟨#[]⟩, .string ⟨#[]⟩]) (by kernel_rfl) rfl ?_
  intro bk1 _ _ hbk1_r
  simp only [Act.put, List.setIfInBounds_toArray, List.set_cons_zero, List.set_cons_succ]
  refine Seq.store rfl rfl rfl rfl rfl (by first | exact rS | exact rN (by assumption) (rS) | exact rN (by assumption) (rN (by assumption) (rS)) | exact rN (by assumption) (rN (by assumption) (rN (by assumption) (rS))) | exact rN (by assumption) (rN (by assumption) (rN (by assumption) (rN (by assumption) (rS))))) (n := 6) rfl rfl (by kernel_rfl) (VC_one _ _) ?_
  simp only [Act.put, List.setIfInBounds_toArray, List.set_cons_zero, List.set_cons_succ]
  refine Seq.pure rfl rfl (by intro w; go_simp; try first | with_reducible rfl | rfl) ?_
  simp only [Act.put, List.setIfInBounds_toArray, List.set_cons_zero, List.set_cons_succ]
  refine Seq.done fun ws2 hws => ?_
  have HS2 : St w [(bk1, 46, VC lo hi)] ws2 := hws.list1 (by first | exact rS | exact rN (by assumption) (rS) | exact rN (by assumption) (rN (by assumption) (rS)) | exact rN (by assumption) (rN (by assumption) (rN (by assumption) (rS))) | exact rN (by assumption) (rN (by assumption) (rN (by assumption) (rN (by assumption) (rS)))))
  clear HS1 hws
  go_upto_region 2 with (fail)
  refine wp_seq [] (by kernel_rfl) (by kernel_rfl) Reg.fin_no (StR.no HS2) ?_
  refine Seq.call rfl rfl rfl rfl (by kernel_rfl) (sbegun_q HT.out) ?_
  simp only [Act.put, List.setIfInBounds_toArray, List.set_cons_zero, List.set_cons_succ]
  refine Seq.pure rfl rfl (by intro w; go_simp; try first | with_reducible rfl | rfl) ?_
  simp only [Act.put, List.setIfInBounds_toArray, List.set_cons_zero, List.set_cons_succ]
  refine Seq.pure rfl rfl (by intro w; go_simp; try first | with_reducible rfl | rfl) ?_
  simp only [Act.put, List.setIfInBounds_toArray, List.set_cons_zero, List.set_cons_succ]
  refine Seq.pure rfl rfl (by intro w; go_simp; try first | with_reducible rfl | rfl) ?_
  simp only [Act.put, List.setIfInBounds_toArray, List.set_cons_zero, List.set_cons_succ]
  refine Seq.pure rfl rfl (by intro w; go_simp; try first | with_reducible rfl | rfl) ?_
  simp only [Act.put, List.setIfInBounds_toArray, List.set_cons_zero, List.set_cons_succ]
  refine Seq.pure rfl rfl (by intro w; go_simp; try first | with_reducible rfl | rfl) ?_
  simp only [Act.put, List.setIfInBounds_toArray, List.set_cons_zero, List.set_cons_succ]
  refine Seq.load rfl rfl rfl rfl (by repeat (first | exact mC | apply mT)) (n := 6) rfl (by kernel_rfl) ?_
  simp only [Act.put, List.setIfInBounds_toArray, List.set_cons_zero, List.set_cons_succ]
  refine Seq.call rfl rfl rfl rfl (by kernel_rfl) (num_q (m := 1) (n := 1) HT.out (by decide) (by decide) (by decide) (show ((1 : Int) : Rat) / ((1 : Int) : Rat) = (1 : Rat) from (by decide +kernel))) ?_
  simp only [Act.put, List.setIfInBounds_toArray, List.set_cons_zero, List.set_cons_succ]
  refine Seq.call rfl rfl rfl rfl (by kernel_rfl) (has_q (k := 1000) HT.out (Z_lo.out.more (by omega)) (Z_hi.out.more (by omega)) ((show Rz 4 ((1 : Rat)) from (show ((1 : Int) : Rat) / ((1 : Int) : Rat) = (1 : Rat) from (by decide +kernel)) ▸ num_s 1 1 (by decide) (by decide) (by decide)).more (by omega)) HLE.out HZ.out.1 (by omega)) ?_
  simp only [Act.put, List.setIfInBounds_toArray, List.set_cons_zero, List.set_cons_succ]
  refine Seq.pure rfl rfl (by intro w; go_simp; try first | with_reducible rfl | rfl) ?_
  simp only [Act.put, List.setIfInBounds_toArray, List.set_cons_zero, List.set_cons_succ]
  refine Seq.pure rfl rfl (by intro w; go_simp; try first | with_reducible rfl | rfl) ?_
  simp only [Act.put, List.setIfInBounds_toArray, List.set_cons_zero, List.set_cons_succ]
  refine Seq.load rfl rfl rfl rfl (by repeat (first | exact mC | apply mT)) (n := 6) rfl (by kernel_rfl) ?_
  simp only [Act.put, List.setIfInBounds_toArray, List.set_cons_zero, List.set_cons_succ]
  refine Seq.call rfl rfl rfl rfl (by kernel_rfl) (num_q (m := 2) (n := 1) HT.out (by decide) (by decide) (by decide) (show ((2 : Int) : Rat) / ((1 : Int) : Rat) = (2 : Rat) from (by decide +kernel))) ?_
  simp only [Act.put, List.setIfInBounds_toArray, List.set_cons_zero, List.set_cons_succ]
  refine Seq.call rfl rfl rfl rfl (by kernel_rfl) (has_q (k := 1000) HT.out (Z_lo.out.more (by omega)) (Z_hi.out.more (by omega)) ((show Rz 4 ((2 : Rat)) from (show ((2 : Int) : Rat) / ((1 : Int) : Rat) = (2 : Rat) from (by decide +kernel)) ▸ num_s 2 1 (by decide) (by decide) (by decide)).more (by omega)) HLE.out HZ.out.2 (by omega)) ?_
  simp only [Act.put, List.setIfInBounds_toArray, List.set_cons_zero, List.set_cons_succ]
  refine Seq.pure rfl rfl (by intro w; go_simp; try first | with_reducible rfl | rfl) ?_
  simp only [Act.put, List.setIfInBounds_toArray, List.set_cons_zero, List.set_cons_succ]
  refine Seq.pure rfl rfl (by intro w; go_simp; try first | with_reducible rfl | rfl) ?_
  simp only [Act.put, List.setIfInBounds_toArray, List.set_cons_zero, List.set_cons_succ]
  refine Seq.pure rfl rfl (by intro w; go_simp; try first | with_reducible rfl | rfl) ?_
  simp only [Act.put, List.setIfInBounds_toArray, List.set_cons_zero, List.set_cons_succ]
  refine Seq.done fun ws3 hws => ?_
  have HS3 := hws.st
  clear HS2 hws
  go_wp2_with fail
  go_ret
  exact ⟨rfl, HS3.below⟩
end Go.Proofs.YtahmajbgfjinbaaDoor
