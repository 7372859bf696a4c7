/- Joined texts. -/
import Derived.Test.YtahmajbgfjinbaaDoorSp1

/- turned, vector, num, turnBegun, vecBegun of package gantkeep1 (printed by lawvec.py). -/
namespace Go.Proofs.YtahmajbgfjinbaaDoor
open Go.RowKit
set_option linter.unusedVariables false
set_option linter.unusedSimpArgs false

theorem num_s (m n : Int) (hm : m.natAbs < 65536) (hn : n.natAbs < 65536) (h0 : n ≠ 0) : Rz 4 ((m : Rat) / (n : Rat)) :=
  (Rz.lit (z := m) rfl hm).div (Rz.lit (z := n) rfl hn) (fun h => h0 (by
    have h2 : ((n : Int) : Rat) = ((0 : Int) : Rat) := h
    exact Rat.intCast_inj.1 h2))
set_option maxRecDepth 20000 in
theorem num_q {m n : Int} {z0 : Rat} {W : World} {l : List Own} (hT : Tab W) (hm : m.natAbs < 65536) (hn : n.natAbs < 65536) (h0 : n ≠ 0) (hz0 : (m : Rat) / (n : Rat) = z0) (w : World) (h : St W l w) :
    Calls Tryd.prog 28 #[.int .i64 m, .int .i64 n] w fun e w' => e = .returned (.agg (RC z0)) ∧ Below w.heap.size w w' := by
  subst hz0
  have HT := Lib.hid (tabS hT h); clear hT h
  have HI := Lib.hid (show (-9223372036854775808 ≤ m ∧ m ≤ 9223372036854775807 ∧ -9223372036854775808 ≤ n ∧ n ≤ 9223372036854775807 ∧ n ≠ 0) from ⟨by omega, by omega, by omega, by omega, h0⟩); clear hm hn h0
  go_enter Tryd.func28, Tryd.ntmps28
  have HS : St w [] w := St.start
  go_upto_region 0 with (fail)
  refine wp_seq_text [] (StR.no HS) ?_
  refine Seq.alloc rfl rfl rfl (z := .agg #[.bool false, .string ⟨#[]⟩, .string ⟨#[]⟩]) (by kernel_rfl) rfl ?_
  intro bk4 _ _ hbk4_r
  simp only [Act.put, List.setIfInBounds_toArray, List.set_cons_zero, List.set_cons_succ]
  refine Seq.done fun ws1 hws => ?_
  have HS1 : St w [(bk4, 24, #[.bool false, .string ⟨#[]⟩, .string ⟨#[]⟩])] ws1 := hws.list1 (by first | exact rS | exact rN (by assumption) (rS) | exact rN (by assumption) (rN (by assumption) (rS)) | exact rN (by assumption) (rN (by assumption) (rN (by assumption) (rS))) | exact rN (by assumption) (rN (by assumption) (rN (by assumption) (rN (by assumption) (rS)))))
  clear HS hws
  go_upto_region 1 with (fail)
  refine wp_seq_text [] (StR.no HS1) ?_
  refine Seq.pure rfl rfl (by intro w; go_simp; try first | with_reducible rfl | rfl) ?_
  simp only [Act.put, List.setIfInBounds_toArray, List.set_cons_zero, List.set_cons_succ]
  refine Seq.pure rfl rfl (by intro w; go_simp; try first | with_reducible rfl | rfl) ?_
  simp only [Act.put, List.setIfInBounds_toArray, List.set_cons_zero, List.set_cons_succ]
  refine Seq.call rfl rfl rfl rfl (by kernel_rfl) (make_q HT.out HI.out.1 HI.out.2.1 HI.out.2.2.1 HI.out.2.2.2.1 HI.out.2.2.2.2 rfl) ?_
  simp only [Act.put, List.setIfInBounds_toArray, List.set_cons_zero, List.set_cons_succ]
  refine Seq.pure rfl rfl (by intro w; go_simp; try first | with_reducible rfl | rfl) ?_
  simp only [Act.put, List.setIfInBounds_toArray, List.set_cons_zero, List.set_cons_succ]
  refine Seq.pure (v := .agg (RC ((m : Rat) / (n : Rat)))) rfl rfl (fun w => rfl) ?_
  simp only [Act.put, List.setIfInBounds_toArray, List.set_cons_zero, List.set_cons_succ]
  refine Seq.pure (v := .int .i64 0) rfl rfl (fun w => rfl) ?_
  simp only [Act.put, List.setIfInBounds_toArray, List.set_cons_zero, List.set_cons_succ]
  refine Seq.alloc rfl rfl rfl (z := .agg #[.bool false, .string ⟨#[]⟩, .string ⟨#[]⟩]) (by kernel_rfl) rfl ?_
  intro bk5 _ _ hbk5_r
  simp only [Act.put, List.setIfInBounds_toArray, List.set_cons_zero, List.set_cons_succ]
  refine Seq.store rfl rfl rfl rfl rfl (by first | exact rS | exact rN (by assumption) (rS) | exact rN (by assumption) (rN (by assumption) (rS)) | exact rN (by assumption) (rN (by assumption) (rN (by assumption) (rS))) | exact rN (by assumption) (rN (by assumption) (rN (by assumption) (rN (by assumption) (rS))))) (n := 3) rfl rfl (by kernel_rfl) (RC_one _) ?_
  simp only [Act.put, List.setIfInBounds_toArray, List.set_cons_zero, List.set_cons_succ]
  refine Seq.pure rfl rfl (by intro w; go_simp; try first | with_reducible rfl | rfl) ?_
  simp only [Act.put, List.setIfInBounds_toArray, List.set_cons_zero, List.set_cons_succ]
  refine Seq.done fun ws2 hws => ?_
  have HS2 : St w [(bk5, 24, RC ((m : Rat) / (n : Rat))), (bk4, 24, #[.bool false, .string ⟨#[]⟩, .string ⟨#[]⟩])] ws2 := hws.list1 (by first | exact rS | exact rN (by assumption) (rS) | exact rN (by assumption) (rN (by assumption) (rS)) | exact rN (by assumption) (rN (by assumption) (rN (by assumption) (rS))) | exact rN (by assumption) (rN (by assumption) (rN (by assumption) (rN (by assumption) (rS)))))
  clear HS1 hws
  go_upto_region 2 with (fail)
  have HPbk4 : St w [(bk4, 24, #[.bool false, .string ⟨#[]⟩, .string ⟨#[]⟩]), (bk5, 24, RC ((m : Rat) / (n : Rat)))] _ := St.perm HS2 (List.perm_middle (l₁ := ([(bk5, 24, RC ((m : Rat) / (n : Rat)))] : List Own)))
  refine wp_seq_text [] (StR.move (StR.no HPbk4)) ?_
  refine Seq.load rfl rfl rfl rfl (by repeat (first | exact mC | apply mT)) (n := 3) rfl (by kernel_rfl) ?_
  simp only [Act.put, List.setIfInBounds_toArray, List.set_cons_zero, List.set_cons_succ]
  refine Seq.store rfl rfl rfl rfl rfl (by first | exact rS | exact rN (by assumption) (rS) | exact rN (by assumption) (rN (by assumption) (rS)) | exact rN (by assumption) (rN (by assumption) (rN (by assumption) (rS))) | exact rN (by assumption) (rN (by assumption) (rN (by assumption) (rN (by assumption) (rS))))) (n := 3) rfl rfl (by kernel_rfl) (RC_one _) ?_
  simp only [Act.put, List.setIfInBounds_toArray, List.set_cons_zero, List.set_cons_succ]
  refine Seq.done fun ws3 hws => ?_
  have HS3 : St w [(bk4, 24, RC ((m : Rat) / (n : Rat))), (bk5, 24, RC ((m : Rat) / (n : Rat)))] ws3 := hws.list1 (by first | exact rS | exact rN (by assumption) (rS) | exact rN (by assumption) (rN (by assumption) (rS)) | exact rN (by assumption) (rN (by assumption) (rN (by assumption) (rS))) | exact rN (by assumption) (rN (by assumption) (rN (by assumption) (rN (by assumption) (rS)))))
  clear HS2 hws HPbk4
  go_wp2_with fail
  exact ret_own rfl rfl rfl HS3 (by repeat (first | exact mC | apply mT)) (n := 3) rfl (by kernel_rfl) ⟨rfl, HS3.below⟩
end Go.Proofs.YtahmajbgfjinbaaDoor
