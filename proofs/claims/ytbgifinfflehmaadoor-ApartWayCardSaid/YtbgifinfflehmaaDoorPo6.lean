/- Joined texts. -/
import Derived.Test.YtbgifinfflehmaaDoorPo5
import Derived.Deep.LoopGhost

/- poly.Box (printed by lawvec.py). -/
namespace Go.Proofs.YtbgifinfflehmaaDoor
open Go.RowKit
set_option linter.unusedVariables false
set_option linter.unusedSimpArgs false

set_option maxHeartbeats 2000000 in
set_option maxRecDepth 20000 in
theorem goodraw_q {W : World} {l : List Own} (w : World) (h : St W l w) :
    Calls Tryd.prog 39 #[.agg #[.bool false, .string ⟨#[]⟩, .string ⟨#[]⟩]] w fun e w' => e = .returned (.bool false) ∧ Below w.heap.size w w' := by
  clear h
  go_enter Tryd.func39, Tryd.ntmps39
  have HS : St w [] w := St.start
  go_upto_region 0 with (fail)
  refine wp_seq_text [] (StR.no HS) ?_
  refine Seq.box rfl rfl rfl (v := .agg (#[.bool false, .string ⟨#[]⟩, .string ⟨#[]⟩])) (cs := #[.bool false, .string ⟨#[]⟩, .string ⟨#[]⟩]) rfl rfl ?_
  intro bk1 _ _ hbk1_r
  simp only [Act.put, List.setIfInBounds_toArray, List.set_cons_zero, List.set_cons_succ]
  refine Seq.pure rfl rfl (by intro w; go_simp; try first | with_reducible rfl | rfl) ?_
  simp only [Act.put, List.setIfInBounds_toArray, List.set_cons_zero, List.set_cons_succ]
  refine Seq.done fun ws1 hws => ?_
  have HS1 : St w [(bk1, 28, #[.bool false, .string ⟨#[]⟩, .string ⟨#[]⟩])] ws1 := hws.list1 (by first | exact rS | exact rN (by assumption) (rS) | exact rN (by assumption) (rN (by assumption) (rS)) | exact rN (by assumption) (rN (by assumption) (rN (by assumption) (rS))) | exact rN (by assumption) (rN (by assumption) (rN (by assumption) (rN (by assumption) (rS)))))
  clear HS hws
  go_upto_region 1 with (fail)
  refine wp_seq_text [] (StR.no HS1) ?_
  refine Seq.pure (v := .pointer (some ⟨bk1, 2, none⟩)) rfl rfl (by intro w; go_simp; try first | with_reducible rfl | rfl) ?_
  simp only [Act.put, List.setIfInBounds_toArray, List.set_cons_zero, List.set_cons_succ]
  refine Seq.loadCell rfl rfl rfl rfl (by repeat (first | exact mC | apply mT)) (v := .string ⟨#[]⟩) (by first | rfl | (simp [VC, TC, FC, BC, RC]; done)) (by kernel_rfl) rfl ?_
  simp only [Act.put, List.setIfInBounds_toArray, List.set_cons_zero, List.set_cons_succ]
  refine Seq.pure rfl rfl (by intro w; go_simp; try first | with_reducible rfl | rfl) ?_
  simp only [Act.put, List.setIfInBounds_toArray, List.set_cons_zero, List.set_cons_succ]
  refine Seq.pure rfl rfl (by intro w; go_simp; try first | with_reducible rfl | rfl) ?_
  simp only [Act.put, List.setIfInBounds_toArray, List.set_cons_zero, List.set_cons_succ]
  refine Seq.nw rfl ?_
  simp only [Act.put, List.setIfInBounds_toArray, List.set_cons_zero, List.set_cons_succ]
  refine Seq.nw rfl ?_
  simp only [Act.put, List.setIfInBounds_toArray, List.set_cons_zero, List.set_cons_succ]
  refine Seq.nw rfl ?_
  simp only [Act.put, List.setIfInBounds_toArray, List.set_cons_zero, List.set_cons_succ]
  refine Seq.nw rfl ?_
  simp only [Act.put, List.setIfInBounds_toArray, List.set_cons_zero, List.set_cons_succ]
  refine Seq.pure rfl rfl (by intro w; go_simp; try first | with_reducible rfl | rfl) ?_
  simp only [Act.put, List.setIfInBounds_toArray, List.set_cons_zero, List.set_cons_succ]
  refine Seq.pure rfl rfl (by intro w; go_simp; try first | with_reducible rfl | rfl) ?_
  simp only [Act.put, List.setIfInBounds_toArray, List.set_cons_zero, List.set_cons_succ]
  refine Seq.nw rfl ?_
  simp only [Act.put, List.setIfInBounds_toArray, List.set_cons_zero, List.set_cons_succ]
  refine Seq.nw rfl ?_
  simp only [Act.put, List.setIfInBounds_toArray, List.set_cons_zero, List.set_cons_succ]
  refine Seq.nw rfl ?_
  simp only [Act.put, List.setIfInBounds_toArray, List.set_cons_zero, List.set_cons_succ]
  refine Seq.nw rfl ?_
  simp only [Act.put, List.setIfInBounds_toArray, List.set_cons_zero, List.set_cons_succ]
  refine Seq.nw rfl ?_
  simp only [Act.put, List.setIfInBounds_toArray, List.set_cons_zero, List.set_cons_succ]
  refine Seq.nw rfl ?_
  simp only [Act.put, List.setIfInBounds_toArray, List.set_cons_zero, List.set_cons_succ]
  refine Seq.nw rfl ?_
  simp only [Act.put, List.setIfInBounds_toArray, List.set_cons_zero, List.set_cons_succ]
  refine Seq.nw rfl ?_
  simp only [Act.put, List.setIfInBounds_toArray, List.set_cons_zero, List.set_cons_succ]
  refine Seq.nw rfl ?_
  simp only [Act.put, List.setIfInBounds_toArray, List.set_cons_zero, List.set_cons_succ]
  refine Seq.nw rfl ?_
  simp only [Act.put, List.setIfInBounds_toArray, List.set_cons_zero, List.set_cons_succ]
  refine Seq.nw rfl ?_
  simp only [Act.put, List.setIfInBounds_toArray, List.set_cons_zero, List.set_cons_succ]
  refine Seq.nw rfl ?_
  simp only [Act.put, List.setIfInBounds_toArray, List.set_cons_zero, List.set_cons_succ]
  refine Seq.pure rfl rfl (by intro w; go_simp; try first | with_reducible rfl | rfl) ?_
  simp only [Act.put, List.setIfInBounds_toArray, List.set_cons_zero, List.set_cons_succ]
  refine Seq.pure rfl rfl (by intro w; go_simp; try first | with_reducible rfl | rfl) ?_
  simp only [Act.put, List.setIfInBounds_toArray, List.set_cons_zero, List.set_cons_succ]
  refine Seq.nw rfl ?_
  simp only [Act.put, List.setIfInBounds_toArray, List.set_cons_zero, List.set_cons_succ]
  refine Seq.nw rfl ?_
  simp only [Act.put, List.setIfInBounds_toArray, List.set_cons_zero, List.set_cons_succ]
  refine Seq.nw rfl ?_
  simp only [Act.put, List.setIfInBounds_toArray, List.set_cons_zero, List.set_cons_succ]
  refine Seq.nw rfl ?_
  simp only [Act.put, List.setIfInBounds_toArray, List.set_cons_zero, List.set_cons_succ]
  refine Seq.nw rfl ?_
  simp only [Act.put, List.setIfInBounds_toArray, List.set_cons_zero, List.set_cons_succ]
  refine Seq.nw rfl ?_
  simp only [Act.put, List.setIfInBounds_toArray, List.set_cons_zero, List.set_cons_succ]
  refine Seq.nw rfl ?_
  simp only [Act.put, List.setIfInBounds_toArray, List.set_cons_zero, List.set_cons_succ]
  refine Seq.nw rfl ?_
  simp only [Act.put, List.setIfInBounds_toArray, List.set_cons_zero, List.set_cons_succ]
  refine Seq.nw rfl ?_
  simp only [Act.put, List.setIfInBounds_toArray, List.set_cons_zero, List.set_cons_succ]
  refine Seq.pure rfl rfl (by intro w; go_simp; try first | with_reducible rfl | rfl) ?_
  simp only [Act.put, List.setIfInBounds_toArray, List.set_cons_zero, List.set_cons_succ]
  refine Seq.done fun ws2 hws => ?_
  have HS2 := hws.st
  clear HS1 hws
  go_upto_region 2 with (fail)
  refine wp_seq_text [] (StR.no HS2) ?_
  refine Seq.pure rfl rfl (by intro w; go_simp; try first | with_reducible rfl | rfl) ?_
  simp only [Act.put, List.setIfInBounds_toArray, List.set_cons_zero, List.set_cons_succ]
  refine Seq.done fun ws3 hws => ?_
  have HS3 := hws.st
  clear HS2 hws
  go_wp2_with fail
  go_ret
  exact ⟨rfl, HS3.below⟩
set_option maxHeartbeats 2000000 in
set_option maxRecDepth 20000 in
theorem fitraw_q {W : World} {l : List Own} (w : World) (h : St W l w) :
    Calls Tryd.prog 51 #[.agg #[.bool false, .string ⟨#[]⟩, .string ⟨#[]⟩]] w fun e w' => e = .returned (.agg (RC 0)) ∧ Below w.heap.size w w' := by
  clear h
  go_enter Tryd.func51, Tryd.ntmps51
  have HS : St w [] w := St.start
  go_upto_region 0 with (fail)
  refine wp_seq_text [] (StR.no HS) ?_
  refine Seq.box rfl rfl rfl (v := .agg (#[.bool false, .string ⟨#[]⟩, .string ⟨#[]⟩])) (cs := #[.bool false, .string ⟨#[]⟩, .string ⟨#[]⟩]) rfl rfl ?_
  intro bk1 _ _ hbk1_r
  simp only [Act.put, List.setIfInBounds_toArray, List.set_cons_zero, List.set_cons_succ]
  refine Seq.alloc rfl rfl rfl (z := .agg #[.bool false, .string ⟨#[]⟩, .string ⟨#[]⟩]) (by kernel_rfl) rfl ?_
  intro bk2 _ _ hbk2_r
  obtain ⟨ne_bk2_bk1, hbk2_r⟩ := Reg.ne_of_put hbk2_r
  have ne_bk1_bk2 := Ne.symm ne_bk2_bk1
  simp only [Act.put, List.setIfInBounds_toArray, List.set_cons_zero, List.set_cons_succ]
  refine Seq.done fun ws1 hws => ?_
  have HS1 : St w [(bk1, 28, #[.bool false, .string ⟨#[]⟩, .string ⟨#[]⟩]), (bk2, 28, #[.bool false, .string ⟨#[]⟩, .string ⟨#[]⟩])] ws1 := hws.list2 (by first | exact rS | exact rN (by assumption) (rS) | exact rN (by assumption) (rN (by assumption) (rS)) | exact rN (by assumption) (rN (by assumption) (rN (by assumption) (rS))) | exact rN (by assumption) (rN (by assumption) (rN (by assumption) (rN (by assumption) (rS))))) (by first | exact rS | exact rN (by assumption) (rS) | exact rN (by assumption) (rN (by assumption) (rS)) | exact rN (by assumption) (rN (by assumption) (rN (by assumption) (rS))) | exact rN (by assumption) (rN (by assumption) (rN (by assumption) (rN (by assumption) (rS))))) (by assumption)
  clear HS hws
  go_upto_region 1 with (fail)
  refine wp_seq_text [] (StR.no HS1) ?_
  refine Seq.load rfl rfl rfl rfl (by repeat (first | exact mC | apply mT)) (n := 3) rfl (by kernel_rfl) ?_
  simp only [Act.put, List.setIfInBounds_toArray, List.set_cons_zero, List.set_cons_succ]
  refine Seq.call rfl rfl rfl rfl (by kernel_rfl) (goodraw_q) ?_
  simp only [Act.put, List.setIfInBounds_toArray, List.set_cons_zero, List.set_cons_succ]
  refine Seq.pure rfl rfl (by intro w; go_simp; try first | with_reducible rfl | rfl) ?_
  simp only [Act.put, List.setIfInBounds_toArray, List.set_cons_zero, List.set_cons_succ]
  refine Seq.done fun ws2 hws => ?_
  have HS2 := hws.st
  clear HS1 hws
  go_upto_region 2 with (fail)
  have HPbk2 : St w [(bk2, 28, #[.bool false, .string ⟨#[]⟩, .string ⟨#[]⟩]), (bk1, 28, #[.bool false, .string ⟨#[]⟩, .string ⟨#[]⟩])] _ := St.perm HS2 (List.perm_middle (l₁ := ([(bk1, 28, #[.bool false, .string ⟨#[]⟩, .string ⟨#[]⟩])] : List Own)))
  refine wp_seq_text [] (StR.move (StR.no HPbk2)) ?_
  refine Seq.call rfl rfl rfl rfl (by kernel_rfl) (fun w h => zero_R w) ?_
  simp only [Act.put, List.setIfInBounds_toArray, List.set_cons_zero, List.set_cons_succ]
  refine Seq.store rfl rfl rfl rfl rfl (by first | exact rS | exact rN (by assumption) (rS) | exact rN (by assumption) (rN (by assumption) (rS)) | exact rN (by assumption) (rN (by assumption) (rN (by assumption) (rS))) | exact rN (by assumption) (rN (by assumption) (rN (by assumption) (rN (by assumption) (rS))))) (n := 3) rfl rfl (by kernel_rfl) (RC_one _) ?_
  simp only [Act.put, List.setIfInBounds_toArray, List.set_cons_zero, List.set_cons_succ]
  refine Seq.done fun ws3 hws => ?_
  have HS3 : St w [(bk2, 28, RC (0 : Rat)), (bk1, 28, #[.bool false, .string ⟨#[]⟩, .string ⟨#[]⟩])] ws3 := hws.list1 (by first | exact rS | exact rN (by assumption) (rS) | exact rN (by assumption) (rN (by assumption) (rS)) | exact rN (by assumption) (rN (by assumption) (rN (by assumption) (rS))) | exact rN (by assumption) (rN (by assumption) (rN (by assumption) (rN (by assumption) (rS)))))
  clear HS2 hws HPbk2
  go_wp2_with fail
  exact ret_own rfl rfl rfl HS3 (by repeat (first | exact mC | apply mT)) (n := 3) rfl (by kernel_rfl) ⟨rfl, HS3.below⟩
section
variable {P : Program} {ops : Array Oper} {W : World} {l : List Own} {Q : Exit → Act → World → Prop} {gs : List Nat} {k : Nat} {o : Oper} {rest : List Oper} {a : Act} {R : Reg}
end
theorem below_G {x : Int} {n j : Nat} {W : World} {l : List Own} (h0 : -9223372036854775808 ≤ x ∧ x ≤ 9223372036854775807) (hn : 0 < n ∧ n ≤ 1048576) (hj : belowN x n = j) (w : World) (h : St W l w) :
    Calls Tryd.prog 16 #[.int .i64 x, .int .i64 (n : Int)] w fun e w' => e = .returned (.int .i64 (j : Int)) ∧ Below w.heap.size w w' := by
  rw [← hj]; exact below_q h0.1 h0.2 hn.1 hn.2 w h
end Go.Proofs.YtbgifinfflehmaaDoor
