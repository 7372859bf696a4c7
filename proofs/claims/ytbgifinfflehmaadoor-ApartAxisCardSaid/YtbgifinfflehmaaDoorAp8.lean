/- package apart: Axis (printed by lawvec.py). -/
import Derived.Test.YtbgifinfflehmaaDoorAp7
import Derived.Test.YtbgifinfflehmaaDoorAp4
namespace Go.Proofs.YtbgifinfflehmaaDoor
open Go.RowKit
open List (setIfInBounds_toArray set_cons_zero set_cons_succ)
set_option linter.unusedVariables false
set_option linter.unusedSimpArgs false

theorem sep_dot {a b : Pts} (ca : Cvx a) {i : Nat} (hi : i < a.length) (h : sepB a b i = true) {p q : Nat} (hp : p < a.length) (hq : q < b.length) : nrx a i * px a p + nry a i * py a p < nrx a i * px b q + nry a i * py b q := by
  have h1 := cvx_all ca hi hp
  unfold sepB at h
  have h2 := (List.all_eq_true.1 h) q (List.mem_range.2 hq)
  simp only [decide_eq_true_eq] at h2
  unfold lfp lf at h1; unfold dt at h2; unfold nrx nry; grind
theorem bydB_some {a b : Pts} (h : bydB a b = true) : ∃ i, bydI a b = some i ∧ i < a.length ∧ sepB a b i = true := by
  cases e : bydI a b with
  | some i =>
    unfold bydI at e
    rw [List.find?_range_eq_some] at e
    exact ⟨i, rfl, List.mem_range.1 e.2.1, e.1⟩
  | none =>
    unfold bydI at e
    rw [List.find?_range_eq_none] at e
    unfold bydB at h
    rw [List.any_eq_true] at h
    obtain ⟨i, hi, h⟩ := h
    have := e i (List.mem_range.1 hi)
    rw [h] at this; cases this
theorem bydC_no {a b : Pts} (h : bydB a b = false) : bydC a b = #[.bool false, .string ⟨#[]⟩, .string ⟨#[]⟩, .bool false, .string ⟨#[]⟩, .string ⟨#[]⟩] := by
  unfold bydC
  rw [bydI_no fun q hq => by
    rw [← Bool.not_eq_true]; intro c
    rw [bydB_at hq c] at h; cases h]
theorem nr_rz {k : Nat} {a : Pts} (hz : Pz k a) {i : Nat} (hi : i < a.length) : Rz (4 * k + 1) (nrx a i) ∧ Rz (4 * k + 1) (nry a i) := by
  have hj : (i + 1) % a.length < a.length := Nat.mod_lt _ (by omega)
  exact ⟨((hz.y hj).sub (hz.y hi)).more (by omega), (((hz.x hj).sub (hz.x hi)).neg).more (by omega)⟩
set_option maxHeartbeats 4000000 in
set_option maxRecDepth 20000 in
theorem axis_1 {k n m : Nat} {ps qs : Pts} {W : World} {l : List Own} (hT : Tab W) (hz : Pz k ps) (hl : ps.length = n) (hcv : 3 ≤ n ∧ n ≤ 64 ∧ Cvx ps) (hz2 : Pz k qs) (hl2 : qs.length = m) (hcv2 : 3 ≤ m ∧ m ≤ 64 ∧ Cvx qs) {n1 n2 : Rat} (hx : bydB ps qs = true) (hc : bydC ps qs = VC n1 n2) (Zn1 : Rz (4 * k + 1) n1) (Zn2 : Rz (4 * k + 1) n2) (hk : k ≤ 1000000) (g g2 : Nat) (w : World) (h : St W l w) (hg : Blk w g 30 (PC ps)) (hg2 : Blk w g2 30 (PC qs)) :
    Calls Tryd.prog 20 #[.slice (some ⟨g, 0, none⟩) n n, .slice (some ⟨g2, 0, none⟩) m m] w fun e w' => e = .returned (.tuple #[.agg (VC n1 n2), .int .i64 0]) ∧ Below w.heap.size w w' := by
  have HX := Lib.hid (show bydB ps qs = true ∧ bydC ps qs = VC n1 n2 ∧ True from ⟨hx, hc, trivial⟩); clear hx hc
  have Z_n1 := Lib.hid Zn1; clear Zn1
  have Z_n2 := Lib.hid Zn2; clear Zn2
  have HT := Lib.hid (tabS hT h); clear hT h
  have HG := Lib.hid hg; clear hg
  have HL := Lib.hid hl; clear hl
  have HNZ := Lib.hid (show ¬ n = 0 by have := hcv.1; omega)
  have HZP := Lib.hid (show Pz (1 * k + 0) ps by rw [Nat.one_mul]; exact hz); clear hz
  have HG2 := Lib.hid hg2; clear hg2
  have HLQ := Lib.hid hl2; clear hl2
  have HZQ := Lib.hid (show Pz (1 * k + 0) qs by rw [Nat.one_mul]; exact hz2); clear hz2
  have HCV := Lib.hid hcv; clear hcv
  have HCQ := Lib.hid hcv2; clear hcv2
  go_enter Tryd.func20, Tryd.ntmps20
  have HS : St w [] w := St.start
  go_upto_region 0 with (fail)
  refine wp_seq_text [] (StR.no HS) ?_
  refine Seq.alloc rfl rfl rfl (z := .agg #[.bool false, .string ⟨#[]⟩, .string ⟨#[]⟩, .bool false, .string ⟨#[]⟩, .string ⟨#[]⟩]) (by kernel_rfl) rfl ?_
  intro bk4 _ _ hbk4_r
  simp only [Act.put, setIfInBounds_toArray, set_cons_zero, set_cons_succ]
  refine Seq.pure rfl rfl (by intro w; go_simp; try first | with_reducible rfl | rfl) ?_
  simp only [Act.put, setIfInBounds_toArray, set_cons_zero, set_cons_succ]
  refine Seq.done fun ws1 hws => ?_
  have HS1 : St w [(bk4, 30, #[.bool false, .string ⟨#[]⟩, .string ⟨#[]⟩, .bool false, .string ⟨#[]⟩, .string ⟨#[]⟩])] ws1 := hws.list1 (by first | exact rS | exact rN (by assumption) (rS) | exact rN (by assumption) (rN (by assumption) (rS)) | exact rN (by assumption) (rN (by assumption) (rN (by assumption) (rS))) | exact rN (by assumption) (rN (by assumption) (rN (by assumption) (rN (by assumption) (rS)))))
  clear HS hws
  go_upto_region 1 with (fail)
  refine wp_seq_text [] (StR.no HS1) ?_
  refine Seq.pure rfl rfl (by intro w; go_simp; try first | with_reducible rfl | rfl) ?_
  simp only [Act.put, setIfInBounds_toArray, set_cons_zero, set_cons_succ]
  refine Seq.pure rfl rfl (by intro w; go_simp; try first | with_reducible rfl | rfl) ?_
  simp only [Act.put, setIfInBounds_toArray, set_cons_zero, set_cons_succ]
  refine Seq.call rfl rfl rfl rfl (by kernel_rfl) (fun w h => both_q (k := 1 * k + 0) HT.out HZP.out HL.out HCV.out HZQ.out HLQ.out HCQ.out  (by omega) _ _ w h (h.came HG.out) (h.came HG2.out)) ?_
  simp only [Act.put, setIfInBounds_toArray, set_cons_zero, set_cons_succ]
  refine Seq.pure rfl rfl (by intro w; go_simp; try first | with_reducible rfl | rfl) ?_
  simp only [Act.put, setIfInBounds_toArray, set_cons_zero, set_cons_succ]
  refine Seq.done fun ws2 hws => ?_
  have HS2 := hws.st
  clear HS1 hws
  go_upto_region 2 with (fail)
  refine wp_seq_text [] (StR.no HS2) ?_
  refine Seq.pure rfl rfl (by intro w; go_simp; try first | with_reducible rfl | rfl) ?_
  simp only [Act.put, setIfInBounds_toArray, set_cons_zero, set_cons_succ]
  refine Seq.pure rfl rfl (by intro w; go_simp; try first | with_reducible rfl | rfl) ?_
  simp only [Act.put, setIfInBounds_toArray, set_cons_zero, set_cons_succ]
  refine Seq.done fun ws3 hws => ?_
  have HS3 := hws.st
  clear HS2 hws
  go_upto_region 4 with (fail)
  refine wp_seq_text [] (StR.no HS3) ?_
  refine Seq.pure rfl rfl (by intro w; go_simp; try first | with_reducible rfl | rfl) ?_
  simp only [Act.put, setIfInBounds_toArray, set_cons_zero, set_cons_succ]
  refine Seq.pure rfl rfl (by intro w; go_simp; try first | with_reducible rfl | rfl) ?_
  simp only [Act.put, setIfInBounds_toArray, set_cons_zero, set_cons_succ]
  refine Seq.call rfl rfl rfl rfl (by kernel_rfl) (fun w h => beyond_G (k := 1 * k + 0) HT.out HZP.out HL.out HCV.out HZQ.out HLQ.out HCQ.out HX.out.1 HX.out.2.1 (by omega) _ _ w h (h.came HG.out) (h.came HG2.out)) ?_
  simp only [Act.put, setIfInBounds_toArray, set_cons_zero, set_cons_succ]
  refine Seq.pure rfl rfl (by intro w; go_simp; try first | with_reducible rfl | rfl) ?_
  simp only [Act.put, setIfInBounds_toArray, set_cons_zero, set_cons_succ]
  refine Seq.pure (v := .agg (VC n1 n2)) rfl rfl (fun w => rfl) ?_
  simp only [Act.put, setIfInBounds_toArray, set_cons_zero, set_cons_succ]
  refine Seq.pure (v := .bool true) rfl rfl (fun w => rfl) ?_
  simp only [Act.put, setIfInBounds_toArray, set_cons_zero, set_cons_succ]
  refine Seq.alloc rfl rfl rfl (z := .agg #[.bool false, .string ⟨#[]⟩, .string ⟨#[]⟩, .bool false, .string ⟨#[]⟩, .string ⟨#[]⟩]) (by kernel_rfl) rfl ?_
  intro bk7 _ _ hbk7_r
  simp only [Act.put, setIfInBounds_toArray, set_cons_zero, set_cons_succ]
  refine Seq.store rfl rfl rfl rfl rfl (by first | exact rS | exact rN (by assumption) (rS) | exact rN (by assumption) (rN (by assumption) (rS)) | exact rN (by assumption) (rN (by assumption) (rN (by assumption) (rS))) | exact rN (by assumption) (rN (by assumption) (rN (by assumption) (rN (by assumption) (rS))))) (n := 6) rfl rfl (by kernel_rfl) (VC_one _ _) ?_
  simp only [Act.put, setIfInBounds_toArray, set_cons_zero, set_cons_succ]
  refine Seq.pure rfl rfl (by intro w; go_simp; try first | with_reducible rfl | rfl) ?_
  simp only [Act.put, setIfInBounds_toArray, set_cons_zero, set_cons_succ]
  refine Seq.done fun ws4 hws => ?_
  have HS4 : St w [(bk7, 30, VC n1 n2), (bk4, 30, #[.bool false, .string ⟨#[]⟩, .string ⟨#[]⟩, .bool false, .string ⟨#[]⟩, .string ⟨#[]⟩])] ws4 := hws.list1 (by first | exact rS | exact rN (by assumption) (rS) | exact rN (by assumption) (rN (by assumption) (rS)) | exact rN (by assumption) (rN (by assumption) (rN (by assumption) (rS))) | exact rN (by assumption) (rN (by assumption) (rN (by assumption) (rN (by assumption) (rS)))))
  clear HS3 hws
  go_upto_region 5 with (fail)
  refine wp_seq_text [] (StR.no HS4) ?_
  refine Seq.pure rfl rfl (by intro w; go_simp; try first | with_reducible rfl | rfl) ?_
  simp only [Act.put, setIfInBounds_toArray, set_cons_zero, set_cons_succ]
  refine Seq.done fun ws5 hws => ?_
  have HS5 := hws.st
  clear HS4 hws
  go_upto_region 6 with (fail)
  have HPbk4 : St w [(bk4, 30, #[.bool false, .string ⟨#[]⟩, .string ⟨#[]⟩, .bool false, .string ⟨#[]⟩, .string ⟨#[]⟩]), (bk7, 30, VC n1 n2)] _ := St.perm HS5 (List.perm_middle (l₁ := ([(bk7, 30, VC n1 n2)] : List Own)))
  refine wp_seq_text [] (StR.move (StR.no HPbk4)) ?_
  refine Seq.load rfl rfl rfl rfl (by repeat (first | exact mC | apply mT)) (n := 6) rfl (by kernel_rfl) ?_
  simp only [Act.put, setIfInBounds_toArray, set_cons_zero, set_cons_succ]
  refine Seq.store rfl rfl rfl rfl rfl (by first | exact rS | exact rN (by assumption) (rS) | exact rN (by assumption) (rN (by assumption) (rS)) | exact rN (by assumption) (rN (by assumption) (rN (by assumption) (rS))) | exact rN (by assumption) (rN (by assumption) (rN (by assumption) (rN (by assumption) (rS))))) (n := 6) rfl rfl (by kernel_rfl) (VC_one _ _) ?_
  simp only [Act.put, setIfInBounds_toArray, set_cons_zero, set_cons_succ]
  refine Seq.pure rfl rfl (by intro w; go_simp; try first | with_reducible rfl | rfl) ?_
  simp only [Act.put, setIfInBounds_toArray, set_cons_zero, set_cons_succ]
  refine Seq.done fun ws6 hws => ?_
  have HS6 : St w [(bk4, 30, VC n1 n2), (bk7, 30, VC n1 n2)] ws6 := hws.list1 (by first | exact rS | exact rN (by assumption) (rS) | exact rN (by assumption) (rN (by assumption) (rS)) | exact rN (by assumption) (rN (by assumption) (rN (by assumption) (rS))) | exact rN (by assumption) (rN (by assumption) (rN (by assumption) (rN (by assumption) (rS)))))
  clear HS5 hws HPbk4
  go_wp2_with fail
  exact ret_own2 rfl rfl rfl rfl HS6 (by repeat (first | exact mC | apply mT)) (n := 6) rfl (by kernel_rfl) ⟨rfl, HS6.below⟩
set_option maxHeartbeats 4000000 in
set_option maxRecDepth 20000 in
theorem axis_2 {k n m : Nat} {ps qs : Pts} {W : World} {l : List Own} (hT : Tab W) (hz : Pz k ps) (hl : ps.length = n) (hcv : 3 ≤ n ∧ n ≤ 64 ∧ Cvx ps) (hz2 : Pz k qs) (hl2 : qs.length = m) (hcv2 : 3 ≤ m ∧ m ≤ 64 ∧ Cvx qs) {n1 n2 : Rat} (hx : bydB qs ps = true) (hc : bydC qs ps = VC n1 n2) (h0 : bydB ps qs = false) (Zn1 : Rz (4 * k + 1) n1) (Zn2 : Rz (4 * k + 1) n2) (hk : k ≤ 1000000) (g g2 : Nat) (w : World) (h : St W l w) (hg : Blk w g 30 (PC ps)) (hg2 : Blk w g2 30 (PC qs)) :
    Calls Tryd.prog 20 #[.slice (some ⟨g, 0, none⟩) n n, .slice (some ⟨g2, 0, none⟩) m m] w fun e w' => e = .returned (.tuple #[.agg (VC (-n1) (-n2)), .int .i64 0]) ∧ Below w.heap.size w w' := by
  have HX := Lib.hid (And.intro h0 (And.intro (bydC_no h0) (And.intro hx hc))); clear hx hc h0
  have Z_n1 := Lib.hid Zn1; clear Zn1
  have Z_n2 := Lib.hid Zn2; clear Zn2
  have HT := Lib.hid (tabS hT h); clear hT h
  have HG := Lib.hid hg; clear hg
  have HL := Lib.hid hl; clear hl
  have HNZ := Lib.hid (show ¬ n = 0 by have := hcv.1; omega)
  have HZP := Lib.hid (show Pz (1 * k + 0) ps by rw [Nat.one_mul]; exact hz); clear hz
  have HG2 := Lib.hid hg2; clear hg2
  have HLQ := Lib.hid hl2; clear hl2
  have HZQ := Lib.hid (show Pz (1 * k + 0) qs by rw [Nat.one_mul]; exact hz2); clear hz2
  have HCV := Lib.hid hcv; clear hcv
  have HCQ := Lib.hid hcv2; clear hcv2
  go_enter Tryd.func20, Tryd.ntmps20
  have HS : St w [] w := St.start
  go_upto_region 0 with (fail)
  refine wp_seq_text [] (StR.no HS) ?_
  refine Seq.alloc rfl rfl rfl (z := .agg #[.bool false, .string ⟨#[]⟩, .string ⟨#[]⟩, .bool false, .string ⟨#[]⟩, .string ⟨#[]⟩]) (by kernel_rfl) rfl ?_
  intro bk4 _ _ hbk4_r
  simp only [Act.put, setIfInBounds_toArray, set_cons_zero, set_cons_succ]
  refine Seq.pure rfl rfl (by intro w; go_simp; try first | with_reducible rfl | rfl) ?_
  simp only [Act.put, setIfInBounds_toArray, set_cons_zero, set_cons_succ]
  refine Seq.done fun ws1 hws => ?_
  have HS1 : St w [(bk4, 30, #[.bool false, .string ⟨#[]⟩, .string ⟨#[]⟩, .bool false, .string ⟨#[]⟩, .string ⟨#[]⟩])] ws1 := hws.list1 (by first | exact rS | exact rN (by assumption) (rS) | exact rN (by assumption) (rN (by assumption) (rS)) | exact rN (by assumption) (rN (by assumption) (rN (by assumption) (rS))) | exact rN (by assumption) (rN (by assumption) (rN (by assumption) (rN (by assumption) (rS)))))
  clear HS hws
  go_upto_region 1 with (fail)
  refine wp_seq_text [] (StR.no HS1) ?_
  refine Seq.pure rfl rfl (by intro w; go_simp; try first | with_reducible rfl | rfl) ?_
  simp only [Act.put, setIfInBounds_toArray, set_cons_zero, set_cons_succ]
  refine Seq.pure rfl rfl (by intro w; go_simp; try first | with_reducible rfl | rfl) ?_
  simp only [Act.put, setIfInBounds_toArray, set_cons_zero, set_cons_succ]
  refine Seq.call rfl rfl rfl rfl (by kernel_rfl) (fun w h => both_q (k := 1 * k + 0) HT.out HZP.out HL.out HCV.out HZQ.out HLQ.out HCQ.out  (by omega) _ _ w h (h.came HG.out) (h.came HG2.out)) ?_
  simp only [Act.put, setIfInBounds_toArray, set_cons_zero, set_cons_succ]
  refine Seq.pure rfl rfl (by intro w; go_simp; try first | with_reducible rfl | rfl) ?_
  simp only [Act.put, setIfInBounds_toArray, set_cons_zero, set_cons_succ]
  refine Seq.done fun ws2 hws => ?_
  have HS2 := hws.st
  clear HS1 hws
  go_upto_region 2 with (fail)
  refine wp_seq_text [] (StR.no HS2) ?_
  refine Seq.pure rfl rfl (by intro w; go_simp; try first | with_reducible rfl | rfl) ?_
  simp only [Act.put, setIfInBounds_toArray, set_cons_zero, set_cons_succ]
  refine Seq.pure rfl rfl (by intro w; go_simp; try first | with_reducible rfl | rfl) ?_
  simp only [Act.put, setIfInBounds_toArray, set_cons_zero, set_cons_succ]
  refine Seq.done fun ws3 hws => ?_
  have HS3 := hws.st
  clear HS2 hws
  go_upto_region 4 with (fail)
  refine wp_seq_text [] (StR.no HS3) ?_
  refine Seq.pure rfl rfl (by intro w; go_simp; try first | with_reducible rfl | rfl) ?_
  simp only [Act.put, setIfInBounds_toArray, set_cons_zero, set_cons_succ]
  refine Seq.pure rfl rfl (by intro w; go_simp; try first | with_reducible rfl | rfl) ?_
  simp only [Act.put, setIfInBounds_toArray, set_cons_zero, set_cons_succ]
  refine Seq.call rfl rfl rfl rfl (by kernel_rfl) (fun w h => beyond_G (k := 1 * k + 0) HT.out HZP.out HL.out HCV.out HZQ.out HLQ.out HCQ.out HX.out.1 HX.out.2.1 (by omega) _ _ w h (h.came HG.out) (h.came HG2.out)) ?_
  simp only [Act.put, setIfInBounds_toArray, set_cons_zero, set_cons_succ]
  refine Seq.pure rfl rfl (by intro w; go_simp; try first | with_reducible rfl | rfl) ?_
  simp only [Act.put, setIfInBounds_toArray, set_cons_zero, set_cons_succ]
  refine Seq.pure (v := .agg (#[.bool false, .string ⟨#[]⟩, .string ⟨#[]⟩, .bool false, .string ⟨#[]⟩, .string ⟨#[]⟩])) rfl rfl (fun w => rfl) ?_
  simp only [Act.put, setIfInBounds_toArray, set_cons_zero, set_cons_succ]
  refine Seq.pure (v := .bool false) rfl rfl (fun w => rfl) ?_
  simp only [Act.put, setIfInBounds_toArray, set_cons_zero, set_cons_succ]
  refine Seq.alloc rfl rfl rfl (z := .agg #[.bool false, .string ⟨#[]⟩, .string ⟨#[]⟩, .bool false, .string ⟨#[]⟩, .string ⟨#[]⟩]) (by kernel_rfl) rfl ?_
  intro bk7 _ _ hbk7_r
  simp only [Act.put, setIfInBounds_toArray, set_cons_zero, set_cons_succ]
  refine Seq.store rfl rfl rfl rfl rfl (by first | exact rS | exact rN (by assumption) (rS) | exact rN (by assumption) (rN (by assumption) (rS)) | exact rN (by assumption) (rN (by assumption) (rN (by assumption) (rS))) | exact rN (by assumption) (rN (by assumption) (rN (by assumption) (rN (by assumption) (rS))))) (n := 6) rfl rfl (by kernel_rfl) (by intro u hu; simp at hu; rcases hu with rfl | rfl | rfl | rfl | rfl | rfl <;> rfl) ?_
  simp only [Act.put, setIfInBounds_toArray, set_cons_zero, set_cons_succ]
  refine Seq.pure rfl rfl (by intro w; go_simp; try first | with_reducible rfl | rfl) ?_
  simp only [Act.put, setIfInBounds_toArray, set_cons_zero, set_cons_succ]
  refine Seq.done fun ws4 hws => ?_
  have HS4 : St w [(bk7, 30, #[.bool false, .string ⟨#[]⟩, .string ⟨#[]⟩, .bool false, .string ⟨#[]⟩, .string ⟨#[]⟩]), (bk4, 30, #[.bool false, .string ⟨#[]⟩, .string ⟨#[]⟩, .bool false, .string ⟨#[]⟩, .string ⟨#[]⟩])] ws4 := hws.list1 (by first | exact rS | exact rN (by assumption) (rS) | exact rN (by assumption) (rN (by assumption) (rS)) | exact rN (by assumption) (rN (by assumption) (rN (by assumption) (rS))) | exact rN (by assumption) (rN (by assumption) (rN (by assumption) (rN (by assumption) (rS)))))
  clear HS3 hws
  go_upto_region 5 with (fail)
  refine wp_seq_text [] (StR.no HS4) ?_
  refine Seq.pure rfl rfl (by intro w; go_simp; try first | with_reducible rfl | rfl) ?_
  simp only [Act.put, setIfInBounds_toArray, set_cons_zero, set_cons_succ]
  refine Seq.done fun ws5 hws => ?_
  have HS5 := hws.st
  clear HS4 hws
  go_upto_region 7 with (fail)
  refine wp_seq_text [] (StR.no HS5) ?_
  refine Seq.pure rfl rfl (by intro w; go_simp; try first | with_reducible rfl | rfl) ?_
  simp only [Act.put, setIfInBounds_toArray, set_cons_zero, set_cons_succ]
  refine Seq.pure rfl rfl (by intro w; go_simp; try first | with_reducible rfl | rfl) ?_
  simp only [Act.put, setIfInBounds_toArray, set_cons_zero, set_cons_succ]
  refine Seq.call rfl rfl rfl rfl (by kernel_rfl) (fun w h => beyond_G (k := 1 * k + 0) HT.out HZQ.out HLQ.out HCQ.out HZP.out HL.out HCV.out HX.out.2.2.1 HX.out.2.2.2 (by omega) _ _ w h (h.came HG2.out) (h.came HG.out)) ?_
  simp only [Act.put, setIfInBounds_toArray, set_cons_zero, set_cons_succ]
  refine Seq.pure rfl rfl (by intro w; go_simp; try first | with_reducible rfl | rfl) ?_
  simp only [Act.put, setIfInBounds_toArray, set_cons_zero, set_cons_succ]
  refine Seq.pure (v := .agg (VC n1 n2)) rfl rfl (fun w => rfl) ?_
  simp only [Act.put, setIfInBounds_toArray, set_cons_zero, set_cons_succ]
  refine Seq.pure (v := .bool true) rfl rfl (fun w => rfl) ?_
  simp only [Act.put, setIfInBounds_toArray, set_cons_zero, set_cons_succ]
  refine Seq.alloc rfl rfl rfl (z := .agg #[.bool false, .string ⟨#[]⟩, .string ⟨#[]⟩, .bool false, .string ⟨#[]⟩, .string ⟨#[]⟩]) (by kernel_rfl) rfl ?_
  intro bk9 _ _ hbk9_r
  simp only [Act.put, setIfInBounds_toArray, set_cons_zero, set_cons_succ]
  refine Seq.store rfl rfl rfl rfl rfl (by first | exact rS | exact rN (by assumption) (rS) | exact rN (by assumption) (rN (by assumption) (rS)) | exact rN (by assumption) (rN (by assumption) (rN (by assumption) (rS))) | exact rN (by assumption) (rN (by assumption) (rN (by assumption) (rN (by assumption) (rS))))) (n := 6) rfl rfl (by kernel_rfl) (VC_one _ _) ?_
  simp only [Act.put, setIfInBounds_toArray, set_cons_zero, set_cons_succ]
  refine Seq.pure rfl rfl (by intro w; go_simp; try first | with_reducible rfl | rfl) ?_
  simp only [Act.put, setIfInBounds_toArray, set_cons_zero, set_cons_succ]
  refine Seq.done fun ws6 hws => ?_
  have HS6 : St w [(bk9, 30, VC n1 n2), (bk7, 30, #[.bool false, .string ⟨#[]⟩, .string ⟨#[]⟩, .bool false, .string ⟨#[]⟩, .string ⟨#[]⟩]), (bk4, 30, #[.bool false, .string ⟨#[]⟩, .string ⟨#[]⟩, .bool false, .string ⟨#[]⟩, .string ⟨#[]⟩])] ws6 := hws.list1 (by first | exact rS | exact rN (by assumption) (rS) | exact rN (by assumption) (rN (by assumption) (rS)) | exact rN (by assumption) (rN (by assumption) (rN (by assumption) (rS))) | exact rN (by assumption) (rN (by assumption) (rN (by assumption) (rN (by assumption) (rS)))))
  clear HS5 hws
  go_upto_region 8 with (fail)
  refine wp_seq_text [] (StR.no HS6) ?_
  refine Seq.pure rfl rfl (by intro w; go_simp; try first | with_reducible rfl | rfl) ?_
  simp only [Act.put, setIfInBounds_toArray, set_cons_zero, set_cons_succ]
  refine Seq.done fun ws7 hws => ?_
  have HS7 := hws.st
  clear HS6 hws
  go_upto_region 9 with (fail)
  have HPbk4 : St w [(bk4, 30, #[.bool false, .string ⟨#[]⟩, .string ⟨#[]⟩, .bool false, .string ⟨#[]⟩, .string ⟨#[]⟩]), (bk9, 30, VC n1 n2), (bk7, 30, #[.bool false, .string ⟨#[]⟩, .string ⟨#[]⟩, .bool false, .string ⟨#[]⟩, .string ⟨#[]⟩])] _ := St.perm HS7 (List.perm_middle (l₁ := ([(bk9, 30, VC n1 n2), (bk7, 30, #[.bool false, .string ⟨#[]⟩, .string ⟨#[]⟩, .bool false, .string ⟨#[]⟩, .string ⟨#[]⟩])] : List Own)))
  refine wp_seq_text [] (StR.move (StR.no HPbk4)) ?_
  refine Seq.pure (v := .agg (#[.bool false, .string ⟨#[]⟩, .string ⟨#[]⟩, .bool false, .string ⟨#[]⟩, .string ⟨#[]⟩])) rfl rfl (by intro w; go_simp; try first | with_reducible rfl | rfl) ?_
  simp only [Act.put, setIfInBounds_toArray, set_cons_zero, set_cons_succ]
  refine Seq.load rfl rfl rfl rfl (by repeat (first | exact mC | apply mT)) (n := 6) rfl (by kernel_rfl) ?_
  simp only [Act.put, setIfInBounds_toArray, set_cons_zero, set_cons_succ]
  refine Seq.call rfl rfl rfl rfl (by kernel_rfl) (vsubz_q (k := 4 * k + 1) HT.out Z_n1.out Z_n2.out (by omega)) ?_
  simp only [Act.put, setIfInBounds_toArray, set_cons_zero, set_cons_succ]
  refine Seq.store rfl rfl rfl rfl rfl (by first | exact rS | exact rN (by assumption) (rS) | exact rN (by assumption) (rN (by assumption) (rS)) | exact rN (by assumption) (rN (by assumption) (rN (by assumption) (rS))) | exact rN (by assumption) (rN (by assumption) (rN (by assumption) (rN (by assumption) (rS))))) (n := 6) rfl rfl (by kernel_rfl) (VC_one _ _) ?_
  simp only [Act.put, setIfInBounds_toArray, set_cons_zero, set_cons_succ]
  refine Seq.pure rfl rfl (by intro w; go_simp; try first | with_reducible rfl | rfl) ?_
  simp only [Act.put, setIfInBounds_toArray, set_cons_zero, set_cons_succ]
  refine Seq.done fun ws8 hws => ?_
  have HS8 : St w [(bk4, 30, VC (-n1) (-n2)), (bk9, 30, VC n1 n2), (bk7, 30, #[.bool false, .string ⟨#[]⟩, .string ⟨#[]⟩, .bool false, .string ⟨#[]⟩, .string ⟨#[]⟩])] ws8 := hws.list1 (by first | exact rS | exact rN (by assumption) (rS) | exact rN (by assumption) (rN (by assumption) (rS)) | exact rN (by assumption) (rN (by assumption) (rN (by assumption) (rS))) | exact rN (by assumption) (rN (by assumption) (rN (by assumption) (rN (by assumption) (rS)))))
  clear HS7 hws HPbk4
  go_wp2_with fail
  exact ret_own2 rfl rfl rfl rfl HS8 (by repeat (first | exact mC | apply mT)) (n := 6) rfl (by kernel_rfl) ⟨rfl, HS8.below⟩
set_option maxHeartbeats 4000000 in
set_option maxRecDepth 20000 in
theorem axis_3 {k n m : Nat} {ps qs : Pts} {W : World} {l : List Own} (hT : Tab W) (hz : Pz k ps) (hl : ps.length = n) (hcv : 3 ≤ n ∧ n ≤ 64 ∧ Cvx ps) (hz2 : Pz k qs) (hl2 : qs.length = m) (hcv2 : 3 ≤ m ∧ m ≤ 64 ∧ Cvx qs) (h0 : bydB ps qs = false) (h1 : bydB qs ps = false) (hk : k ≤ 1000000) (g g2 : Nat) (w : World) (h : St W l w) (hg : Blk w g 30 (PC ps)) (hg2 : Blk w g2 30 (PC qs)) :
    Calls Tryd.prog 20 #[.slice (some ⟨g, 0, none⟩) n n, .slice (some ⟨g2, 0, none⟩) m m] w fun e w' => e = .returned (.tuple #[.agg (#[.bool false, .string ⟨#[]⟩, .string ⟨#[]⟩, .bool false, .string ⟨#[]⟩, .string ⟨#[]⟩]), .int .i64 10]) ∧ Below w.heap.size w w' := by
  have HX := Lib.hid (And.intro h0 (And.intro (bydC_no h0) (And.intro h1 (bydC_no h1)))); clear h0 h1
  have HT := Lib.hid (tabS hT h); clear hT h
  have HG := Lib.hid hg; clear hg
  have HL := Lib.hid hl; clear hl
  have HNZ := Lib.hid (show ¬ n = 0 by have := hcv.1; omega)
  have HZP := Lib.hid (show Pz (1 * k + 0) ps by rw [Nat.one_mul]; exact hz); clear hz
  have HG2 := Lib.hid hg2; clear hg2
  have HLQ := Lib.hid hl2; clear hl2
  have HZQ := Lib.hid (show Pz (1 * k + 0) qs by rw [Nat.one_mul]; exact hz2); clear hz2
  have HCV := Lib.hid hcv; clear hcv
  have HCQ := Lib.hid hcv2; clear hcv2
  go_enter Tryd.func20, Tryd.ntmps20
  have HS : St w [] w := St.start
  go_upto_region 0 with (fail)
  refine wp_seq_text [] (StR.no HS) ?_
  refine Seq.alloc rfl rfl rfl (z := .agg #[.bool false, .string ⟨#[]⟩, .string ⟨#[]⟩, .bool false, .string ⟨#[]⟩, .string ⟨#[]⟩]) (by kernel_rfl) rfl ?_
  intro bk4 _ _ hbk4_r
  simp only [Act.put, setIfInBounds_toArray, set_cons_zero, set_cons_succ]
  refine Seq.pure rfl rfl (by intro w; go_simp; try first | with_reducible rfl | rfl) ?_
  simp only [Act.put, setIfInBounds_toArray, set_cons_zero, set_cons_succ]
  refine Seq.done fun ws1 hws => ?_
  have HS1 : St w [(bk4, 30, #[.bool false, .string ⟨#[]⟩, .string ⟨#[]⟩, .bool false, .string ⟨#[]⟩, .string ⟨#[]⟩])] ws1 := hws.list1 (by first | exact rS | exact rN (by assumption) (rS) | exact rN (by assumption) (rN (by assumption) (rS)) | exact rN (by assumption) (rN (by assumption) (rN (by assumption) (rS))) | exact rN (by assumption) (rN (by assumption) (rN (by assumption) (rN (by assumption) (rS)))))
  clear HS hws
  go_upto_region 1 with (fail)
  refine wp_seq_text [] (StR.no HS1) ?_
  refine Seq.pure rfl rfl (by intro w; go_simp; try first | with_reducible rfl | rfl) ?_
  simp only [Act.put, setIfInBounds_toArray, set_cons_zero, set_cons_succ]
  refine Seq.pure rfl rfl (by intro w; go_simp; try first | with_reducible rfl | rfl) ?_
  simp only [Act.put, setIfInBounds_toArray, set_cons_zero, set_cons_succ]
  refine Seq.call rfl rfl rfl rfl (by kernel_rfl) (fun w h => both_q (k := 1 * k + 0) HT.out HZP.out HL.out HCV.out HZQ.out HLQ.out HCQ.out  (by omega) _ _ w h (h.came HG.out) (h.came HG2.out)) ?_
  simp only [Act.put, setIfInBounds_toArray, set_cons_zero, set_cons_succ]
  refine Seq.pure rfl rfl (by intro w; go_simp; try first | with_reducible rfl | rfl) ?_
  simp only [Act.put, setIfInBounds_toArray, set_cons_zero, set_cons_succ]
  refine Seq.done fun ws2 hws => ?_
  have HS2 := hws.st
  clear HS1 hws
  go_upto_region 2 with (fail)
  refine wp_seq_text [] (StR.no HS2) ?_
  refine Seq.pure rfl rfl (by intro w; go_simp; try first | with_reducible rfl | rfl) ?_
  simp only [Act.put, setIfInBounds_toArray, set_cons_zero, set_cons_succ]
  refine Seq.pure rfl rfl (by intro w; go_simp; try first | with_reducible rfl | rfl) ?_
  simp only [Act.put, setIfInBounds_toArray, set_cons_zero, set_cons_succ]
  refine Seq.done fun ws3 hws => ?_
  have HS3 := hws.st
  clear HS2 hws
  go_upto_region 4 with (fail)
  refine wp_seq_text [] (StR.no HS3) ?_
  refine Seq.pure rfl rfl (by intro w; go_simp; try first | with_reducible rfl | rfl) ?_
  simp only [Act.put, setIfInBounds_toArray, set_cons_zero, set_cons_succ]
  refine Seq.pure rfl rfl (by intro w; go_simp; try first | with_reducible rfl | rfl) ?_
  simp only [Act.put, setIfInBounds_toArray, set_cons_zero, set_cons_succ]
  refine Seq.call rfl rfl rfl rfl (by kernel_rfl) (fun w h => beyond_G (k := 1 * k + 0) HT.out HZP.out HL.out HCV.out HZQ.out HLQ.out HCQ.out HX.out.1 HX.out.2.1 (by omega) _ _ w h (h.came HG.out) (h.came HG2.out)) ?_
  simp only [Act.put, setIfInBounds_toArray, set_cons_zero, set_cons_succ]
  refine Seq.pure rfl rfl (by intro w; go_simp; try first | with_reducible rfl | rfl) ?_
  simp only [Act.put, setIfInBounds_toArray, set_cons_zero, set_cons_succ]
  refine Seq.pure (v := .agg (#[.bool false, .string ⟨#[]⟩, .string ⟨#[]⟩, .bool false, .string ⟨#[]⟩, .string ⟨#[]⟩])) rfl rfl (fun w => rfl) ?_
  simp only [Act.put, setIfInBounds_toArray, set_cons_zero, set_cons_succ]
  refine Seq.pure (v := .bool false) rfl rfl (fun w => rfl) ?_
  simp only [Act.put, setIfInBounds_toArray, set_cons_zero, set_cons_succ]
  refine Seq.alloc rfl rfl rfl (z := .agg #[.bool false, .string ⟨#[]⟩, .string ⟨#[]⟩, .bool false, .string ⟨#[]⟩, .string ⟨#[]⟩]) (by kernel_rfl) rfl ?_
  intro bk7 _ _ hbk7_r
  simp only [Act.put, setIfInBounds_toArray, set_cons_zero, set_cons_succ]
  refine Seq.store rfl rfl rfl rfl rfl (by first | exact rS | exact rN (by assumption) (rS) | exact rN (by assumption) (rN (by assumption) (rS)) | exact rN (by assumption) (rN (by assumption) (rN (by assumption) (rS))) | exact rN (by assumption) (rN (by assumption) (rN (by assumption) (rN (by assumption) (rS))))) (n := 6) rfl rfl (by kernel_rfl) (by intro u hu; simp at hu; rcases hu with rfl | rfl | rfl | rfl | rfl | rfl <;> rfl) ?_
  simp only [Act.put, setIfInBounds_toArray, set_cons_zero, set_cons_succ]
  refine Seq.pure rfl rfl (by intro w; go_simp; try first | with_reducible rfl | rfl) ?_
  simp only [Act.put, setIfInBounds_toArray, set_cons_zero, set_cons_succ]
  refine Seq.done fun ws4 hws => ?_
  have HS4 : St w [(bk7, 30, #[.bool false, .string ⟨#[]⟩, .string ⟨#[]⟩, .bool false, .string ⟨#[]⟩, .string ⟨#[]⟩]), (bk4, 30, #[.bool false, .string ⟨#[]⟩, .string ⟨#[]⟩, .bool false, .string ⟨#[]⟩, .string ⟨#[]⟩])] ws4 := hws.list1 (by first | exact rS | exact rN (by assumption) (rS) | exact rN (by assumption) (rN (by assumption) (rS)) | exact rN (by assumption) (rN (by assumption) (rN (by assumption) (rS))) | exact rN (by assumption) (rN (by assumption) (rN (by assumption) (rN (by assumption) (rS)))))
  clear HS3 hws
  go_upto_region 5 with (fail)
  refine wp_seq_text [] (StR.no HS4) ?_
  refine Seq.pure rfl rfl (by intro w; go_simp; try first | with_reducible rfl | rfl) ?_
  simp only [Act.put, setIfInBounds_toArray, set_cons_zero, set_cons_succ]
  refine Seq.done fun ws5 hws => ?_
  have HS5 := hws.st
  clear HS4 hws
  go_upto_region 7 with (fail)
  refine wp_seq_text [] (StR.no HS5) ?_
  refine Seq.pure rfl rfl (by intro w; go_simp; try first | with_reducible rfl | rfl) ?_
  simp only [Act.put, setIfInBounds_toArray, set_cons_zero, set_cons_succ]
  refine Seq.pure rfl rfl (by intro w; go_simp; try first | with_reducible rfl | rfl) ?_
  simp only [Act.put, setIfInBounds_toArray, set_cons_zero, set_cons_succ]
  refine Seq.call rfl rfl rfl rfl (by kernel_rfl) (fun w h => beyond_G (k := 1 * k + 0) HT.out HZQ.out HLQ.out HCQ.out HZP.out HL.out HCV.out HX.out.2.2.1 HX.out.2.2.2 (by omega) _ _ w h (h.came HG2.out) (h.came HG.out)) ?_
  simp only [Act.put, setIfInBounds_toArray, set_cons_zero, set_cons_succ]
  refine Seq.pure rfl rfl (by intro w; go_simp; try first | with_reducible rfl | rfl) ?_
  simp only [Act.put, setIfInBounds_toArray, set_cons_zero, set_cons_succ]
  refine Seq.pure (v := .agg (#[.bool false, .string ⟨#[]⟩, .string ⟨#[]⟩, .bool false, .string ⟨#[]⟩, .string ⟨#[]⟩])) rfl rfl (fun w => rfl) ?_
  simp only [Act.put, setIfInBounds_toArray, set_cons_zero, set_cons_succ]
  refine Seq.pure (v := .bool false) rfl rfl (fun w => rfl) ?_
  simp only [Act.put, setIfInBounds_toArray, set_cons_zero, set_cons_succ]
  refine Seq.alloc rfl rfl rfl (z := .agg #[.bool false, .string ⟨#[]⟩, .string ⟨#[]⟩, .bool false, .string ⟨#[]⟩, .string ⟨#[]⟩]) (by kernel_rfl) rfl ?_
  intro bk9 _ _ hbk9_r
  simp only [Act.put, setIfInBounds_toArray, set_cons_zero, set_cons_succ]
  refine Seq.store rfl rfl rfl rfl rfl (by first | exact rS | exact rN (by assumption) (rS) | exact rN (by assumption) (rN (by assumption) (rS)) | exact rN (by assumption) (rN (by assumption) (rN (by assumption) (rS))) | exact rN (by assumption) (rN (by assumption) (rN (by assumption) (rN (by assumption) (rS))))) (n := 6) rfl rfl (by kernel_rfl) (by intro u hu; simp at hu; rcases hu with rfl | rfl | rfl | rfl | rfl | rfl <;> rfl) ?_
  simp only [Act.put, setIfInBounds_toArray, set_cons_zero, set_cons_succ]
  refine Seq.pure rfl rfl (by intro w; go_simp; try first | with_reducible rfl | rfl) ?_
  simp only [Act.put, setIfInBounds_toArray, set_cons_zero, set_cons_succ]
  refine Seq.done fun ws6 hws => ?_
  have HS6 : St w [(bk9, 30, #[.bool false, .string ⟨#[]⟩, .string ⟨#[]⟩, .bool false, .string ⟨#[]⟩, .string ⟨#[]⟩]), (bk7, 30, #[.bool false, .string ⟨#[]⟩, .string ⟨#[]⟩, .bool false, .string ⟨#[]⟩, .string ⟨#[]⟩]), (bk4, 30, #[.bool false, .string ⟨#[]⟩, .string ⟨#[]⟩, .bool false, .string ⟨#[]⟩, .string ⟨#[]⟩])] ws6 := hws.list1 (by first | exact rS | exact rN (by assumption) (rS) | exact rN (by assumption) (rN (by assumption) (rS)) | exact rN (by assumption) (rN (by assumption) (rN (by assumption) (rS))) | exact rN (by assumption) (rN (by assumption) (rN (by assumption) (rN (by assumption) (rS)))))
  clear HS5 hws
  go_upto_region 8 with (fail)
  refine wp_seq_text [] (StR.no HS6) ?_
  refine Seq.pure rfl rfl (by intro w; go_simp; try first | with_reducible rfl | rfl) ?_
  simp only [Act.put, setIfInBounds_toArray, set_cons_zero, set_cons_succ]
  refine Seq.done fun ws7 hws => ?_
  have HS7 := hws.st
  clear HS6 hws
  go_upto_region 10 with (fail)
  have HPbk4 : St w [(bk4, 30, #[.bool false, .string ⟨#[]⟩, .string ⟨#[]⟩, .bool false, .string ⟨#[]⟩, .string ⟨#[]⟩]), (bk9, 30, #[.bool false, .string ⟨#[]⟩, .string ⟨#[]⟩, .bool false, .string ⟨#[]⟩, .string ⟨#[]⟩]), (bk7, 30, #[.bool false, .string ⟨#[]⟩, .string ⟨#[]⟩, .bool false, .string ⟨#[]⟩, .string ⟨#[]⟩])] _ := St.perm HS7 (List.perm_middle (l₁ := ([(bk9, 30, #[.bool false, .string ⟨#[]⟩, .string ⟨#[]⟩, .bool false, .string ⟨#[]⟩, .string ⟨#[]⟩]), (bk7, 30, #[.bool false, .string ⟨#[]⟩, .string ⟨#[]⟩, .bool false, .string ⟨#[]⟩, .string ⟨#[]⟩])] : List Own)))
  refine wp_seq_text [] (StR.move (StR.no HPbk4)) ?_
  refine Seq.pure (v := .agg (#[.bool false, .string ⟨#[]⟩, .string ⟨#[]⟩, .bool false, .string ⟨#[]⟩, .string ⟨#[]⟩])) rfl rfl (by intro w; go_simp; try first | with_reducible rfl | rfl) ?_
  simp only [Act.put, setIfInBounds_toArray, set_cons_zero, set_cons_succ]
  refine Seq.store rfl rfl rfl rfl rfl (by first | exact rS | exact rN (by assumption) (rS) | exact rN (by assumption) (rN (by assumption) (rS)) | exact rN (by assumption) (rN (by assumption) (rN (by assumption) (rS))) | exact rN (by assumption) (rN (by assumption) (rN (by assumption) (rN (by assumption) (rS))))) (n := 6) rfl rfl (by kernel_rfl) (by intro u hu; simp at hu; rcases hu with rfl | rfl | rfl | rfl | rfl | rfl <;> rfl) ?_
  simp only [Act.put, setIfInBounds_toArray, set_cons_zero, set_cons_succ]
  refine Seq.pure rfl rfl (by intro w; go_simp; try first | with_reducible rfl | rfl) ?_
  simp only [Act.put, setIfInBounds_toArray, set_cons_zero, set_cons_succ]
  refine Seq.done fun ws8 hws => ?_
  have HS8 : St w [(bk4, 30, #[.bool false, .string ⟨#[]⟩, .string ⟨#[]⟩, .bool false, .string ⟨#[]⟩, .string ⟨#[]⟩]), (bk9, 30, #[.bool false, .string ⟨#[]⟩, .string ⟨#[]⟩, .bool false, .string ⟨#[]⟩, .string ⟨#[]⟩]), (bk7, 30, #[.bool false, .string ⟨#[]⟩, .string ⟨#[]⟩, .bool false, .string ⟨#[]⟩, .string ⟨#[]⟩])] ws8 := hws.list1 (by first | exact rS | exact rN (by assumption) (rS) | exact rN (by assumption) (rN (by assumption) (rS)) | exact rN (by assumption) (rN (by assumption) (rN (by assumption) (rS))) | exact rN (by assumption) (rN (by assumption) (rN (by assumption) (rN (by assumption) (rS)))))
  clear HS7 hws HPbk4
  go_wp2_with fail
  exact ret_own2 rfl rfl rfl rfl HS8 (by repeat (first | exact mC | apply mT)) (n := 6) rfl (by kernel_rfl) ⟨rfl, HS8.below⟩
theorem axis_ok {k : Nat} {ps qs : Pts} (hz : Pz k ps) (hcv : Cvx ps) (hz2 : Pz k qs) (hcv2 : Cvx qs) (hm : meetB ps qs = false) :
    ∃ v1 v2 : Rat, Rz (4 * k + 1) v1 ∧ Rz (4 * k + 1) v2 ∧ (∀ p q, p < ps.length → q < qs.length → v1 * px ps p + v2 * py ps p < v1 * px qs q + v2 * py qs q) ∧
    ∀ (n m : Nat) (W : World) (l : List Own), Tab W → ps.length = n → (3 ≤ n ∧ n ≤ 64 ∧ Cvx ps) → qs.length = m → (3 ≤ m ∧ m ≤ 64 ∧ Cvx qs) → k ≤ 1000000 → ∀ (g g2 : Nat) (w : World), St W l w → Blk w g 30 (PC ps) → Blk w g2 30 (PC qs) →
      Calls Tryd.prog 20 #[.slice (some ⟨g, 0, none⟩) n n, .slice (some ⟨g2, 0, none⟩) m m] w fun e w' => e = .returned (.tuple #[.agg (VC v1 v2), .int .i64 0]) ∧ Below w.heap.size w w' := by
  cases hx : bydB ps qs with
  | true =>
    obtain ⟨i, hi, hil, hs⟩ := bydB_some hx
    obtain ⟨z1, z2⟩ := nr_rz hz hil
    refine ⟨nrx ps i, nry ps i, z1, z2, fun p q hp hq => sep_dot hcv hil hs hp hq, ?_⟩
    intro n m W l hT hl hc hl2 hc2 hk g g2 w h hg hg2
    exact axis_1 hT hz hl hc hz2 hl2 hc2 hx (by unfold bydC; rw [hi]) z1 z2 hk g g2 w h hg hg2
  | false =>
    cases hy : bydB qs ps with
    | false => unfold meetB at hm; rw [hx, hy] at hm; cases hm
    | true =>
      obtain ⟨i, hi, hil, hs⟩ := bydB_some hy
      obtain ⟨z1, z2⟩ := nr_rz hz2 hil
      refine ⟨-nrx qs i, -nry qs i, z1.neg, z2.neg, fun p q hp hq => by have := sep_dot hcv2 hil hs hq hp; grind, ?_⟩
      intro n m W l hT hl hc hl2 hc2 hk g g2 w h hg hg2
      exact axis_2 hT hz hl hc hz2 hl2 hc2 hy (by unfold bydC; rw [hi]) hx z1 z2 hk g g2 w h hg hg2
theorem axis_no {k n m : Nat} {ps qs : Pts} {W : World} {l : List Own} (hT : Tab W) (hz : Pz k ps) (hl : ps.length = n) (hcv : 3 ≤ n ∧ n ≤ 64 ∧ Cvx ps) (hz2 : Pz k qs) (hl2 : qs.length = m) (hcv2 : 3 ≤ m ∧ m ≤ 64 ∧ Cvx qs) (hm : meetB ps qs = true) (hk : k ≤ 1000000) (g g2 : Nat) (w : World) (h : St W l w) (hg : Blk w g 30 (PC ps)) (hg2 : Blk w g2 30 (PC qs)) :
    Calls Tryd.prog 20 #[.slice (some ⟨g, 0, none⟩) n n, .slice (some ⟨g2, 0, none⟩) m m] w fun e w' => e = .returned (.tuple #[.agg (#[.bool false, .string ⟨#[]⟩, .string ⟨#[]⟩, .bool false, .string ⟨#[]⟩, .string ⟨#[]⟩]), .int .i64 10]) ∧ Below w.heap.size w w' := by
  unfold meetB at hm
  rw [Bool.and_eq_true, Bool.not_eq_true', Bool.not_eq_true'] at hm
  exact axis_3 hT hz hl hcv hz2 hl2 hcv2 hm.1 hm.2 hk g g2 w h hg hg2
end Go.Proofs.YtbgifinfflehmaaDoor
