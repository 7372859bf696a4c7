/- Joined texts. -/
import Derived.Test.YtlfddhiimcophaaDoorRoot

/- The walk of NatSquare. -/
namespace Go.Proofs.YtlfddhiimcophaaDoor
open Go.RowKit
set_option linter.unusedVariables false
set_option linter.unusedSimpArgs false

section
variable {W : World} {l : List Own}
theorem root_w (n r : Nat) (h1 : r * r ≤ n) (h2 : n < (r + 1) * (r + 1)) (hlen : (bstr n).length ≤ 8796093022208) (w : World) (h : St W l w) :
    Calls Tryd.prog 42 #[.string (S n)] w fun e w' => e = .returned (.string (S r)) ∧ Below w.heap.size w w' := by
  by_cases hn : n = 0
  · subst hn; exact root_0 r w h1
  · exact root_S n r w hn hlen h1 h2
theorem add_w1 (m : Nat) (hm : (bstr m).length ≤ 35184372088832) (w : World) (h : St W l w) :
    Calls Tryd.prog 19 #[.string (S m), .string ⟨#[1]⟩] w fun e w' => e = .returned (.string (S (m + 1))) ∧ Below w.heap.size w w' := by
  have e : S 1 = ⟨#[1]⟩ := by decide
  rw [← e]; exact add_S m 1 w hm (by decide)
theorem mul_w (m n : Nat) (hm : (bstr m).length ≤ 35184372088832) (hn : (bstr n).length ≤ 35184372088832) (w : World) (h : St W l w) :
    Calls Tryd.prog 20 #[.string (S m), .string (S n)] w fun e w' => e = .returned (.string (S (m * n))) ∧ Below w.heap.size w w' := mul_S m n w hm hn
end
set_option maxHeartbeats 4000000 in
set_option maxRecDepth 20000 in
theorem natSquare_str (s1 : ByteArray) (w : World) (hs1 : s1.size ≤ maxLen) :
    Calls Tryd.prog 10 #[.string s1] w fun e w' => e = .returned (.bool true) ∧ Below w.heap.size w w' := by
  have HS1 := Lib.hid hs1; clear hs1
  go_enter Tryd.func10, Tryd.ntmps10
  go_wp2_with fail
  refine (natBegun_any _).mono ?_
  rintro e w0 ⟨rfl, hw0⟩
  have HB0 := Lib.hid hw0; clear hw0
  go_wp2_with fail
  refine (bareK s1 HS1.out HB0.out).mono ?_
  rintro e w1 ⟨⟨a, rfl, ha⟩, hw1⟩
  obtain ⟨r, hr1, hr2⟩ := root_ex a
  have hra : r ≤ a := by
    rcases Nat.eq_zero_or_pos r with h | h
    · omega
    · have := Nat.mul_le_mul (show r ≤ r by omega) (show 1 ≤ r from h); omega
  have hr : Sz 60 r := ha.le hra
  have hp : Sz 62 (r + 1) := (hr.add (show Sz 1 1 by unfold Sz; decide)).more (by omega)
  have HL := Lib.hid (show (bstr a).length ≤ 8796093022208 ∧ (bstr r).length ≤ 35184372088832 ∧ (bstr (r * r)).length ≤ 35184372088832 ∧ (bstr a).length ≤ 35184372088832 ∧ (bstr (r + 1)).length ≤ 35184372088832 ∧ (bstr ((r + 1) * (r + 1))).length ≤ 35184372088832 ∧ (bstr (a * a)).length ≤ 8796093022208 from by
    have e1 := hr.mul hr
    have e2 := hp.mul hp
    have e3 := ha.mul ha
    unfold Sz at *
    omega)
  obtain ⟨v1, hv1, hv1r⟩ : ∃ v, cmpZ (r * r) a = v ∧ decide (v ≤ 0) = true := ⟨_, rfl, decide_eq_true (by unfold cmpZ; split <;> (try split) <;> omega)⟩
  obtain ⟨v2, hv2, hv2r⟩ : ∃ v, cmpZ ((r + 1) * (r + 1)) a = v ∧ decide (0 < v) = true := ⟨_, rfl, decide_eq_true (by unfold cmpZ; split <;> (try split) <;> omega)⟩
  have H1 := Lib.hid hv1; clear hv1
  have H2 := Lib.hid hv2; clear hv2
  have HR := Lib.hid (And.intro hr1 hr2); clear hr1 hr2 hra hr hp ha
  have HS := St.begin hw1
  clear hw1 HB0
  go_upto_region 4 with (fail)
  refine wp_seq_text [] (StR.no HS) ?_
  refine Seq.pure rfl rfl (by intro w; go_simp; try first | with_reducible rfl | rfl) ?_
  simp only [Act.put, List.setIfInBounds_toArray, List.set_cons_zero, List.set_cons_succ]
  refine Seq.call rfl rfl rfl rfl (by kernel_rfl) (root_w a r HR.out.1 HR.out.2 HL.out.1) ?_
  simp only [Act.put, List.setIfInBounds_toArray, List.set_cons_zero, List.set_cons_succ]
  refine Seq.pure rfl rfl (by intro w; go_simp; try first | with_reducible rfl | rfl) ?_
  simp only [Act.put, List.setIfInBounds_toArray, List.set_cons_zero, List.set_cons_succ]
  refine Seq.done fun ws1 hws => ?_
  have HS1 := hws.st
  clear HS hws
  go_upto_region 5 with (fail)
  refine wp_seq_text [] (StR.no HS1) ?_
  refine Seq.pure rfl rfl (by intro w; go_simp; try first | with_reducible rfl | rfl) ?_
  simp only [Act.put, List.setIfInBounds_toArray, List.set_cons_zero, List.set_cons_succ]
  refine Seq.call rfl rfl rfl rfl (by kernel_rfl) (add_w1 r HL.out.2.1) ?_
  simp only [Act.put, List.setIfInBounds_toArray, List.set_cons_zero, List.set_cons_succ]
  refine Seq.pure rfl rfl (by intro w; go_simp; try first | with_reducible rfl | rfl) ?_
  simp only [Act.put, List.setIfInBounds_toArray, List.set_cons_zero, List.set_cons_succ]
  refine Seq.done fun ws2 hws => ?_
  have HS2 := hws.st
  clear HS1 hws
  go_upto_region 6 with (fail)
  refine wp_seq_text [] (StR.no HS2) ?_
  refine Seq.pure rfl rfl (by intro w; go_simp; try first | with_reducible rfl | rfl) ?_
  simp only [Act.put, List.setIfInBounds_toArray, List.set_cons_zero, List.set_cons_succ]
  refine Seq.pure rfl rfl (by intro w; go_simp; try first | with_reducible rfl | rfl) ?_
  simp only [Act.put, List.setIfInBounds_toArray, List.set_cons_zero, List.set_cons_succ]
  refine Seq.call rfl rfl rfl rfl (by kernel_rfl) (mul_w r r HL.out.2.1 HL.out.2.1) ?_
  simp only [Act.put, List.setIfInBounds_toArray, List.set_cons_zero, List.set_cons_succ]
  refine Seq.pure rfl rfl (by intro w; go_simp; try first | with_reducible rfl | rfl) ?_
  simp only [Act.put, List.setIfInBounds_toArray, List.set_cons_zero, List.set_cons_succ]
  refine Seq.call rfl rfl rfl rfl (by kernel_rfl) (cmp_w (r * r) a (v := v1) HL.out.2.2.1 HL.out.2.2.2.1 H1.out) ?_
  simp only [Act.put, List.setIfInBounds_toArray, List.set_cons_zero, List.set_cons_succ]
  refine Seq.pure rfl rfl (by intro w; go_simp; try first | with_reducible rfl | rfl) ?_
  simp only [Act.put, List.setIfInBounds_toArray, List.set_cons_zero, List.set_cons_succ]
  refine Seq.pure rfl rfl (by intro w; go_simp; try first | with_reducible rfl | rfl) ?_
  simp only [Act.put, List.setIfInBounds_toArray, List.set_cons_zero, List.set_cons_succ]
  refine Seq.pure rfl rfl (by intro w; go_simp; try first | with_reducible rfl | rfl) ?_
  simp only [Act.put, List.setIfInBounds_toArray, List.set_cons_zero, List.set_cons_succ]
  refine Seq.pure rfl rfl (by intro w; go_simp; try first | with_reducible rfl | rfl) ?_
  simp only [Act.put, List.setIfInBounds_toArray, List.set_cons_zero, List.set_cons_succ]
  refine Seq.call rfl rfl rfl rfl (by kernel_rfl) (mul_w (r + 1) (r + 1) HL.out.2.2.2.2.1 HL.out.2.2.2.2.1) ?_
  simp only [Act.put, List.setIfInBounds_toArray, List.set_cons_zero, List.set_cons_succ]
  refine Seq.pure rfl rfl (by intro w; go_simp; try first | with_reducible rfl | rfl) ?_
  simp only [Act.put, List.setIfInBounds_toArray, List.set_cons_zero, List.set_cons_succ]
  refine Seq.call rfl rfl rfl rfl (by kernel_rfl) (cmp_w ((r + 1) * (r + 1)) a (v := v2) HL.out.2.2.2.2.2.1 HL.out.2.2.2.1 H2.out) ?_
  simp only [Act.put, List.setIfInBounds_toArray, List.set_cons_zero, List.set_cons_succ]
  refine Seq.pure rfl rfl (by intro w; go_simp; try first | with_reducible rfl | rfl) ?_
  simp only [Act.put, List.setIfInBounds_toArray, List.set_cons_zero, List.set_cons_succ]
  refine Seq.pure rfl rfl (by intro w; go_simp; try first | with_reducible rfl | rfl) ?_
  simp only [Act.put, List.setIfInBounds_toArray, List.set_cons_zero, List.set_cons_succ]
  refine Seq.pure rfl rfl (by intro w; go_simp; try first | with_reducible rfl | rfl) ?_
  simp only [Act.put, List.setIfInBounds_toArray, List.set_cons_zero, List.set_cons_succ]
  refine Seq.pure rfl rfl (by intro w; go_simp; try first | with_reducible rfl | rfl) ?_
  simp only [Act.put, List.setIfInBounds_toArray, List.set_cons_zero, List.set_cons_succ]
  refine Seq.pure rfl rfl (by intro w; go_simp; try first | with_reducible rfl | rfl) ?_
  simp only [Act.put, List.setIfInBounds_toArray, List.set_cons_zero, List.set_cons_succ]
  refine Seq.call rfl rfl rfl rfl (by kernel_rfl) (mul_w a a HL.out.2.2.2.1 HL.out.2.2.2.1) ?_
  simp only [Act.put, List.setIfInBounds_toArray, List.set_cons_zero, List.set_cons_succ]
  refine Seq.call rfl rfl rfl rfl (by kernel_rfl) (root_w (a * a) a (Nat.le_refl _) (by have := Nat.mul_le_mul (show a + 1 ≤ a + 1 by omega) (show a ≤ a + 1 by omega); have e : (a + 1) * a = a * a + a := (by grind); have e2 : (a + 1) * (a + 1) = a * a + a + a + 1 := (by grind); omega) HL.out.2.2.2.2.2.2) ?_
  simp only [Act.put, List.setIfInBounds_toArray, List.set_cons_zero, List.set_cons_succ]
  refine Seq.pure rfl rfl (by intro w; go_simp; try first | with_reducible rfl | rfl) ?_
  simp only [Act.put, List.setIfInBounds_toArray, List.set_cons_zero, List.set_cons_succ]
  refine Seq.pure rfl rfl (by intro w; go_simp; try first | with_reducible rfl | rfl) ?_
  simp only [Act.put, List.setIfInBounds_toArray, List.set_cons_zero, List.set_cons_succ]
  refine Seq.pure rfl rfl (by intro w; go_simp; try first | with_reducible rfl | rfl) ?_
  simp only [Act.put, List.setIfInBounds_toArray, List.set_cons_zero, List.set_cons_succ]
  refine Seq.pure rfl rfl (by intro w; go_simp; try first | with_reducible rfl | rfl) ?_
  simp only [Act.put, List.setIfInBounds_toArray, List.set_cons_zero, List.set_cons_succ]
  refine Seq.done fun ws3 hws => ?_
  have HS3 := hws.st
  clear HS2 hws
  go_wp2_with fail
  go_ret
  exact ⟨rfl, HS3.below⟩
end Go.Proofs.YtlfddhiimcophaaDoor
