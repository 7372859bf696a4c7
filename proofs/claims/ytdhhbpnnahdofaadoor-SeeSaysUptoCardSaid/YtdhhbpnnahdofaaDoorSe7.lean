/- Plain: laws of poses. -/
import Derived.Test.YtdhhbpnnahdofaaDoorSe6
import Derived.LoopN

namespace Go.Proofs.YtdhhbpnnahdofaaDoor
open Go.RowKit
set_option linter.unusedVariables false
set_option linter.unusedSimpArgs false

theorem ins_c {l h ql qh : Rat} (hl : l ≤ h) : (ql ≤ l ∧ h ≤ qh) ↔ (maxQ l ql ≤ minQ h qh ∧ maxQ l ql = l ∧ minQ h qh = h) := by
  unfold maxQ minQ cmpQ; grind
theorem ins_me {p1 p2 p3 p4 p5 p6 q1 q2 q3 q4 q5 q6 : Rat} (h1 : p1 ≤ p2) (h2 : p3 ≤ p4) (h3 : p5 ≤ p6) : insQ p1 p2 p3 p4 p5 p6 q1 q2 q3 q4 q5 q6 = (okQ p1 p2 p3 p4 p5 p6 q1 q2 q3 q4 q5 q6 && sameQ (maxQ p1 q1) (minQ p2 q2) (maxQ p3 q3) (minQ p4 q4) (maxQ p5 q5) (minQ p6 q6) p1 p2 p3 p4 p5 p6) := by
  rw [Bool.eq_iff_iff]
  unfold insQ wiQ okQ sameQ
  simp only [Bool.and_eq_true, decide_eq_true_eq]
  rw [ins_c h1, ins_c h2, ins_c h3]
  grind
theorem ins_same {p1 p2 p3 p4 p5 p6 q1 q2 q3 q4 q5 q6 : Rat} : (insQ p1 p2 p3 p4 p5 p6 q1 q2 q3 q4 q5 q6 && insQ q1 q2 q3 q4 q5 q6 p1 p2 p3 p4 p5 p6) = sameQ p1 p2 p3 p4 p5 p6 q1 q2 q3 q4 q5 q6 := by
  rw [Bool.eq_iff_iff]
  unfold insQ wiQ sameQ
  simp only [Bool.and_eq_true, decide_eq_true_eq]
  grind
theorem mid_two (x : Rat) : 2 * (x / 2) = x := by grind
theorem okQ_le {p1 p2 p3 p4 p5 p6 q1 q2 q3 q4 q5 q6 : Rat} (h : okQ p1 p2 p3 p4 p5 p6 q1 q2 q3 q4 q5 q6 = true) : maxQ p1 q1 ≤ minQ p2 q2 ∧ maxQ p3 q3 ≤ minQ p4 q4 ∧ maxQ p5 q5 ≤ minQ p6 q6 := by
  unfold okQ at h
  exact of_decide_eq_true h
theorem ne_z18 {o : Oper} {a : Act} {X Y : Operand} {U : TypeId} (ho : o.op = .binOp .neq 36 X Y U) (hX : a.eval X = .agg (PW rz0 rz0 rz0 rz0 rz0 rz0)) (hY : a.eval Y = .agg (PW rz0 rz0 rz0 rz0 rz0 rz0)) (w : World) : (execOp a.eval o).run Tryd.prog w = .ok (.value (.bool false)) w := by
  unfold execOp
  simp only [ho, hX, hY, PW, rz0]
  go_simp
theorem mRQ_yes {p1 p2 p3 p4 p5 p6 q1 q2 q3 q4 q5 q6 : Rat} (h : okQ p1 p2 p3 p4 p5 p6 q1 q2 q3 q4 q5 q6 = true) : mRQ p1 p2 p3 p4 p5 p6 q1 q2 q3 q4 q5 q6 = .tuple #[.agg (meQ p1 p2 p3 p4 p5 p6 q1 q2 q3 q4 q5 q6), .bool true] := by unfold mRQ; rw [if_pos h]
theorem mRQ_no {p1 p2 p3 p4 p5 p6 q1 q2 q3 q4 q5 q6 : Rat} (h : okQ p1 p2 p3 p4 p5 p6 q1 q2 q3 q4 q5 q6 = false) : mRQ p1 p2 p3 p4 p5 p6 q1 q2 q3 q4 q5 q6 = .tuple #[.agg z18, .bool false] := by unfold mRQ; rw [if_neg (by rw [h]; simp)]
theorem naQ_yes {p1 p2 p3 p4 p5 p6 q1 q2 q3 q4 q5 q6 : Rat} (h : okQ p1 p2 p3 p4 p5 p6 q1 q2 q3 q4 q5 q6 = true) : naQ p1 p2 p3 p4 p5 p6 q1 q2 q3 q4 q5 q6 = .tuple #[.agg (meQ p1 p2 p3 p4 p5 p6 q1 q2 q3 q4 q5 q6), .int .i64 0] := by unfold naQ; rw [if_pos h]
theorem naQ_no {p1 p2 p3 p4 p5 p6 q1 q2 q3 q4 q5 q6 : Rat} (h : okQ p1 p2 p3 p4 p5 p6 q1 q2 q3 q4 q5 q6 = false) : naQ p1 p2 p3 p4 p5 p6 q1 q2 q3 q4 q5 q6 = .tuple #[.agg z18, .int .i64 4] := by unfold naQ; rw [if_neg (by rw [h]; simp)]
end Go.Proofs.YtdhhbpnnahdofaaDoor
