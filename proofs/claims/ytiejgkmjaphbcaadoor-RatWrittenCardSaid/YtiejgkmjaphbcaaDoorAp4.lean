/- Joined texts. -/
import Derived.Test.YtiejgkmjaphbcaaDoorAp3

/- apartBegun (printed by lawvec.py). -/
namespace Go.Proofs.YtiejgkmjaphbcaaDoor
open Go.RowKit
set_option linter.unusedVariables false
set_option linter.unusedSimpArgs false

section
variable {P : Program} {ops : Array Oper} {W : World} {l : List Own} {Q : Exit → Act → World → Prop} {gs : List Nat} {k : Nat} {o : Oper} {rest : List Oper} {a : Act} {R : Reg}
theorem Seq.callFreshV {f : FuncId} {y : Operand} {xs : List Operand} {ts : Array TypeId} {vs cap : Array Value} {n : Option Nat} {x : TypeId × Array Value} (ho : o.op = .call { callee := .value y, args := xs.toArray, argTypes := ts }) (hk : kd gs k o = .fresh) (hw : wants ops o a = true)
    (hy : a.eval y = .func (.func f) #[] cap) (hx : xs.map a.eval = vs.toList) (hf : goesIn P f = true)
    (hc : ∀ w, StR W l R w → Calls P f (vs ++ cap) w (fun e w' => ∃ p, w.heap.size ≤ p ∧ e = .returned (mk n p) ∧ Below w.heap.size w w' ∧ Blk w' p x.1 x.2))
    (h : ∀ p, W.heap.size ≤ p → (∀ e ∈ l, e.1 ≠ p) → R p = none → Seq P ops Q W l gs (k + 1) rest (a.put o.dst (mk n p)) (R.put p x)) : Seq P ops Q W l gs k (o :: rest) a R := by
  refine .inl (.inr ⟨hw, ?_⟩)
  rw [hk]
  refine ⟨n, x, ⟨by simp [isCall, ho], fun w hs => ?_⟩, fun p hp => h p hp.1 hp.2.1 hp.2.2⟩
  have hr : (execOp a.eval o).run P w = .ok (.enter f (vs ++ cap)) w := by
    unfold goesIn at hf
    cases hp : P.funcs[f]? with
    | none => simp [hp] at hf
    | some fn =>
      simp only [hp, Bool.and_eq_true, bne_iff_ne, ne_eq] at hf
      have hb : fn.body.isNone = false := by cases hq : fn.body <;> simp_all
      have hv : (xs.map a.eval).toArray = vs := by rw [hx]
      unfold execOp
      simp only [ho, resolve, hy]
      simp [invoke, callFunc, Deferred.ofValue, hp, hf.1, hb, hv, go_sem]
      intro hq; rw [hq] at hb; cases hb
  rw [hr]
  exact ⟨Below.refl _ _, hc w hs⟩
end
theorem square_0_z : Pz 2 [((0 : Rat), (0 : Rat)), ((1 : Rat), (0 : Rat)), ((1 : Rat), (1 : Rat)), ((0 : Rat), (1 : Rat))] := by
  intro p hp
  simp only [List.mem_cons, List.not_mem_nil, or_false] at hp
  rcases hp with rfl | rfl | rfl | rfl
  · exact ⟨Rz.lit (z := 0) rfl (by decide), Rz.lit (z := 0) rfl (by decide)⟩
  · exact ⟨Rz.lit (z := 1) rfl (by decide), Rz.lit (z := 0) rfl (by decide)⟩
  · exact ⟨Rz.lit (z := 1) rfl (by decide), Rz.lit (z := 1) rfl (by decide)⟩
  · exact ⟨Rz.lit (z := 0) rfl (by decide), Rz.lit (z := 1) rfl (by decide)⟩
theorem square_4_z : Pz 2 [((4 : Rat), (5 : Rat)), ((5 : Rat), (5 : Rat)), ((5 : Rat), (6 : Rat)), ((4 : Rat), (6 : Rat))] := by
  intro p hp
  simp only [List.mem_cons, List.not_mem_nil, or_false] at hp
  rcases hp with rfl | rfl | rfl | rfl
  · exact ⟨Rz.lit (z := 4) rfl (by decide), Rz.lit (z := 5) rfl (by decide)⟩
  · exact ⟨Rz.lit (z := 5) rfl (by decide), Rz.lit (z := 5) rfl (by decide)⟩
  · exact ⟨Rz.lit (z := 5) rfl (by decide), Rz.lit (z := 6) rfl (by decide)⟩
  · exact ⟨Rz.lit (z := 4) rfl (by decide), Rz.lit (z := 6) rfl (by decide)⟩
theorem sq0_cvx : Cvx [((0 : Rat), (0 : Rat)), ((1 : Rat), (0 : Rat)), ((1 : Rat), (1 : Rat)), ((0 : Rat), (1 : Rat))] := cvx_of (by decide +kernel)
theorem sq4_cvx : Cvx [((4 : Rat), (5 : Rat)), ((5 : Rat), (5 : Rat)), ((5 : Rat), (6 : Rat)), ((4 : Rat), (6 : Rat))] := cvx_of (by decide +kernel)
theorem sq_25 : sqQ [((0 : Rat), (0 : Rat)), ((1 : Rat), (0 : Rat)), ((1 : Rat), (1 : Rat)), ((0 : Rat), (1 : Rat))] [((4 : Rat), (5 : Rat)), ((5 : Rat), (5 : Rat)), ((5 : Rat), (6 : Rat)), ((4 : Rat), (6 : Rat))] = 25 := by decide +kernel
end Go.Proofs.YtiejgkmjaphbcaaDoor
