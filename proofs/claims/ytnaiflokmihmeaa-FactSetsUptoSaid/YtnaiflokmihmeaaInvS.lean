/- Steps of a region in whatever order: one lemma for each kind of operation. -/
import Derived.Test.YtnaiflokmihmeaaInv
import Derived.Test.YtnaiflokmihmeaaStep
import Derived.Test.YtnaiflokmihmeaaChecked
namespace Go.Proofs.Ytnaiflokmihmeaa
open Go.RowKit
set_option linter.unusedVariables false
set_option linter.unusedSimpArgs false

theorem args1 {f : Operand → Value} {x : Operand} {u : Value} (h : f x = u) : [x].map f = (#[u] : Array Value).toList := by simp [h]
theorem args2 {f : Operand → Value} {x y : Operand} {u v : Value} (h : f x = u) (h2 : f y = v) : [x, y].map f = (#[u, v] : Array Value).toList := by simp [h, h2]
theorem args3 {f : Operand → Value} {x y z : Operand} {u v w : Value} (h : f x = u) (h2 : f y = v) (h3 : f z = w) : [x, y, z].map f = (#[u, v, w] : Array Value).toList := by simp [h, h2, h3]
/-- the value is v -/
def isV (v : Value) : Told := fun u _ => u = v
def anyV : Told := fun _ _ => True
section
variable {P : Program} {ops : Array Oper} {Q : Exit → Act → World → Prop} {S : World → Prop} {V : Nat → Told} {a0 : Act} {md : Region.Mode} {k : Nat} {o : Oper} {G : Told} {a : Act} {w : World}
theorem OpI.mk (hst : ∀ v w w', G v w → Below w.heap.size w w' → G v w')
    (h : ∀ a w, S w → Fr ops a0 a → (∀ i d, (reach md ops i).contains k = true → dstOf ops i = some d → V i (a.tmps.getD d undef) w) → StepI P ops Q o G a w) : OpI P ops Q S V a0 md k o G := ⟨hst, h⟩
/-- a value that does not hang on the memory -/
theorem OpI.mkV {v : Value} (h : ∀ a w, S w → Fr ops a0 a → (∀ i d, (reach md ops i).contains k = true → dstOf ops i = some d → V i (a.tmps.getD d undef) w) → StepI P ops Q o (isV v) a w) : OpI P ops Q S V a0 md k o (isV v) := ⟨fun _ _ _ h _ => h, h⟩
theorem wants_none (hg : o.guard = none) : wants ops o a = true := by simp [wants, Region.wanted, hg]
theorem wants_at {g d : Nat} {b c r : Bool} (hg : o.guard = some (g, b)) (hd : dstOf ops g = some d) (h : a.tmps.getD d undef = .bool c) (hr : (c == b) = r) : wants ops o a = r := by
  have h2 : a.tmps[d]? = some (.bool c) := by
    rw [Array.getD_eq_getD_getElem?] at h
    cases hx : a.tmps[d]? with
    | none => rw [hx] at h; simp [undef] at h
    | some x => rw [hx] at h; simp at h; rw [h]
  unfold dstOf at hd
  unfold wants Region.wanted
  simp only [hg, yielded, hd, Option.bind_some, h2]
  rw [← hr]
  cases c <;> cases b <;> rfl
theorem StepI.nw (hw : wants ops o a = false) (hg : G undef w) : StepI P ops Q o G a w := .inl ⟨hw, hg⟩
theorem StepI.val {v : Value} (hw : wants ops o a = true) (hr : (execOp a.eval o).run P w = .ok (.value v) w) (hg : G v w) : StepI P ops Q o G a w := by
  refine .inr ⟨hw, ?_⟩
  unfold Oper.wp
  rw [hr]
  exact ⟨v, rfl, hg, Below.refl _ _⟩
theorem StepI.new {v : Value} {w' : World} (hw : wants ops o a = true) (hr : (execOp a.eval o).run P w = .ok (.value v) w') (hb : Below w.heap.size w w') (hg : G v w') : StepI P ops Q o G a w := by
  refine .inr ⟨hw, ?_⟩
  unfold Oper.wp
  rw [hr]
  exact ⟨v, rfl, hg, hb⟩
theorem StepI.mov {x : Operand} (ho : o.op = .move x) (hw : wants ops o a = true) (hg : G (a.eval x) w) : StepI P ops Q o G a w :=
  StepI.val hw (by simp [execOp, ho]) hg
theorem StepI.asg {x : Operand} (ho : o.op = .assign x) (hw : wants ops o a = true) (hg : G (a.eval x) w) : StepI P ops Q o G a w :=
  StepI.val hw (by simp [execOp, ho]) hg
theorem StepI.pick {c x y : Operand} {b : Bool} (ho : o.op = .pick c x y) (hw : wants ops o a = true) (hc : a.eval c = .bool b) (hg : G (if b = true then a.eval x else a.eval y) w) : StepI P ops Q o G a w :=
  StepI.val (v := if b = true then a.eval x else a.eval y) hw (by
    simp only [execOp, ho, hc]
    cases b <;> simp [asBool]) hg
theorem StepI.not {t : TypeId} {x : Operand} {p : Bool} (ho : o.op = .unOp .not t x) (hw : wants ops o a = true) (hx : a.eval x = .bool p) (hg : G (.bool !p) w) : StepI P ops Q o G a w :=
  StepI.val (v := .bool !p) hw (by
    simp only [execOp, ho, hx]
    simp [Op.unary, asBool]) hg
theorem StepI.bin {b : BinOp} {t ty : TypeId} {x y : Operand} {u v r : Value} (ho : o.op = .binOp b t x y ty) (hw : wants ops o a = true) (hx : a.eval x = u) (hy : a.eval y = v)
    (hr : ((do eqGuard b t x y u v; binOp b t u v : Sem Value)).run P w = .ok r w) (hg : G r w) : StepI P ops Q o G a w :=
  StepI.val (v := r) hw (by
    simp only [execOp, ho, hx, hy]
    rw [Sem.run_bind, hr]
    rfl) hg
theorem PlanI.nil {n : Nat} : PlanI P ops Q S V a0 md n [] [] := trivial
theorem PlanI.cons {n : Nat} {rest : List Oper} {Gs : List Told} (h : OpI P ops Q S V a0 md n o G) (ht : PlanI P ops Q S V a0 md (n + 1) rest Gs) : PlanI P ops Q S V a0 md n (o :: rest) (G :: Gs) := ⟨h, ht⟩
theorem StepI.load {t : TypeId} {x : Operand} {v : Value} {p : Addr} (ho : o.op = .load t x) (hw : wants ops o a = true) (hx : a.eval x = .pointer (some p)) (hr : (loadVar t p).run P w = .ok v w) (hg : G v w) : StepI P ops Q o G a w :=
  StepI.val (v := v) hw (by
    unfold execOp
    simp only [ho, hx, Instr.loadAt, Instr.sureAddr, Sem.run_bind, Sem.run_pure, Result.andThen_ok, hr]) hg
theorem StepI.call {f : FuncId} {xs : List Operand} {ts : Array TypeId} {vs : Array Value} (ho : o.op = .call { callee := .value (.func f), args := xs.toArray, argTypes := ts }) (hw : wants ops o a = true)
    (hx : xs.map a.eval = vs.toList) (hf : goesIn P f = true) (hc : Calls P f vs w fun e w' => ∃ v, e = .returned v ∧ G v w' ∧ Below w.heap.size w w') : StepI P ops Q o G a w := by
  have hr : (execOp a.eval o).run P w = .ok (.enter f vs) w := by
    unfold goesIn at hf
    cases hp : P.funcs[f]? with
    | none => simp [hp] at hf
    | some fn =>
      simp only [hp, Bool.and_eq_true, bne_iff_ne, ne_eq] at hf
      have hb : fn.body.isNone = false := by cases hq : fn.body <;> simp_all
      have hv : (xs.map a.eval).toArray = vs := by rw [hx]
      simp [execOp, ho, resolve, invoke, callFunc, Deferred.ofValue, Act.eval, hp, hf.1, hb, hv, go_sem]
      intro hq; rw [hq] at hb; cases hb
  refine .inr ⟨hw, ?_⟩
  unfold Oper.wp
  rw [hr]
  simp only [Oper.upon]
  refine Calls.mono hc fun e w' he => ?_
  obtain ⟨v, rfl, h2, h3⟩ := he
  exact ⟨v, rfl, h2, h3⟩
/-- a call of which the result is known -/
theorem StepI.callV {f : FuncId} {xs : List Operand} {ts : Array TypeId} {vs : Array Value} {v : Value} (ho : o.op = .call { callee := .value (.func f), args := xs.toArray, argTypes := ts }) (hw : wants ops o a = true)
    (hx : xs.map a.eval = vs.toList) (hf : goesIn P f = true) (hc : Calls P f vs w fun e w' => e = .returned v ∧ Below w.heap.size w w') : StepI P ops Q o (isV v) a w :=
  StepI.call ho hw hx hf (hc.mono fun e w' h => ⟨v, h.1, rfl, h.2⟩)
/-- the region's end in a function that returns slot t -/
theorem ret_slot {fn : Func} {E : Ending → World → Prop} {t : Nat} {v : Value} (hr : fn.results = #[.tmp t]) (hd : a.defers = []) (ht : a.tmps.getD t undef = v) (h : E (.returned v) w) : bodyPost P fn E .ret a w := by
  refine bodyPost_ret (v := v) ?_ hd h
  have ht' : a.tmps[t]?.getD undef = v := by rw [← ht]; simp
  simp [results, hr, ht']
end
theorem eqB_same (x y : Operand) (p : Bool) (w : World) : ((do eqGuard .eql 4 x y (.bool p) (.bool p); binOp .eql 4 (.bool p) (.bool p) : Sem Value)).run Try.prog w = .ok (.bool true) w := by
  cases p <;> kernel_rfl
end Go.Proofs.Ytnaiflokmihmeaa
