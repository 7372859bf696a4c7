/- Joined texts. -/
import Derived.Test.YtoejojfjiikogaaGreatDoorPo5
import Derived.Deep.LoopGhost

/- poly.Box (printed by lawvec.py). -/
namespace Go.Proofs.YtoejojfjiikogaaGreatDoor
open Go.RowKit
set_option linter.unusedVariables false
set_option linter.unusedSimpArgs false

section
variable {P : Program} {ops : Array Oper} {W : World} {l : List Own} {Q : Exit → Act → World → Prop} {gs : List Nat} {k : Nat} {o : Oper} {rest : List Oper} {a : Act} {R : Reg}
theorem Addr.add_at (g f0 n : Nat) : (⟨g, f0, none⟩ : Addr).add n = ⟨g, f0 + n, none⟩ := by unfold Addr.add; split <;> simp_all
theorem run_indexO {t : TypeId} {m g f0 n c : Nat} {z : Int} {i : Nat} (ht : sliceOf P t m = true) (hz : z = (i : Int)) (hi : i < n) (w : World) :
    (Instr.indexAt t (.slice (some ⟨g, f0, none⟩) n c) (.int .i64 z)).run P w = .ok (.pointer (some ⟨g, f0 + m * i, none⟩)) w := by
  unfold sliceOf at ht
  cases hu : P.underlying t with
  | none => simp [hu] at ht
  | some d =>
    rw [hu] at ht
    cases d with
    | slice e =>
      simp only [beq_iff_eq] at ht
      cases hq : P.info? e with
      | none => simp [hq] at ht
      | some inf =>
        have hs : inf.size = m := by rw [hq] at ht; simpa using ht
        subst hz
        simp [Instr.indexAt, run_underlying hu, asIntOf, sizeOf, typeInfo, hq, hs, hi, Addr.add_at, Nat.mul_comm]
    | _ => simp at ht
theorem Seq.indexO {t : TypeId} {x y : Operand} {m g f0 n c : Nat} {z : Int} (i : Nat) (ho : o.op = .indexAddr t x y) (hk : kd gs k o = .val) (hw : wants ops o a = true) (hx : a.eval x = .slice (some ⟨g, f0, none⟩) n c) (hy : a.eval y = .int .i64 z)
    (ht : sliceOf P t m = true) (hz : z = (i : Int)) (hi : i < n) {q : Nat} (hq : f0 + m * i = q) (h : Seq P ops Q W l gs (k + 1) rest (a.put o.dst (.pointer (some ⟨g, q, none⟩))) R) : Seq P ops Q W l gs k (o :: rest) a R :=
  Seq.pure hk hw (fun w => by
    unfold execOp
    simp only [ho, hx, hy, Sem.run_bind, run_indexO ht hz hi, Result.andThen_ok, Sem.run_pure, hq]) h
end
end Go.Proofs.YtoejojfjiikogaaGreatDoor
