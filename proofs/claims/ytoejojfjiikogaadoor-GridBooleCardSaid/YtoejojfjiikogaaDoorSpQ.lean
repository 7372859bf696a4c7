/- Joined texts. -/
import Derived.Test.YtoejojfjiikogaaDoorRatT

/- Structs of numbers as values: vectors, spans, turns, frames. -/
namespace Go.Proofs.YtoejojfjiikogaaDoor
universe u
open Go.RowKit
set_option linter.unusedVariables false
set_option linter.unusedSimpArgs false

theorem nA {α : Type u} (l : List α) (i : Nat) (a : α) : l.toArray.setIfInBounds i a = (l.set i a).toArray := List.setIfInBounds_toArray ..
theorem nB {α : Type u} {x a : α} {l : List α} : (x :: l).set 0 a = a :: l := List.set_cons_zero
theorem nC {α : Type u} {x a : α} {l : List α} {n : Nat} : (x :: l).set (n + 1) a = x :: l.set n a := List.set_cons_succ
theorem rS {R : Reg} {p : Nat} {x : TypeId × Array Value} : R.put p x p = some x := Reg.put_same _ _ _
theorem rN {R : Reg} {p q : Nat} {x : TypeId × Array Value} {y : Option (TypeId × Array Value)} (h : q ≠ p) (hy : R q = y) : R.put p x q = y := (Reg.put_ne _ _ h).trans hy
theorem mC {a : Own} {l : List Own} : a ∈ a :: l := List.mem_cons_self
theorem mT {a b : Own} {l : List Own} (h : a ∈ l) : a ∈ b :: l := List.mem_cons_of_mem _ h
theorem min_self (x : Rat) : minQ x x = x := by unfold minQ; split <;> rfl
theorem Rz.lit {z : Int} {q : Rat} (h : (z : Rat) = q) (hz : z.natAbs < 65536) : Rz 2 q := by
  rw [← h]; exact Rz.intQ (bstr_length_le.2 (by omega)) (by omega)
/-! ### values made of their fields -/
section
variable {o : Oper} {a : Act} {X Y : Operand}
end
/-! ### equality -/
section
variable {ops : Array Oper} {W : World} {l : List Own} {Q : Exit → Act → World → Prop} {gs : List Nat} {k : Nat} {o : Oper} {rest : List Oper} {a : Act} {R : Reg}
end
/-! ### slices of numbers, made in place -/
end Go.Proofs.YtoejojfjiikogaaDoor
