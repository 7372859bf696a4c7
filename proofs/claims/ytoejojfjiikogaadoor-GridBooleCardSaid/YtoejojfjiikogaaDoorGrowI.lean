/- One row of integers that grows by append. -/
import Derived.Test.YtoejojfjiikogaaDoorChecked
import Derived.Test.YtoejojfjiikogaaDoorInts
import Derived.Test.YtoejojfjiikogaaDoorGrow

namespace Go.Proofs.YtoejojfjiikogaaDoor
open Go.RowKit
set_option linter.unusedVariables false

theorem i64_w (x : Int) (h0 : -9223372036854775808 ≤ x) (h1 : x ≤ 9223372036854775807) : IntKind.i64.wrap x = x := IntWalk.i64_in _ (by omega)
/-- v is a row of the call's own that holds xs -/
def IRow (w : World) (v : Value) (xs : List Int) (wr : World) : Prop := Rws w [⟨v, 3, 1, xs.length, cellsI xs⟩] wr
section
variable {w wr w' : World} {v v' : Value} {xs : List Int} {n : Nat}
theorem IRow.row (h : IRow w v xs wr) (hn : xs.length = n) : Rws w (⟨v, 3, 1, n, cellsI xs⟩ :: []) wr := by subst hn; exact h
theorem IRow.add {x : Int} (hn : xs.length = n) (h : Rws w [⟨v', 3, 1, n + 1, cellsI xs ++ (#[.int .i64 x] : Array Value).toList⟩] wr) : IRow w v' (xs ++ [x]) wr := by
  subst hn
  have e : cellsI (xs ++ [x]) = cellsI xs ++ [.int .i64 x] := by simp [cellsI]
  unfold IRow
  rw [e, List.length_append]
  exact h
theorem IRow.nil (h : Below w.heap.size w wr) : IRow w (.slice none 0 0) [] wr := (Rws.begin h).nil _ _
theorem IRow.next (h : IRow w v xs wr) (hb : Below wr.heap.size wr w') : IRow w v xs w' := Rws.next h hb
theorem IRow.drewN (h : IRow w v xs wr) (n : Nat) : IRow w v xs (wr.drewN n) := Rws.drewN h n
theorem IRow.bel (h : IRow w v xs wr) : Below w.heap.size w wr := Rws.below h
end
end Go.Proofs.YtoejojfjiikogaaDoor
