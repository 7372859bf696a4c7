/- One row of integers that grows by append. -/
import Derived.Test.YtdhhbpnnahdofaaDoorChecked
import Derived.Test.YtdhhbpnnahdofaaDoorInts
import Derived.Test.YtdhhbpnnahdofaaDoorGrow

namespace Go.Proofs.YtdhhbpnnahdofaaDoor
open Go.RowKit
set_option linter.unusedVariables false

theorem infoI : (Tryd.prog.info? 3).map (fun i => (i.zero, i.size, i.bytes)) = some (some (.int .i64 0), 1, 8) := by kernel_rfl
theorem one_i (x : Int) : ∀ u ∈ (#[.int .i64 x] : Array Value).toList, u.oneCell' = true := by intro u hu; simp at hu; subst hu; rfl
theorem i64_w (x : Int) (h0 : -9223372036854775808 ≤ x) (h1 : x ≤ 9223372036854775807) : IntKind.i64.wrap x = x := IntWalk.i64_in _ (by omega)
/-- v is a row of the call's own that holds xs -/
def IRow (w : World) (v : Value) (xs : List Int) (wr : World) : Prop := Rws w [⟨v, 3, 1, xs.length, cellsI xs⟩] wr
section
variable {w wr w' : World} {v v' : Value} {xs : List Int} {n : Nat}
theorem IRow.ints (h : IRow w v xs wr) : ∃ A c, v = .slice A xs.length c ∧ xs.length ≤ c ∧ c ≤ maxLen ∧ IntsAt wr wr.heap.size A xs := IntsAt.of_own (Rws.head h)
theorem IRow.intsV (h : IRow w v xs wr) : IntsV wr v xs := IntsAt.of_own (Rws.head h)
theorem IRow.row (h : IRow w v xs wr) (hn : xs.length = n) : Rws w (⟨v, 3, 1, n, cellsI xs⟩ :: []) wr := by subst hn; exact h
theorem IRow.add {x : Int} (hn : xs.length = n) (h : Rws w [⟨v', 3, 1, n + 1, cellsI xs ++ (#[.int .i64 x] : Array Value).toList⟩] wr) : IRow w v' (xs ++ [x]) wr := by
  subst hn
  have e : cellsI (xs ++ [x]) = cellsI xs ++ [.int .i64 x] := by simp [cellsI]
  unfold IRow
  rw [e, List.length_append]
  exact h
theorem IRow.nil (h : Below w.heap.size w wr) : IRow w (.slice none 0 0) [] wr := (Rws.begin h).nil _ _
theorem IRow.next (h : IRow w v xs wr) (hb : Below wr.heap.size wr w') : IRow w v xs w' := Rws.next h hb
theorem IRow.drewN (h : IRow w v xs wr) (n : Nat) : IRow w v xs (wr.drewN n) := Rws.drewN h n
theorem IRow.bel (h : IRow w v xs wr) : Below w.heap.size w wr := Rws.below h
theorem IRow.re {ys : List Int} (h : IRow w v xs wr) (e : ys = xs) : IRow w v ys wr := e ▸ h
end
end Go.Proofs.YtdhhbpnnahdofaaDoor
