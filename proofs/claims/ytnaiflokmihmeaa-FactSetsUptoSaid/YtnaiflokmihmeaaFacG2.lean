/- Facts: a row of facts of the call's own. -/
import Derived.Test.YtnaiflokmihmeaaFacG
import Derived.Test.YtnaiflokmihmeaaGrowL
namespace Go.Proofs.Ytnaiflokmihmeaa
open Go.RowKit
set_option linter.unusedVariables false
set_option linter.unusedSimpArgs false

theorem infoFt : (Try.prog.info? 45).map (fun i => (i.zero, i.size, i.bytes)) = some (some (.agg #[.int .i64 0, .int .i64 0, .int .i64 0]), 3, 24) := by kernel_rfl
theorem one_ft (x : Ft) : ∀ u ∈ (#[.int .i64 x.k, .int .i64 x.a, .int .i64 x.b] : Array Value).toList, u.oneCell' = true := by
  intro u hu; simp at hu; rcases hu with rfl | rfl | rfl <;> rfl
/-- v is a row of the call's own that holds the facts xs -/
def FRow (w : World) (v : Value) (xs : List Ft) (wr : World) : Prop := Rws w [⟨v, 45, 3, xs.length, cellsF xs⟩] wr
section
variable {w wr w' : World} {v v' : Value} {xs : List Ft} {n : Nat}
theorem FRow.facts (h : FRow w v xs wr) : ∃ A c, v = .slice A xs.length c ∧ xs.length ≤ c ∧ c ≤ maxLen ∧ FactsAt wr wr.heap.size A xs := FactsAt.of_own (Rws.head h)
theorem FRow.row (h : FRow w v xs wr) (hn : xs.length = n) : Rws w (⟨v, 45, 3, n, cellsF xs⟩ :: []) wr := by subst hn; exact h
theorem FRow.add {x : Ft} (hn : xs.length = n) (h : Rws w [⟨v', 45, 3, n + 1, cellsF xs ++ (#[.int .i64 x.k, .int .i64 x.a, .int .i64 x.b] : Array Value).toList⟩] wr) : FRow w v' (xs ++ [x]) wr := by
  subst hn
  have e : cellsF (xs ++ [x]) = cellsF xs ++ [.int .i64 x.k, .int .i64 x.a, .int .i64 x.b] := by simp [cellsF, valG]
  unfold FRow
  rw [e, List.length_append]
  exact h
theorem FRow.nil (h : Below w.heap.size w wr) : FRow w (.slice none 0 0) [] wr := (Rws.begin h).nil _ _
theorem FRow.next (h : FRow w v xs wr) (hb : Below wr.heap.size wr w') : FRow w v xs w' := Rws.next h hb
theorem FRow.drewN (h : FRow w v xs wr) (n : Nat) : FRow w v xs (wr.drewN n) := Rws.drewN h n
theorem FRow.bel (h : FRow w v xs wr) : Below w.heap.size w wr := Rws.below h
theorem FRow.re {ys : List Ft} (h : FRow w v xs wr) (e : ys = xs) : FRow w v ys wr := e ▸ h
end
end Go.Proofs.Ytnaiflokmihmeaa
