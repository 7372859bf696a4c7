/- Joined texts. -/
import Derived.Test.YtoejojfjiikogaaGreatDoorPo1

/- Plain laws of polygons. -/
namespace Go.Proofs.YtoejojfjiikogaaGreatDoor
open Go.RowKit
set_option linter.unusedVariables false
set_option linter.unusedSimpArgs false

/-! ### moved points -/
/-- does the polygon contain the point -/
def hasB (ps : Pts) (x y : Rat) : Bool := (List.range ps.length).all fun i => decide (0 ≤ lf (px ps i) (py ps i) (px ps ((i + 1) % ps.length)) (py ps ((i + 1) % ps.length)) x y)
/-- the sum of the first products -/
def areaS (ps : Pts) : Nat → Rat
  | 0 => 0
  | i + 1 => areaS ps i + (px ps i * py ps ((i + 1) % ps.length) - py ps i * px ps ((i + 1) % ps.length))
def areaQ (ps : Pts) : Rat := (((1 : Int) : Rat) / ((2 : Int) : Rat)) * areaS ps ps.length
/-! ### the least box -/
/-! ### the polygons that gantmake makes -/
def q4 (z : Int) : Rat := mkRat z 4
def cvxB (ps : Pts) : Bool := (List.range ps.length).all fun i => (List.range ps.length).all fun k => decide (k < 2) || decide (0 < lfp ps i ((i + 1) % ps.length) ((i + k) % ps.length))
theorem cvx_of {ps : Pts} (h : cvxB ps = true) : Cvx ps := by
  unfold cvxB at h
  simp only [List.all_eq_true, List.mem_range, Bool.or_eq_true, decide_eq_true_eq] at h
  intro i hi k h2 hk
  rcases h i hi k hk with h3 | h3
  · omega
  · exact h3
end Go.Proofs.YtoejojfjiikogaaGreatDoor
