/- Joined texts. -/
import Derived.Test.YtiejgkmjaphbcaaDoorPo0
import Derived.Deep.LoopGhost

/- package poly (printed by lawvec.py). -/
namespace Go.Proofs.YtiejgkmjaphbcaaDoor
open Go.RowKit
set_option linter.unusedVariables false
set_option linter.unusedSimpArgs false

/-- twice the area of a triangle, with its sign -/
def lf (ax ay bx by_ cx cy : Rat) : Rat := (bx - ax) * (cy - ay) - (by_ - ay) * (cx - ax)
/-- the sign of the triangle of the corners i, j, m -/
def lfp (ps : Pts) (i j m : Nat) : Rat := lf (px ps i) (py ps i) (px ps j) (py ps j) (px ps m) (py ps m)
/-- convex: all other corners are to the left of each side -/
def Cvx (ps : Pts) : Prop := ∀ i, i < ps.length → ∀ k, 2 ≤ k → k < ps.length → 0 < lfp ps i ((i + 1) % ps.length) ((i + k) % ps.length)
theorem sgn_pos {a : Rat} (h : 0 < a) : decide (sgnQ a ≤ 0) = false := decide_eq_false (by unfold sgnQ cmpQ; grind)
theorem i64_s (x : Int) (h0 : -9223372036854775808 ≤ x) (h1 : x ≤ 9223372036854775807) : IntKind.i64.wrap x = x := IntWalk.i64_in _ (by omega)
end Go.Proofs.YtiejgkmjaphbcaaDoor
