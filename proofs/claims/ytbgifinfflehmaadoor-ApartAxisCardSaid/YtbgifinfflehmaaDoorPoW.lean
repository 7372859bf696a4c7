/- Joined texts. -/
import Derived.Test.YtbgifinfflehmaaDoorPoS

/- The points of two convex polygons that are nearest to each other. -/
namespace Go.Proofs.YtbgifinfflehmaaDoor
open Go.RowKit
set_option linter.unusedVariables false
set_option linter.unusedSimpArgs false

/-! ### the points that are nearest to each other -/
/-- boxes of polygons that meet -/
theorem box_meet {a b : Pts} (ca : Cvx a) (cb : Cvx b) (ha : 3 ≤ a.length) (hb : 3 ≤ b.length) (hm : meetB a b = true) :
    mnF (px a) (a.length - 1) ≤ mxF (px b) (b.length - 1) ∧ mnF (py a) (a.length - 1) ≤ mxF (py b) (b.length - 1) := by
  constructor
  · rcases rat_tri (mxF (px b) (b.length - 1)) (mnF (px a) (a.length - 1)) with h | h | h
    · have := sat ca cb ha hb (w1 := -1) (w2 := 0) fun p q hp hq => by
        have h1 := mn_le (f := px a) (a.length - 1) p (by omega)
        have h2 := mx_ge (f := px b) (b.length - 1) q (by omega)
        grind
      rw [hm] at this; cases this
    · grind
    · grind
  · rcases rat_tri (mxF (py b) (b.length - 1)) (mnF (py a) (a.length - 1)) with h | h | h
    · have := sat ca cb ha hb (w1 := 0) (w2 := -1) fun p q hp hq => by
        have h1 := mn_le (f := py a) (a.length - 1) p (by omega)
        have h2 := mx_ge (f := py b) (b.length - 1) q (by omega)
        grind
      rw [hm] at this; cases this
    · grind
    · grind
theorem box_valid {f : Nat → Rat} (n : Nat) : mnF f n ≤ mxF f n := by
  have h1 := mn_le (f := f) n 0 (by omega)
  have h2 := mx_ge (f := f) n 0 (by omega)
  grind
end Go.Proofs.YtbgifinfflehmaaDoor
