/- Joined texts. -/
import Derived.Test.YtoejojfjiikogaaGreatDoorPo1

/- Plain laws of polygons. -/
namespace Go.Proofs.YtoejojfjiikogaaGreatDoor
open Go.RowKit
set_option linter.unusedVariables false
set_option linter.unusedSimpArgs false

/-! ### moved points -/
/-- the sum of the first products -/
def areaS (ps : Pts) : Nat → Rat
  | 0 => 0
  | i + 1 => areaS ps i + (px ps i * py ps ((i + 1) % ps.length) - py ps i * px ps ((i + 1) % ps.length))
def areaQ (ps : Pts) : Rat := (((1 : Int) : Rat) / ((2 : Int) : Rat)) * areaS ps ps.length
/-! ### the least box -/
def mnF (f : Nat → Rat) : Nat → Rat
  | 0 => f 0
  | i + 1 => minQ (mnF f i) (f (i + 1))
def mxF (f : Nat → Rat) : Nat → Rat
  | 0 => f 0
  | i + 1 => maxQ (mxF f i) (f (i + 1))
theorem mn_le {f : Nat → Rat} : ∀ i j, j ≤ i → mnF f i ≤ f j := by
  intro i
  induction i with
  | zero => intro j h; have : j = 0 := by omega
            subst this; exact Rat.le_refl
  | succ i ih =>
    intro j hj
    simp only [mnF]
    rcases Nat.lt_or_ge j (i + 1) with h | h
    · have := ih j (by omega)
      unfold minQ cmpQ; grind
    · have : j = i + 1 := by omega
      subst this
      unfold minQ cmpQ; grind
theorem mx_ge {f : Nat → Rat} : ∀ i j, j ≤ i → f j ≤ mxF f i := by
  intro i
  induction i with
  | zero => intro j h; have : j = 0 := by omega
            subst this; exact Rat.le_refl
  | succ i ih =>
    intro j hj
    simp only [mxF]
    rcases Nat.lt_or_ge j (i + 1) with h | h
    · have := ih j (by omega)
      unfold maxQ cmpQ; grind
    · have : j = i + 1 := by omega
      subst this
      unfold maxQ cmpQ; grind
/-! ### the polygons that gantmake makes -/
def nxV (xs : List Int) (m : Nat) : Nat := match xs with | [] => 0 | x :: _ => belowN x m
theorem nxV_lt (xs : List Int) {m : Nat} (h : 0 < m) : nxV xs m < m := by
  cases xs with
  | nil => exact h
  | cons x xs => exact belowN_lt x h
def q4 (z : Int) : Rat := mkRat z 4
def shape (w h c x : Nat) : Pts :=
  if c = 0 then [(q4 (-(w : Int)), q4 (-(h : Int))), (q4 w, q4 (-(h : Int))), (q4 w, q4 h), (q4 (-(w : Int)), q4 h)]
  else if c = 1 then [(q4 (-(w : Int)), q4 (-(h : Int))), (q4 w, q4 (-(h : Int))), (q4 ((x : Int) - w), q4 h)]
  else if c = 2 then [(q4 (-(w : Int) - 1), q4 (-(h : Int) - 1)), (q4 w, q4 (-(h : Int) - 1)), (q4 (w + 1), q4 (-(h : Int))), (q4 (w + 1), q4 h), (q4 (-(w : Int) - 1), q4 h)]
  else [(q4 (-(w : Int)), q4 0), (q4 0, q4 (-(h : Int))), (q4 w, q4 0), (q4 0, q4 h)]
def cvxB (ps : Pts) : Bool := (List.range ps.length).all fun i => (List.range ps.length).all fun k => decide (k < 2) || decide (0 < lfp ps i ((i + 1) % ps.length) ((i + k) % ps.length))
theorem cvx_of {ps : Pts} (h : cvxB ps = true) : Cvx ps := by
  unfold cvxB at h
  simp only [List.all_eq_true, List.mem_range, Bool.or_eq_true, decide_eq_true_eq] at h
  intro i hi k h2 hk
  rcases h i hi k hk with h3 | h3
  · omega
  · exact h3
def polyQ (xs : List Int) : Pts := shape (1 + nxV xs 6) (1 + nxV xs.tail 6) (nxV xs.tail.tail 4) (nxV xs.tail.tail.tail (2 * (1 + nxV xs 6) + 1))
def shapesOK : Bool := (List.range 6).all fun w => (List.range 6).all fun h => (List.range 13).all fun x => cvxB (shape (1 + w) (1 + h) 0 x) && cvxB (shape (1 + w) (1 + h) 1 x) && cvxB (shape (1 + w) (1 + h) 2 x) && cvxB (shape (1 + w) (1 + h) 3 x)
set_option maxRecDepth 100000 in
theorem shapes_ok : shapesOK = true := by decide +kernel
theorem shape_cvx {w h c x : Nat} (hw : w < 6) (hh : h < 6) (hx : x < 13) : Cvx (shape (1 + w) (1 + h) c x) := by
  have H := shapes_ok
  simp only [shapesOK, List.all_eq_true, List.mem_range, Bool.and_eq_true] at H
  obtain ⟨⟨⟨h0, h1⟩, h2⟩, h3⟩ := H w hw h hh x hx
  by_cases c0 : c = 0
  · subst c0; exact cvx_of h0
  · by_cases c1 : c = 1
    · subst c1; exact cvx_of h1
    · by_cases c2 : c = 2
      · subst c2; exact cvx_of h2
      · have e : shape (1 + w) (1 + h) c x = shape (1 + w) (1 + h) 3 x := by simp [shape, c0, c1, c2]
        rw [e]; exact cvx_of h3
theorem polyQ_cvx (xs : List Int) : Cvx (polyQ xs) := by
  have h1 := nxV_lt xs (show 0 < 6 by omega)
  have h2 := nxV_lt xs.tail (show 0 < 6 by omega)
  have h3 := nxV_lt xs.tail.tail.tail (show 0 < 2 * (1 + nxV xs 6) + 1 by omega)
  exact shape_cvx h1 h2 (by omega)
theorem shape_len (w h c x : Nat) : 3 ≤ (shape w h c x).length ∧ (shape w h c x).length ≤ 5 := by
  unfold shape
  split
  · simp
  · split
    · simp
    · split <;> simp
end Go.Proofs.YtoejojfjiikogaaGreatDoor
