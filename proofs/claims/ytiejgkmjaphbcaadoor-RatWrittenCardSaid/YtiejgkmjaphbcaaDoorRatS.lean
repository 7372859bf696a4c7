/- Joined texts. -/
import Derived.Test.YtiejgkmjaphbcaaDoorRatR

/- Plain laws of rounding, for RatRounds. -/
namespace Go.Proofs.YtiejgkmjaphbcaaDoor
open Go.RowKit
set_option linter.unusedVariables false
set_option linter.unusedSimpArgs false

theorem flQ_eq (q : Rat) : flQ q = q.floor := (Rat.floor_def q).symm
theorem le_of_mul {x y d : Rat} (hd : 0 < d) (h : x * d ≤ y * d) : x ≤ y := by
  rcases rat_tri x y with h1 | h1 | h1
  · grind
  · grind
  · have := mul_lt_r h1 hd; grind
theorem lt_of_mul {x y d : Rat} (hd : 0 < d) (h : x * d < y * d) : x < y := by
  rcases rat_tri x y with h1 | h1 | h1
  · exact h1
  · subst h1; grind
  · have := mul_lt_r h1 hd; grind
theorem natQ_pos {d : Nat} (hd : 1 ≤ d) : (0 : Rat) < ((d : Int) : Rat) := by
  have : ((0 : Int) : Rat) < ((d : Int) : Rat) := Rat.intCast_lt_intCast.2 (by omega)
  simpa using this
theorem downQ_mul (a : Rat) {d : Nat} (hd : 1 ≤ d) : downQ a d * ((d : Int) : Rat) = ((flQ (a * ((d : Int) : Rat)) : Int) : Rat) := by
  have h := natQ_pos hd
  unfold downQ
  rw [Rat.mkRat_eq_div]
  exact Rat.div_mul_cancel (fun e => by
    have e2 : ((d : Int) : Rat) = 0 := e
    rw [e2] at h; exact absurd h (by decide))
theorem downQ_le (a : Rat) {d : Nat} (hd : 1 ≤ d) : downQ a d ≤ a := by
  refine le_of_mul (natQ_pos hd) ?_
  rw [downQ_mul a hd, flQ_eq]
  exact Rat.floor_le _
theorem downQ_lt (a : Rat) {d : Nat} (hd : 1 ≤ d) : a < downQ a d + ((1 : Int) : Rat) / ((d : Int) : Rat) := by
  have h := natQ_pos hd
  refine lt_of_mul h ?_
  have e : (downQ a d + ((1 : Int) : Rat) / ((d : Int) : Rat)) * ((d : Int) : Rat) = downQ a d * ((d : Int) : Rat) + 1 := by
    have : ((d : Int) : Rat) ≠ 0 := by grind
    have h1 : ((1 : Int) : Rat) = 1 := rfl
    rw [Rat.add_mul, Rat.div_mul_cancel this, h1]
  rw [e, downQ_mul a hd, flQ_eq]
  have := Rat.lt_floor_add_one (a * ((d : Int) : Rat))
  rw [Rat.intCast_add] at this
  exact this
theorem flQ_int (z : Int) : flQ (z : Rat) = z := by rw [flQ_eq]; exact Rat.floor_intCast z
theorem eq_of_mul {x y d : Rat} (hd : 0 < d) (h : x * d = y * d) : x = y := by
  have h1 := le_of_mul hd (show x * d ≤ y * d by grind)
  have h2 := le_of_mul hd (show y * d ≤ x * d by grind)
  grind
theorem flQ_low (a : Rat) {d : Nat} (hd : 1 ≤ d) : flQ (downQ a d * ((d : Int) : Rat)) = flQ (a * ((d : Int) : Rat)) := by rw [downQ_mul a hd, flQ_int]
theorem low_back (a : Rat) {d : Nat} (hd : 1 ≤ d) : ((flQ (a * ((d : Int) : Rat)) : Int) : Rat) * (((1 : Int) : Rat) / ((d : Int) : Rat)) = downQ a d := by
  have h := natQ_pos hd
  rw [← downQ_mul a hd]
  have h1 : ((1 : Int) : Rat) = 1 := rfl
  rw [h1]
  grind
theorem down_down (a : Rat) {d : Nat} (hd : 1 ≤ d) : downQ (downQ a d) d = downQ a d := by
  refine eq_of_mul (natQ_pos hd) ?_
  rw [downQ_mul _ hd, flQ_low a hd, downQ_mul a hd]
theorem up_down (a : Rat) {d : Nat} (hd : 1 ≤ d) : upQ (downQ a d) d = downQ a d := by
  unfold upQ
  have e : downQ (-downQ a d) d = -downQ a d := by
    refine eq_of_mul (natQ_pos hd) ?_
    rw [downQ_mul _ hd]
    have h1 : -downQ a d * ((d : Int) : Rat) = ((-(flQ (a * ((d : Int) : Rat))) : Int) : Rat) := by
      rw [Rat.neg_mul, downQ_mul a hd, Rat.intCast_neg]
    rw [h1, flQ_int]
  rw [e, Rat.neg_neg]
theorem fl_down (a : Rat) : ((flQ a : Int) : Rat) = downQ a 1 := by
  have h := downQ_mul a (show 1 ≤ 1 by omega)
  have h1 : (((1 : Nat) : Int) : Rat) = 1 := rfl
  rw [h1, Rat.mul_one, Rat.mul_one] at h
  exact h.symm
theorem cmp_le {x y : Rat} (h : x ≤ y) : cmpQ x y ≤ 0 := by unfold cmpQ; grind
theorem cmp_lt {x y : Rat} (h : x < y) : cmpQ x y < 0 := by unfold cmpQ; grind
theorem cmp_ge {x y : Rat} (h : y ≤ x) : 0 ≤ cmpQ x y := by unfold cmpQ; grind
theorem cmp_gt {x y : Rat} (h : y < x) : 0 < cmpQ x y := by unfold cmpQ; grind
theorem up_ge (a : Rat) {d : Nat} (hd : 1 ≤ d) : a ≤ upQ a d := by
  unfold upQ; have := downQ_le (-a) hd; grind
theorem up_lt (a : Rat) {d : Nat} (hd : 1 ≤ d) : upQ a d - ((1 : Int) : Rat) / ((d : Int) : Rat) < a := by
  unfold upQ; have := downQ_lt (-a) hd; grind
end Go.Proofs.YtiejgkmjaphbcaaDoor
