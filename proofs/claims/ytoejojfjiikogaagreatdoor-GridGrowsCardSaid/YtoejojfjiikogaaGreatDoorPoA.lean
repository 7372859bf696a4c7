/- Joined texts. -/
import Derived.Test.YtoejojfjiikogaaGreatDoorPoL

/- Plain laws of polygons that are apart. -/
namespace Go.Proofs.YtoejojfjiikogaaGreatDoor
open Go.RowKit
set_option linter.unusedVariables false
set_option linter.unusedSimpArgs false

/-! ### polygons beyond each other -/
theorem sgn_le {a : Rat} : sgnQ a ≤ 0 ↔ a ≤ 0 := by unfold sgnQ cmpQ; split <;> (try split) <;> grind
theorem cmp_le_iff {a b : Rat} : 0 ≤ cmpQ a b ↔ b ≤ a := by unfold cmpQ; split <;> (try split) <;> grind
/-- the dot product of the normal of side i of a with the way from its corner to corner j of b -/
def dt (a b : Pts) (i j : Nat) : Rat := (py a ((i + 1) % a.length) - py a i) * (px b j - px a i) + (-(px a ((i + 1) % a.length) - px a i)) * (py b j - py a i)
def sepB (a b : Pts) (i : Nat) : Bool := (List.range b.length).all fun j => decide (0 < dt a b i j)
def bydB (a b : Pts) : Bool := (List.range a.length).any fun i => sepB a b i
def meetB (a b : Pts) : Bool := !bydB a b && !bydB b a
/-- the square of the distance of a point from a segment -/
def teQ (x y ax ay bx by_ : Rat) : Rat :=
  if (x - ax) * (bx - ax) + (y - ay) * (by_ - ay) ≤ 0 then (x - ax) * (x - ax) + (y - ay) * (y - ay)
  else if (bx - ax) * (bx - ax) + (by_ - ay) * (by_ - ay) ≤ (x - ax) * (bx - ax) + (y - ay) * (by_ - ay) then (x - bx) * (x - bx) + (y - by_) * (y - by_)
  else (((bx - ax) * (y - ay) - (by_ - ay) * (x - ax)) * ((bx - ax) * (y - ay) - (by_ - ay) * (x - ax))) / ((bx - ax) * (bx - ax) + (by_ - ay) * (by_ - ay))
/-! ### the distance -/
def nearF (x y : Rat) (b : Pts) : Nat → Rat
  | 0 => teQ x y (px b 0) (py b 0) (px b 1) (py b 1)
  | j + 1 => minQ (nearF x y b j) (teQ x y (px b j) (py b j) (px b ((j + 1) % b.length)) (py b ((j + 1) % b.length)))
def nearQ (x y : Rat) (b : Pts) : Rat := nearF x y b b.length
def sqA (a b : Pts) : Nat → Rat
  | 0 => nearQ (px a 0) (py a 0) b
  | i + 1 => minQ (sqA a b i) (nearQ (px a i) (py a i) b)
def sqB (a b : Pts) (v : Rat) : Nat → Rat
  | 0 => v
  | j + 1 => minQ (sqB a b v j) (nearQ (px b j) (py b j) a)
def sqQ (a b : Pts) : Rat := if meetB a b = true then 0 else sqB a b (sqA a b a.length) b.length
theorem sq_zero {a b : Pts} (hm : meetB a b = true) : sqQ a b = 0 := if_pos hm
/-! ### seen from another frame -/
section
variable {c s tx ty : Rat} (h : c * c + s * s = 1)
include h
end
end Go.Proofs.YtoejojfjiikogaaGreatDoor
