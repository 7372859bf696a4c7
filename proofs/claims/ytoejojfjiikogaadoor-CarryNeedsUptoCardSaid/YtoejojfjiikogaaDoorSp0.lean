/- Joined texts. -/
import Derived.Test.YtoejojfjiikogaaDoorSpQ

/- Turns: what the functions compute, and how large it is. -/
namespace Go.Proofs.YtoejojfjiikogaaDoor
open Go.RowKit
set_option linter.unusedVariables false
set_option linter.unusedSimpArgs false

def cosT (h : Bool) (t : Rat) : Rat := if h = true then -1 else (1 - t * t) / (1 + t * t)
def sinT (t : Rat) : Rat := (t + t) / (1 + t * t)
theorem sq_nonneg (t : Rat) : 0 ≤ t * t := by
  rcases rat_tri t 0 with h | h | h
  · have := mul_lt_r (show 0 < -t by grind) (show 0 < -t by grind); grind
  · subst h; grind
  · have := mul_lt_r h h; grind
theorem one_sq (t : Rat) : (1 : Rat) + t * t ≠ 0 := by have := sq_nonneg t; grind
theorem Rz.one2 : Rz 2 (1 : Rat) := Rz.lit (z := 1) rfl (by decide)
theorem Rz.neg1 : Rz 2 (-1 : Rat) := Rz.lit (z := -1) rfl (by decide)
theorem Rz.zero2 : Rz 2 (0 : Rat) := Rz.lit (z := 0) rfl (by decide)
theorem Rz.cosT {k : Nat} {t : Rat} (h : Bool) (ht : Rz k t) : Rz (8 * k + 10) (cosT h t) := by
  unfold Go.Proofs.YtoejojfjiikogaaDoor.cosT
  split
  · exact Rz.neg1.more (by omega)
  · exact ((Rz.one2.sub (ht.mul ht)).div (Rz.one2.add (ht.mul ht)) (one_sq t)).more (by omega)
theorem Rz.sinT {k : Nat} {t : Rat} (ht : Rz k t) : Rz (8 * k + 10) (sinT t) := by
  unfold Go.Proofs.YtoejojfjiikogaaDoor.sinT
  exact ((ht.add ht).div (Rz.one2.add (ht.mul ht)) (one_sq t)).more (by omega)
end Go.Proofs.YtoejojfjiikogaaDoor
