/- Joined texts. -/
import Derived.Test.YtoejojfjiikogaaGreatDoorRatQ

/- rat.whole, Down, Up, Floor (walks printed by ratround.py). -/
namespace Go.Proofs.YtoejojfjiikogaaGreatDoor
open Go.RowKit
set_option linter.unusedVariables false
set_option linter.unusedSimpArgs false

theorem Sz.div {k m : Nat} (h : Sz k m) (n : Nat) : Sz k (m / n) := h.le (Nat.div_le_self _ _)


theorem Rz.intQ {k : Nat} {z : Int} (h : Sz k z.natAbs) (hk : 1 ≤ k) : Rz k (z : Rat) := ⟨h, Sz.one.more hk⟩




end Go.Proofs.YtoejojfjiikogaaGreatDoor
