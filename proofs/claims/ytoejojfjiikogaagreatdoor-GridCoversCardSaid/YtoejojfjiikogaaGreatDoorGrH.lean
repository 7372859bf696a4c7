/- Cells: slices.BinarySearchFunc, grid.has (printed by gridp.py). -/
import Derived.Test.YtoejojfjiikogaaGreatDoorGrB
import Derived.Test.YtoejojfjiikogaaGreatDoorBunSeq

namespace Go.Proofs.YtoejojfjiikogaaGreatDoor
open Go.RowKit
set_option linter.unusedVariables false
set_option linter.unusedSimpArgs false

section
variable {P : Program} {ops : Array Oper} {W : World} {l : List Own} {Q : Exit → Act → World → Prop} {gs : List Nat} {k : Nat} {o : Oper} {rest : List Oper} {a : Act} {R : Reg}
end
theorem cmpF_neg (f c : Ft) : decide (cmpF f c < 0) = decide (FLt f c) := by
  rcases cmpF_cases f c with ⟨h, e⟩ | ⟨h, e⟩ | ⟨h, e⟩
  · rw [e]; simp [h]
  · subst h; rw [e]; simp [flt_irrefl]
  · rw [e]; simp only [show ¬ ((1 : Int) < 0) by omega, decide_false]
    exact (decide_eq_false fun h2 => flt_irrefl f (flt_trans h2 h)).symm
theorem asc_at {xs : List Ft} (hx : Asc xs) {s t : Nat} {f g : Ft} (hs : xs[s]? = some f) (ht : xs[t]? = some g) (h : s < t) : FLt f g := by
  obtain ⟨h1, e1⟩ := List.getElem?_eq_some_iff.1 hs
  obtain ⟨h2, e2⟩ := List.getElem?_eq_some_iff.1 ht
  have := List.pairwise_iff_getElem.1 hx s t h1 h2 h
  rwa [e1, e2] at this
end Go.Proofs.YtoejojfjiikogaaGreatDoor
