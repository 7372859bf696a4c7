/- Joined texts: RatQ RatR RatS RatT. -/
import Derived.Test.YtekbpiooecdopaaDoorBunRatB
import Derived.Test.YtekbpiooecdopaaDoorBunSeq
/- What the functions of rational numbers promise, in one spelling; laws of order. -/
namespace Go.Proofs.YtekbpiooecdopaaDoor
open Go.RowKit
set_option linter.unusedVariables false
set_option linter.unusedSimpArgs false

theorem RC_one (q : Rat) : ∀ u ∈ RC q, u.oneCell' = true := by
  intro u hu
  simp only [RC, List.mem_toArray, List.mem_cons, List.not_mem_nil, or_false] at hu
  rcases hu with rfl | rfl | rfl <;> rfl
theorem RIs.rc {q : Rat} {s : Bool} {a d : ByteArray} (h : RIs q s a d) : #[Value.bool s, .string a, .string d] = RC q := by rw [h.s, h.a, h.d]; rfl
section
variable {W : World} {l : List Own} (hT : Tab W)
include hT
theorem tabS {w : World} (h : St W l w) : Tab w := hT.next h.below
end

/-! ### equality of two numbers -/
section
variable {ops : Array Oper} {W : World} {l : List Own} {Q : Exit → Act → World → Prop} {gs : List Nat} {k : Nat} {o : Oper} {rest : List Oper} {a : Act} {R : Reg}
end
theorem Rz.intQ {k : Nat} {z : Int} (h : Sz k z.natAbs) (hk : 1 ≤ k) : Rz k (z : Rat) := ⟨h, Sz.one.more hk⟩




def six (m : Nat) : Nat := [1, 2, 3, 4, 5, 8].getD m 1

section
variable {W : World} {l : List Own}
end
end Go.Proofs.YtekbpiooecdopaaDoor
