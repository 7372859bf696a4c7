/- Joined texts. -/
import Derived.Test.YtoejojfjiikogaaDoorBunRatB
import Derived.Test.YtoejojfjiikogaaDoorBunSeq

/- What the functions of rational numbers promise, in one spelling; laws of order. -/
namespace Go.Proofs.YtoejojfjiikogaaDoor
open Go.RowKit
set_option linter.unusedVariables false
set_option linter.unusedSimpArgs false

theorem RC_one (q : Rat) : ∀ u ∈ RC q, u.oneCell' = true := by
  intro u hu
  simp only [RC, List.mem_toArray, List.mem_cons, List.not_mem_nil, or_false] at hu
  rcases hu with rfl | rfl | rfl <;> rfl
theorem RIs.rc {q : Rat} {s : Bool} {a d : ByteArray} (h : RIs q s a d) : #[Value.bool s, .string a, .string d] = RC q := by rw [h.s, h.a, h.d]; rfl
section
variable {W : World} {l : List Own} (hT : Tab W)
include hT
theorem tabS {w : World} (h : St W l w) : Tab w := hT.next h.below
theorem add_q {k : Nat} {x y z : Rat} (hx : Rz k x) (hy : Rz k y) (hz : x + y = z) (hk : k ≤ 4398046511104) (w : World) (h : St W l w) :
    Calls Tryd.prog 34 #[.agg (RC x), .agg (RC y)] w fun e w' => e = .returned (.agg (RC z)) ∧ Below w.heap.size w w' := by
  rw [← hz]; exact add_R k x y w hx hy (by omega) (tabS hT h)
theorem sub_q {k : Nat} {x y z : Rat} (hx : Rz k x) (hy : Rz k y) (hz : x - y = z) (hk : k ≤ 4398046511104) (w : World) (h : St W l w) :
    Calls Tryd.prog 33 #[.agg (RC x), .agg (RC y)] w fun e w' => e = .returned (.agg (RC z)) ∧ Below w.heap.size w w' := by
  rw [← hz]; exact sub_R k x y w hx hy (by omega) (tabS hT h)
theorem mul_q {k : Nat} {x y z : Rat} (hx : Rz k x) (hy : Rz k y) (hz : x * y = z) (hk : k ≤ 4398046511104) (w : World) (h : St W l w) :
    Calls Tryd.prog 87 #[.agg (RC x), .agg (RC y)] w fun e w' => e = .returned (.agg (RC z)) ∧ Below w.heap.size w w' := by
  rw [← hz]; exact mul_R k x y w hx hy (by omega) (tabS hT h)
theorem neg_q {k : Nat} {x z : Rat} (hx : Rz k x) (hz : -x = z) (hk : k ≤ 4398046511104) (w : World) (h : St W l w) :
    Calls Tryd.prog 43 #[.agg (RC x)] w fun e w' => e = .returned (.agg (RC z)) ∧ Below w.heap.size w w' := by
  rw [← hz]; exact neg_R k x w hx (by omega) (tabS hT h)
theorem min_q {k : Nat} {x y z : Rat} (hx : Rz k x) (hy : Rz k y) (hz : minQ x y = z) (hk : k ≤ 4398046511104) (w : World) (h : St W l w) :
    Calls Tryd.prog 110 #[.agg (RC x), .agg (RC y)] w fun e w' => e = .returned (.agg (RC z)) ∧ Below w.heap.size w w' := by
  rw [← hz]; exact min_R k x y w hx hy (by omega) (tabS hT h)
theorem max_q {k : Nat} {x y z : Rat} (hx : Rz k x) (hy : Rz k y) (hz : maxQ x y = z) (hk : k ≤ 4398046511104) (w : World) (h : St W l w) :
    Calls Tryd.prog 38 #[.agg (RC x), .agg (RC y)] w fun e w' => e = .returned (.agg (RC z)) ∧ Below w.heap.size w w' := by
  rw [← hz]; exact max_R k x y w hx hy (by omega) (tabS hT h)
theorem sign_q {k : Nat} {x : Rat} {v : Int} (hx : Rz k x) (hv : sgnQ x = v) (hk : k ≤ 4398046511104) (w : World) (h : St W l w) :
    Calls Tryd.prog 47 #[.agg (RC x)] w fun e w' => e = .returned (.int .i64 v) ∧ Below w.heap.size w w' := by
  rw [← hv]; exact sign_R k x w hx (by omega) (tabS hT h)
theorem cmp_q {k : Nat} {x y : Rat} {v : Int} (hx : Rz k x) (hy : Rz k y) (hv : cmpQ x y = v) (hk : k ≤ 4398046511104) (w : World) (h : St W l w) :
    Calls Tryd.prog 9 #[.agg (RC x), .agg (RC y)] w fun e w' => e = .returned (.int .i64 v) ∧ Below w.heap.size w w' := by
  rw [← hv]; exact cmp_R k x y w hx hy (by omega) (tabS hT h)
theorem div_q {k : Nat} {x y z : Rat} (hx : Rz k x) (hy : Rz k y) (h0 : y ≠ 0) (hz : x / y = z) (hk : k ≤ 4398046511104) (w : World) (h : St W l w) :
    Calls Tryd.prog 88 #[.agg (RC x), .agg (RC y)] w fun e w' => e = .returned (.tuple #[.agg (RC z), .int .i64 0]) ∧ Below w.heap.size w w' := by
  rw [← hz]; exact div_R k x y w hx hy h0 (by omega) (tabS hT h)
end

/-! ### equality of two numbers -/
section
variable {ops : Array Oper} {W : World} {l : List Own} {Q : Exit → Act → World → Prop} {gs : List Nat} {k : Nat} {o : Oper} {rest : List Oper} {a : Act} {R : Reg}
end
end Go.Proofs.YtoejojfjiikogaaDoor
