import Derived.Test.YtmchjmflkaiakaaGreatDoorRatT
/- Structs of numbers as values: vectors, spans, turns, frames. -/
namespace Go.Proofs.YtmchjmflkaiakaaGreatDoor
open Go.RowKit
set_option linter.unusedVariables false
set_option linter.unusedSimpArgs false
def VC (x y : Rat) : Array Value := #[.bool (decide (x.num < 0)), .string (S x.num.natAbs), .string (S x.den), .bool (decide (y.num < 0)), .string (S y.num.natAbs), .string (S y.den)]
def TC (h : Bool) (t : Rat) : Array Value := #[.bool h, .bool (decide (t.num < 0)), .string (S t.num.natAbs), .string (S t.den)]
def FC (x y : Rat) (h : Bool) (t : Rat) : Array Value := #[.bool (decide (x.num < 0)), .string (S x.num.natAbs), .string (S x.den), .bool (decide (y.num < 0)), .string (S y.num.natAbs), .string (S y.den), .bool h, .bool (decide (t.num < 0)), .string (S t.num.natAbs), .string (S t.den)]
def BC (x y z u : Rat) : Array Value := #[.bool (decide (x.num < 0)), .string (S x.num.natAbs), .string (S x.den), .bool (decide (y.num < 0)), .string (S y.num.natAbs), .string (S y.den), .bool (decide (z.num < 0)), .string (S z.num.natAbs), .string (S z.den), .bool (decide (u.num < 0)), .string (S u.num.natAbs), .string (S u.den)]
theorem VC_one (x y : Rat) : ∀ u ∈ VC x y, u.oneCell' = true := by
 intro u hu
 simp only [VC, List.mem_toArray, List.mem_cons, List.not_mem_nil, or_false] at hu
 rcases hu with rfl | rfl | rfl | rfl | rfl | rfl <;> rfl
theorem TC_one (h : Bool) (t : Rat) : ∀ u ∈ TC h t, u.oneCell' = true := by
 intro u hu
 simp only [TC, List.mem_toArray, List.mem_cons, List.not_mem_nil, or_false] at hu
 rcases hu with rfl | rfl | rfl | rfl <;> rfl
theorem BC_one (x y z v : Rat) : ∀ u ∈ BC x y z v, u.oneCell' = true := by
 intro u hu
 simp only [BC, List.mem_toArray, List.mem_cons, List.not_mem_nil, or_false] at hu
 rcases hu with rfl | rfl | rfl | rfl | rfl | rfl | rfl | rfl | rfl | rfl | rfl | rfl <;> rfl
theorem min_self (x : Rat) : minQ x x = x := by unfold minQ; split <;> rfl
theorem Rz.lit {z : Int} {q : Rat} (h : (z : Rat) = q) (hz : z.natAbs < 65536) : Rz 2 q := by
 rw [← h]; exact Rz.intQ (bstr_length_le.2 (by omega)) (by omega)
section
variable {o : Oper} {a : Act} {X Y : Operand}
theorem bld_Vec {x y : Rat} (ho : o.op = .build 29 #[(0, X), (1, Y)]) (hX : a.eval X = .agg (RC x)) (hY : a.eval Y = .agg (RC y)) (w : World) : (execOp a.eval o).run Tryz.prog w = .ok (.value (.agg (VC x y))) w := by
 unfold RC at hX hY
 unfold execOp VC
 simp only [ho, List.map_toArray, List.map_cons, List.map_nil, hX, hY]
 go_simp
theorem bld_Span {x y : Rat} (ho : o.op = .build 32 #[(0, X), (1, Y)]) (hX : a.eval X = .agg (RC x)) (hY : a.eval Y = .agg (RC y)) (w : World) : (execOp a.eval o).run Tryz.prog w = .ok (.value (.agg (VC x y))) w := by
 unfold RC at hX hY
 unfold execOp VC
 simp only [ho, List.map_toArray, List.map_cons, List.map_nil, hX, hY]
 go_simp
theorem bld_Turn1 {y : Rat} (ho : o.op = .build 46 #[(1, Y)]) (hY : a.eval Y = .agg (RC y)) (w : World) : (execOp a.eval o).run Tryz.prog w = .ok (.value (.agg (TC false y))) w := by
 unfold RC at hY
 unfold execOp TC
 simp only [ho, List.map_toArray, List.map_cons, List.map_nil, hY]
 go_simp
end
section
variable {ops : Array Oper} {W : World} {l : List Own} {Q : Exit → Act → World → Prop} {gs : List Nat} {k : Nat} {o : Oper} {rest : List Oper} {a : Act} {R : Reg}
end
end Go.Proofs.YtmchjmflkaiakaaGreatDoor
