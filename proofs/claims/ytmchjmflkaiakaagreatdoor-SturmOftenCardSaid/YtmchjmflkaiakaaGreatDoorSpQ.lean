import Derived.Test.YtmchjmflkaiakaaGreatDoorRatT
/- Structs of numbers as values: vectors, spans, turns, frames. -/
namespace Go.Proofs.YtmchjmflkaiakaaGreatDoor
open Go.RowKit
set_option linter.unusedVariables false
set_option linter.unusedSimpArgs false
def VC (x y : Rat) : Array Value := #[.bool (decide (x.num < 0)), .string (S x.num.natAbs), .string (S x.den), .bool (decide (y.num < 0)), .string (S y.num.natAbs), .string (S y.den)]
theorem VC_one (x y : Rat) : ∀ u ∈ VC x y, u.oneCell' = true := by
 intro u hu
 simp only [VC, List.mem_toArray, List.mem_cons, List.not_mem_nil, or_false] at hu
 rcases hu with rfl | rfl | rfl | rfl | rfl | rfl <;> rfl
theorem min_self (x : Rat) : minQ x x = x := by unfold minQ; split <;> rfl
theorem Rz.lit {z : Int} {q : Rat} (h : (z : Rat) = q) (hz : z.natAbs < 65536) : Rz 2 q := by
 rw [← h]; exact Rz.intQ (bstr_length_le.2 (by omega)) (by omega)
section
variable {o : Oper} {a : Act} {X Y : Operand}
theorem bld_Span {x y : Rat} (ho : o.op = .build 32 #[(0, X), (1, Y)]) (hX : a.eval X = .agg (RC x)) (hY : a.eval Y = .agg (RC y)) (w : World) : (execOp a.eval o).run Tryz.prog w = .ok (.value (.agg (VC x y))) w := by
 unfold RC at hX hY
 unfold execOp VC
 simp only [ho, List.map_toArray, List.map_cons, List.map_nil, hX, hY]
 go_simp
end
theorem run_eqSp (op : BinOp) (x1 x2 : Rat) (y1 y2 : Rat) (X Y : Operand) (w : World) (b : Bool) (h : op = .eql ∧ decide (x1 = x2 ∧ y1 = y2) = b ∨ op = .neq ∧ (!decide (x1 = x2 ∧ y1 = y2)) = b) :
  ((do eqGuard op 32 X Y (.agg (VC x1 y1)) (.agg (VC x2 y2)); binOp op 32 (.agg (VC x1 y1)) (.agg (VC x2 y2)) : Sem Value)).run Tryz.prog w = .ok (.bool b) w := by
 obtain ⟨s_x1, a_x1, d_x1, h_x1⟩ := R_parts x1
 obtain ⟨s_x2, a_x2, d_x2, h_x2⟩ := R_parts x2
 obtain ⟨s_y1, a_y1, d_y1, h_y1⟩ := R_parts y1
 obtain ⟨s_y2, a_y2, d_y2, h_y2⟩ := R_parts y2
 have e1 : VC x1 y1 = #[.bool s_x1, .string a_x1, .string d_x1, .bool s_y1, .string a_y1, .string d_y1] := by unfold VC; rw [h_x1.s, h_x1.a, h_x1.d, h_y1.s, h_y1.a, h_y1.d]
 have e2 : VC x2 y2 = #[.bool s_x2, .string a_x2, .string d_x2, .bool s_y2, .string a_y2, .string d_y2] := by unfold VC; rw [h_x2.s, h_x2.a, h_x2.d, h_y2.s, h_y2.a, h_y2.d]
 rw [e1, e2]; clear e1 e2
 by_cases hc : x1 = x2 ∧ y1 = y2
 ·rw [decide_eq_true hc] at h
  obtain ⟨rfl, rfl⟩ := hc
  obtain ⟨rfl, rfl, rfl⟩ : s_x1 = s_x2 ∧ a_x1 = a_x2 ∧ d_x1 = d_x2 := ⟨h_x1.s.trans h_x2.s.symm, h_x1.a.trans h_x2.a.symm, h_x1.d.trans h_x2.d.symm⟩
  obtain ⟨rfl, rfl, rfl⟩ : s_y1 = s_y2 ∧ a_y1 = a_y2 ∧ d_y1 = d_y2 := ⟨h_y1.s.trans h_y2.s.symm, h_y1.a.trans h_y2.a.symm, h_y1.d.trans h_y2.d.symm⟩
  clear h_x1 h_x2 h_y1 h_y2
  rcases h with ⟨rfl, rfl⟩ | ⟨rfl, rfl⟩ <;> go_simp
 ·rw [decide_eq_false hc] at h
  have e : s_x1 = s_x2 → a_x1.toList = a_x2.toList → d_x1.toList = d_x2.toList → s_y1 = s_y2 → a_y1.toList = a_y2.toList → d_y1.toList = d_y2.toList → False := fun e1 e2 e3 e4 e5 e6 => hc ⟨RIs.injL h_x1 h_x2 e1 e2 e3, RIs.injL h_y1 h_y2 e4 e5 e6⟩
  clear hc h_x1 h_x2 h_y1 h_y2
  rcases h with ⟨rfl, rfl⟩ | ⟨rfl, rfl⟩
  ·go_simp; first | exact e | (intros; apply e <;> assumption) | (simp only [not_and]; exact e)
  ·go_simp; first | exact e | (intros; apply e <;> assumption) | (simp only [not_and]; exact e)
section
variable {ops : Array Oper} {W : World} {l : List Own} {Q : Exit → Act → World → Prop} {gs : List Nat} {k : Nat} {o : Oper} {rest : List Oper} {a : Act} {R : Reg}
theorem Seq.eqSp {x1 x2 : Rat} {y1 y2 : Rat} {X Y : Operand} {U : TypeId} {b : Bool} (ho : o.op = .binOp .eql 32 X Y U) (hk : kd gs k o = .val) (hw : wants ops o a = true) (hx : a.eval X = .agg (VC x1 y1)) (hy : a.eval Y = .agg (VC x2 y2))
  (hb : decide (x1 = x2 ∧ y1 = y2) = b) (h : Seq Tryz.prog ops Q W l gs (k + 1) rest (a.put o.dst (.bool b)) R) : Seq Tryz.prog ops Q W l gs k (o :: rest) a R :=
 Seq.pure hk hw (fun w => by
  unfold execOp
  simp only [ho, hx, hy, Sem.run_bind, run_eqSp .eql x1 x2 y1 y2 X Y w b (.inl ⟨rfl, hb⟩), Result.andThen_ok, Sem.run_pure]) h
end
def SL2 (x y : Rat) : Array Value := VC x y
theorem slc_2 {o : Oper} {a : Act} {X Y : Operand} {x y : Rat} (ho : o.op = .buildSlice 55 2 #[(0, X), (1, Y)]) (hX : a.eval X = .agg (RC x)) (hY : a.eval Y = .agg (RC y)) (w : World) :
  (execOp a.eval o).run Tryz.prog w = .ok (.value (.slice (some ⟨w.heap.size, 0, none⟩) 2 2)) (w.alloc (.cells (SL2 x y) 27)) := by
 unfold RC at hX hY
 unfold execOp SL2 VC
 simp only [ho, List.map_toArray, List.map_cons, List.map_nil, hX, hY]
 go_simp
end Go.Proofs.YtmchjmflkaiakaaGreatDoor
