/- Joined texts. -/
import Derived.Test.YtoejojfjiikogaaGreatDoorBunRatB
import Derived.Test.YtoejojfjiikogaaGreatDoorBunSeq

/- What the functions of rational numbers promise, in one spelling; laws of order. -/
namespace Go.Proofs.YtoejojfjiikogaaGreatDoor
open Go.RowKit
set_option linter.unusedVariables false
set_option linter.unusedSimpArgs false

theorem RC_one (q : Rat) : ∀ u ∈ RC q, u.oneCell' = true := by
  intro u hu
  simp only [RC, List.mem_toArray, List.mem_cons, List.not_mem_nil, or_false] at hu
  rcases hu with rfl | rfl | rfl <;> rfl
theorem RIs.rc {q : Rat} {s : Bool} {a d : ByteArray} (h : RIs q s a d) : #[Value.bool s, .string a, .string d] = RC q := by rw [h.s, h.a, h.d]; rfl
section
variable {W : World} {l : List Own} (hT : Tab W)
include hT
theorem tabS {w : World} (h : St W l w) : Tab w := hT.next h.below
theorem add_q {k : Nat} {x y z : Rat} (hx : Rz k x) (hy : Rz k y) (hz : x + y = z) (hk : k ≤ 4398046511104) (w : World) (h : St W l w) :
    Calls Tryz.prog 41 #[.agg (RC x), .agg (RC y)] w fun e w' => e = .returned (.agg (RC z)) ∧ Below w.heap.size w w' := by
  rw [← hz]; exact add_R k x y w hx hy (by omega) (tabS hT h)
theorem sub_q {k : Nat} {x y z : Rat} (hx : Rz k x) (hy : Rz k y) (hz : x - y = z) (hk : k ≤ 4398046511104) (w : World) (h : St W l w) :
    Calls Tryz.prog 43 #[.agg (RC x), .agg (RC y)] w fun e w' => e = .returned (.agg (RC z)) ∧ Below w.heap.size w w' := by
  rw [← hz]; exact sub_R k x y w hx hy (by omega) (tabS hT h)
theorem mul_q {k : Nat} {x y z : Rat} (hx : Rz k x) (hy : Rz k y) (hz : x * y = z) (hk : k ≤ 4398046511104) (w : World) (h : St W l w) :
    Calls Tryz.prog 42 #[.agg (RC x), .agg (RC y)] w fun e w' => e = .returned (.agg (RC z)) ∧ Below w.heap.size w w' := by
  rw [← hz]; exact mul_R k x y w hx hy (by omega) (tabS hT h)
theorem min_q {k : Nat} {x y z : Rat} (hx : Rz k x) (hy : Rz k y) (hz : minQ x y = z) (hk : k ≤ 4398046511104) (w : World) (h : St W l w) :
    Calls Tryz.prog 64 #[.agg (RC x), .agg (RC y)] w fun e w' => e = .returned (.agg (RC z)) ∧ Below w.heap.size w w' := by
  rw [← hz]; exact min_R k x y w hx hy (by omega) (tabS hT h)
theorem sign_q {k : Nat} {x : Rat} {v : Int} (hx : Rz k x) (hv : sgnQ x = v) (hk : k ≤ 4398046511104) (w : World) (h : St W l w) :
    Calls Tryz.prog 94 #[.agg (RC x)] w fun e w' => e = .returned (.int .i64 v) ∧ Below w.heap.size w w' := by
  rw [← hv]; exact sign_R k x w hx (by omega) (tabS hT h)
theorem cmp_q {k : Nat} {x y : Rat} {v : Int} (hx : Rz k x) (hy : Rz k y) (hv : cmpQ x y = v) (hk : k ≤ 4398046511104) (w : World) (h : St W l w) :
    Calls Tryz.prog 36 #[.agg (RC x), .agg (RC y)] w fun e w' => e = .returned (.int .i64 v) ∧ Below w.heap.size w w' := by
  rw [← hv]; exact cmp_R k x y w hx hy (by omega) (tabS hT h)
theorem div_q {k : Nat} {x y z : Rat} (hx : Rz k x) (hy : Rz k y) (h0 : y ≠ 0) (hz : x / y = z) (hk : k ≤ 4398046511104) (w : World) (h : St W l w) :
    Calls Tryz.prog 95 #[.agg (RC x), .agg (RC y)] w fun e w' => e = .returned (.tuple #[.agg (RC z), .int .i64 0]) ∧ Below w.heap.size w w' := by
  rw [← hz]; exact div_R k x y w hx hy h0 (by omega) (tabS hT h)
end

/-! ### equality of two numbers -/
theorem run_eqR (op : BinOp) (x y : Rat) (X Y : Operand) (w : World) (b : Bool) (h : op = .eql ∧ decide (x = y) = b ∨ op = .neq ∧ (!decide (x = y)) = b) :
    ((do eqGuard op 24 X Y (.agg (RC x)) (.agg (RC y)); binOp op 24 (.agg (RC x)) (.agg (RC y)) : Sem Value)).run Tryz.prog w = .ok (.bool b) w := by
  obtain ⟨s1, a1, d1, h1⟩ := R_parts x
  obtain ⟨s2, a2, d2, h2⟩ := R_parts y
  rw [← h1.rc, ← h2.rc]
  by_cases hxy : x = y
  · have e : s1 = s2 ∧ a1 = a2 ∧ d1 = d2 := by subst hxy; exact ⟨h1.s.trans h2.s.symm, h1.a.trans h2.a.symm, h1.d.trans h2.d.symm⟩
    obtain ⟨rfl, rfl, rfl⟩ := e
    rw [decide_eq_true hxy] at h
    clear hxy h1 h2
    rcases h with ⟨rfl, rfl⟩ | ⟨rfl, rfl⟩ <;> go_simp
  · have e : s1 = s2 → a1.toList = a2.toList → d1.toList = d2.toList → False := fun e1 e2 e3 => hxy (RIs.injL h1 h2 e1 e2 e3)
    rw [decide_eq_false hxy] at h
    clear hxy h1 h2
    rcases h with ⟨rfl, rfl⟩ | ⟨rfl, rfl⟩
    · go_simp; exact e
    · go_simp; exact e
section
variable {ops : Array Oper} {W : World} {l : List Own} {Q : Exit → Act → World → Prop} {gs : List Nat} {k : Nat} {o : Oper} {rest : List Oper} {a : Act} {R : Reg}
theorem Seq.eqR {x y : Rat} {X Y : Operand} {U : TypeId} {b : Bool} (ho : o.op = .binOp .eql 24 X Y U) (hk : kd gs k o = .val) (hw : wants ops o a = true) (hx : a.eval X = .agg (RC x)) (hy : a.eval Y = .agg (RC y))
    (hb : decide (x = y) = b) (h : Seq Tryz.prog ops Q W l gs (k + 1) rest (a.put o.dst (.bool b)) R) : Seq Tryz.prog ops Q W l gs k (o :: rest) a R :=
  Seq.pure hk hw (fun w => by
    unfold execOp
    simp only [ho, hx, hy, Sem.run_bind, run_eqR .eql x y X Y w b (.inl ⟨rfl, hb⟩), Result.andThen_ok, Sem.run_pure]) h
end
end Go.Proofs.YtoejojfjiikogaaGreatDoor
