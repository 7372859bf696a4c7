/- Spans and poses that came in; poses as values. -/
import Derived.Test.YtoejojfjiikogaaDoorRwC
import Derived.Test.YtoejojfjiikogaaDoorSpL
import Derived.LoopN

namespace Go.Proofs.YtoejojfjiikogaaDoor
universe u
open Go.RowKit
set_option linter.unusedVariables false
set_option linter.unusedSimpArgs false

theorem St.f1 {W w : World} {x0 a : Own} {l : List Own} (h : St W (x0 :: a :: l) w) : St W (a :: x0 :: l) w := St.perm h (List.perm_middle (l₁ := [x0]))
theorem St.f2 {W w : World} {x0 x1 a : Own} {l : List Own} (h : St W (x0 :: x1 :: a :: l) w) : St W (a :: x0 :: x1 :: l) w := St.perm h (List.perm_middle (l₁ := [x0, x1]))
theorem St.f3 {W w : World} {x0 x1 x2 a : Own} {l : List Own} (h : St W (x0 :: x1 :: x2 :: a :: l) w) : St W (a :: x0 :: x1 :: x2 :: l) w := St.perm h (List.perm_middle (l₁ := [x0, x1, x2]))
theorem St.f4 {W w : World} {x0 x1 x2 x3 a : Own} {l : List Own} (h : St W (x0 :: x1 :: x2 :: x3 :: a :: l) w) : St W (a :: x0 :: x1 :: x2 :: x3 :: l) w := St.perm h (List.perm_middle (l₁ := [x0, x1, x2, x3]))
theorem St.f5 {W w : World} {x0 x1 x2 x3 x4 a : Own} {l : List Own} (h : St W (x0 :: x1 :: x2 :: x3 :: x4 :: a :: l) w) : St W (a :: x0 :: x1 :: x2 :: x3 :: x4 :: l) w := St.perm h (List.perm_middle (l₁ := [x0, x1, x2, x3, x4]))
theorem St.f6 {W w : World} {x0 x1 x2 x3 x4 x5 a : Own} {l : List Own} (h : St W (x0 :: x1 :: x2 :: x3 :: x4 :: x5 :: a :: l) w) : St W (a :: x0 :: x1 :: x2 :: x3 :: x4 :: x5 :: l) w := St.perm h (List.perm_middle (l₁ := [x0, x1, x2, x3, x4, x5]))
theorem St.f7 {W w : World} {x0 x1 x2 x3 x4 x5 x6 a : Own} {l : List Own} (h : St W (x0 :: x1 :: x2 :: x3 :: x4 :: x5 :: x6 :: a :: l) w) : St W (a :: x0 :: x1 :: x2 :: x3 :: x4 :: x5 :: x6 :: l) w := St.perm h (List.perm_middle (l₁ := [x0, x1, x2, x3, x4, x5, x6]))
theorem St.f8 {W w : World} {x0 x1 x2 x3 x4 x5 x6 x7 a : Own} {l : List Own} (h : St W (x0 :: x1 :: x2 :: x3 :: x4 :: x5 :: x6 :: x7 :: a :: l) w) : St W (a :: x0 :: x1 :: x2 :: x3 :: x4 :: x5 :: x6 :: x7 :: l) w := St.perm h (List.perm_middle (l₁ := [x0, x1, x2, x3, x4, x5, x6, x7]))
theorem St.f9 {W w : World} {x0 x1 x2 x3 x4 x5 x6 x7 x8 a : Own} {l : List Own} (h : St W (x0 :: x1 :: x2 :: x3 :: x4 :: x5 :: x6 :: x7 :: x8 :: a :: l) w) : St W (a :: x0 :: x1 :: x2 :: x3 :: x4 :: x5 :: x6 :: x7 :: x8 :: l) w := St.perm h (List.perm_middle (l₁ := [x0, x1, x2, x3, x4, x5, x6, x7, x8]))
theorem St.f10 {W w : World} {x0 x1 x2 x3 x4 x5 x6 x7 x8 x9 a : Own} {l : List Own} (h : St W (x0 :: x1 :: x2 :: x3 :: x4 :: x5 :: x6 :: x7 :: x8 :: x9 :: a :: l) w) : St W (a :: x0 :: x1 :: x2 :: x3 :: x4 :: x5 :: x6 :: x7 :: x8 :: x9 :: l) w := St.perm h (List.perm_middle (l₁ := [x0, x1, x2, x3, x4, x5, x6, x7, x8, x9]))
/-- two, three, six numbers, cell by cell -/
def SW (a b : RT) : Array Value := #[.bool a.s, .string a.a, .string a.d, .bool b.s, .string b.a, .string b.d]
def PW (a b c d e f : RT) : Array Value := #[.bool a.s, .string a.a, .string a.d, .bool b.s, .string b.a, .string b.d, .bool c.s, .string c.a, .string c.d, .bool d.s, .string d.a, .string d.d, .bool e.s, .string e.a, .string e.d, .bool f.s, .string f.a, .string f.d]
/-- a frame: where it is, whether it is the half turn, the joint value -/
def FW (x y : RT) (h : Bool) (t : RT) : Array Value := #[.bool x.s, .string x.a, .string x.d, .bool y.s, .string y.a, .string y.d, .bool h, .bool t.s, .string t.a, .string t.d]
theorem RT_one (t : RT) : ∀ u ∈ RT.c t, u.oneCell' = true := by
  intro u hu
  simp only [RT.c, List.mem_toArray, List.mem_cons, List.not_mem_nil, or_false] at hu
  rcases hu with rfl | rfl | rfl <;> rfl
theorem SW_one (a b : RT) : ∀ u ∈ SW a b, u.oneCell' = true := by
  intro u hu
  simp only [SW, List.mem_toArray, List.mem_cons, List.not_mem_nil, or_false] at hu
  rcases hu with rfl | rfl | rfl | rfl | rfl | rfl <;> rfl
theorem PW_one (a b c d e f : RT) : ∀ u ∈ PW a b c d e f, u.oneCell' = true := by
  intro u hu
  simp only [PW, List.mem_toArray, List.mem_cons, List.not_mem_nil, or_false] at hu
  rcases hu with rfl | rfl | rfl | rfl | rfl | rfl | rfl | rfl | rfl | rfl | rfl | rfl | rfl | rfl | rfl | rfl | rfl | rfl <;> rfl
/-- the cells of a zero value -/
def rz0 : RT := ⟨false, ⟨#[]⟩, ⟨#[]⟩⟩
/-- two numbers that came in stand for the span from lo to hi (0 and 0 where it is not good); g: whether it is good -/
structure RawS (k : Nat) (lo hi : Rat) (g : Bool) (a b : RT) : Prop where
  parts : ∃ x gx y gy, RawT k x gx a ∧ RawT k y gy b ∧ (gx && gy && decide (cmpQ x y ≤ 0)) = g ∧ (g = true → x = lo ∧ y = hi)
  no : g = false → lo = 0 ∧ hi = 0
theorem RawS.any {k : Nat} {x y : Rat} {gx gy : Bool} {a b : RT} (ha : RawT k x gx a) (hb : RawT k y gy b) : ∃ lo hi g, RawS k lo hi g a b := by
  cases hg : (gx && gy && decide (cmpQ x y ≤ 0)) with
  | true => exact ⟨x, y, true, ⟨x, gx, y, gy, ha, hb, hg, fun _ => ⟨rfl, rfl⟩⟩, fun h => by cases h⟩
  | false => exact ⟨0, 0, false, ⟨x, gx, y, gy, ha, hb, hg, fun h => by cases h⟩, fun _ => ⟨rfl, rfl⟩⟩
section
variable {k l : Nat} {lo hi : Rat} {g : Bool} {a b : RT}
theorem RawS.more (h : RawS k lo hi g a b) (hk : k ≤ l) : RawS l lo hi g a b := by
  obtain ⟨x, gx, y, gy, ha, hb, e1, e2⟩ := h.parts
  exact ⟨⟨x, gx, y, gy, ha.more hk, hb.more hk, e1, e2⟩, h.no⟩
theorem RawS.yes (h : RawS k lo hi true a b) : a = rt lo ∧ b = rt hi ∧ lo ≤ hi := by
  obtain ⟨x, gx, y, gy, ha, hb, e1, e2⟩ := h.parts
  obtain ⟨rfl, rfl⟩ := e2 rfl
  simp only [Bool.and_eq_true, decide_eq_true_eq] at e1
  obtain ⟨⟨rfl, rfl⟩, e3⟩ := e1
  refine ⟨ha.good, hb.good, ?_⟩
  unfold cmpQ at e3
  grind
theorem RawS.le (h : RawS k lo hi g a b) : lo ≤ hi := by
  cases g with
  | true => exact h.yes.2.2
  | false => obtain ⟨rfl, rfl⟩ := h.no rfl; exact Rat.le_refl
theorem RawS.rz (h : RawS k lo hi g a b) (hk : 2 ≤ k) : Rz k lo ∧ Rz k hi := by
  cases g with
  | true =>
    obtain ⟨x, gx, y, gy, ha, hb, e1, e2⟩ := h.parts
    obtain ⟨rfl, rfl⟩ := e2 rfl
    exact ⟨ha.rz, hb.rz⟩
  | false => obtain ⟨rfl, rfl⟩ := h.no rfl; exact ⟨Rz.zero.more (by omega), Rz.zero.more (by omega)⟩
theorem RawS.of (h : lo ≤ hi) (h1 : Rz k lo) (h2 : Rz k hi) : RawS k lo hi true (rt lo) (rt hi) :=
  ⟨⟨lo, true, hi, true, RawT.rc h1, RawT.rc h2, by simp; unfold cmpQ; grind, fun _ => ⟨rfl, rfl⟩⟩, fun h => by cases h⟩
end
section
variable {o : Oper} {c : Act} {X Y Z : Operand}
theorem bld_RSpan {x y : RT} (ho : o.op = .build 37 #[(0, X), (1, Y)]) (hX : c.eval X = .agg (RT.c x)) (hY : c.eval Y = .agg (RT.c y)) (w : World) : (execOp c.eval o).run Tryd.prog w = .ok (.value (.agg (SW x y))) w := by
  unfold RT.c at hX hY
  unfold execOp SW
  simp only [ho, List.map_toArray, List.map_cons, List.map_nil, hX, hY]
  go_simp
theorem bld_Pose {x y z u v t : RT} (ho : o.op = .build 27 #[(0, X), (1, Y), (2, Z)]) (hX : c.eval X = .agg (SW x y)) (hY : c.eval Y = .agg (SW z u)) (hZ : c.eval Z = .agg (SW v t)) (w : World) : (execOp c.eval o).run Tryd.prog w = .ok (.value (.agg (PW x y z u v t))) w := by
  unfold SW at hX hY hZ
  unfold execOp PW
  simp only [ho, List.map_toArray, List.map_cons, List.map_nil, hX, hY, hZ]
  go_simp
theorem bld_RPose {x y z u v t : RT} (ho : o.op = .build 39 #[(0, X), (1, Y), (2, Z)]) (hX : c.eval X = .agg (SW x y)) (hY : c.eval Y = .agg (SW z u)) (hZ : c.eval Z = .agg (SW v t)) (w : World) : (execOp c.eval o).run Tryd.prog w = .ok (.value (.agg (PW x y z u v t))) w := by
  unfold SW at hX hY hZ
  unfold execOp PW
  simp only [ho, List.map_toArray, List.map_cons, List.map_nil, hX, hY, hZ]
  go_simp
end
end Go.Proofs.YtoejojfjiikogaaDoor
