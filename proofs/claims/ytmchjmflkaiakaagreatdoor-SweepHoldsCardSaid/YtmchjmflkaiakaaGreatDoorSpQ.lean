/- Joined texts. -/
import Derived.Test.YtmchjmflkaiakaaGreatDoorRatT

/- Structs of numbers as values: vectors, spans, turns, frames. -/
namespace Go.Proofs.YtmchjmflkaiakaaGreatDoor
universe u
open Go.RowKit
set_option linter.unusedVariables false
set_option linter.unusedSimpArgs false

theorem nA {α : Type u} (l : List α) (i : Nat) (a : α) : l.toArray.setIfInBounds i a = (l.set i a).toArray := List.setIfInBounds_toArray ..
theorem nB {α : Type u} {x a : α} {l : List α} : (x :: l).set 0 a = a :: l := List.set_cons_zero
theorem nC {α : Type u} {x a : α} {l : List α} {n : Nat} : (x :: l).set (n + 1) a = x :: l.set n a := List.set_cons_succ
theorem rS {R : Reg} {p : Nat} {x : TypeId × Array Value} : R.put p x p = some x := Reg.put_same _ _ _
theorem rN {R : Reg} {p q : Nat} {x : TypeId × Array Value} {y : Option (TypeId × Array Value)} (h : q ≠ p) (hy : R q = y) : R.put p x q = y := (Reg.put_ne _ _ h).trans hy
theorem mC {a : Own} {l : List Own} : a ∈ a :: l := List.mem_cons_self
theorem mT {a b : Own} {l : List Own} (h : a ∈ l) : a ∈ b :: l := List.mem_cons_of_mem _ h
def VC (x y : Rat) : Array Value := #[.bool (decide (x.num < 0)), .string (S x.num.natAbs), .string (S x.den), .bool (decide (y.num < 0)), .string (S y.num.natAbs), .string (S y.den)]
def TC (h : Bool) (t : Rat) : Array Value := #[.bool h, .bool (decide (t.num < 0)), .string (S t.num.natAbs), .string (S t.den)]
def FC (x y : Rat) (h : Bool) (t : Rat) : Array Value := #[.bool (decide (x.num < 0)), .string (S x.num.natAbs), .string (S x.den), .bool (decide (y.num < 0)), .string (S y.num.natAbs), .string (S y.den), .bool h, .bool (decide (t.num < 0)), .string (S t.num.natAbs), .string (S t.den)]
def BC (x y z u : Rat) : Array Value := #[.bool (decide (x.num < 0)), .string (S x.num.natAbs), .string (S x.den), .bool (decide (y.num < 0)), .string (S y.num.natAbs), .string (S y.den), .bool (decide (z.num < 0)), .string (S z.num.natAbs), .string (S z.den), .bool (decide (u.num < 0)), .string (S u.num.natAbs), .string (S u.den)]
theorem VC_one (x y : Rat) : ∀ u ∈ VC x y, u.oneCell' = true := by
 intro u hu
 simp only [VC, List.mem_toArray, List.mem_cons, List.not_mem_nil, or_false] at hu
 rcases hu with rfl | rfl | rfl | rfl | rfl | rfl <;> rfl
theorem TC_one (h : Bool) (t : Rat) : ∀ u ∈ TC h t, u.oneCell' = true := by
 intro u hu
 simp only [TC, List.mem_toArray, List.mem_cons, List.not_mem_nil, or_false] at hu
 rcases hu with rfl | rfl | rfl | rfl <;> rfl
theorem BC_one (x y z v : Rat) : ∀ u ∈ BC x y z v, u.oneCell' = true := by
 intro u hu
 simp only [BC, List.mem_toArray, List.mem_cons, List.not_mem_nil, or_false] at hu
 rcases hu with rfl | rfl | rfl | rfl | rfl | rfl | rfl | rfl | rfl | rfl | rfl | rfl <;> rfl
theorem min_self (x : Rat) : minQ x x = x := by unfold minQ; split <;> rfl
theorem max_self (x : Rat) : maxQ x x = x := by unfold maxQ; split <;> rfl
theorem Rz.lit {z : Int} {q : Rat} (h : (z : Rat) = q) (hz : z.natAbs < 65536) : Rz 2 q := by
 rw [← h]; exact Rz.intQ (bstr_length_le.2 (by omega)) (by omega)
section
variable {o : Oper} {a : Act} {X Y : Operand}
theorem bld_Vec {x y : Rat} (ho : o.op = .build 29 #[(0, X), (1, Y)]) (hX : a.eval X = .agg (RC x)) (hY : a.eval Y = .agg (RC y)) (w : World) : (execOp a.eval o).run Tryz.prog w = .ok (.value (.agg (VC x y))) w := by
 unfold RC at hX hY
 unfold execOp VC
 simp only [ho, List.map_toArray, List.map_cons, List.map_nil, hX, hY]
 go_simp
theorem bld_Span {x y : Rat} (ho : o.op = .build 32 #[(0, X), (1, Y)]) (hX : a.eval X = .agg (RC x)) (hY : a.eval Y = .agg (RC y)) (w : World) : (execOp a.eval o).run Tryz.prog w = .ok (.value (.agg (VC x y))) w := by
 unfold RC at hX hY
 unfold execOp VC
 simp only [ho, List.map_toArray, List.map_cons, List.map_nil, hX, hY]
 go_simp
theorem bld_Turn1 {y : Rat} (ho : o.op = .build 46 #[(1, Y)]) (hY : a.eval Y = .agg (RC y)) (w : World) : (execOp a.eval o).run Tryz.prog w = .ok (.value (.agg (TC false y))) w := by
 unfold RC at hY
 unfold execOp TC
 simp only [ho, List.map_toArray, List.map_cons, List.map_nil, hY]
 go_simp
theorem bld_Turn {h : Bool} {y : Rat} (ho : o.op = .build 46 #[(0, X), (1, Y)]) (hX : a.eval X = .bool h) (hY : a.eval Y = .agg (RC y)) (w : World) : (execOp a.eval o).run Tryz.prog w = .ok (.value (.agg (TC h y))) w := by
 unfold RC at hY
 unfold execOp TC
 simp only [ho, List.map_toArray, List.map_cons, List.map_nil, hX, hY]
 go_simp
end
theorem run_eqSp (op : BinOp) (x1 x2 : Rat) (y1 y2 : Rat) (X Y : Operand) (w : World) (b : Bool) (h : op = .eql ∧ decide (x1 = x2 ∧ y1 = y2) = b ∨ op = .neq ∧ (!decide (x1 = x2 ∧ y1 = y2)) = b) :
  ((do eqGuard op 32 X Y (.agg (VC x1 y1)) (.agg (VC x2 y2)); binOp op 32 (.agg (VC x1 y1)) (.agg (VC x2 y2)) : Sem Value)).run Tryz.prog w = .ok (.bool b) w := by
 obtain ⟨s_x1, a_x1, d_x1, h_x1⟩ := R_parts x1
 obtain ⟨s_x2, a_x2, d_x2, h_x2⟩ := R_parts x2
 obtain ⟨s_y1, a_y1, d_y1, h_y1⟩ := R_parts y1
 obtain ⟨s_y2, a_y2, d_y2, h_y2⟩ := R_parts y2
 have e1 : VC x1 y1 = #[.bool s_x1, .string a_x1, .string d_x1, .bool s_y1, .string a_y1, .string d_y1] := by unfold VC; rw [h_x1.s, h_x1.a, h_x1.d, h_y1.s, h_y1.a, h_y1.d]
 have e2 : VC x2 y2 = #[.bool s_x2, .string a_x2, .string d_x2, .bool s_y2, .string a_y2, .string d_y2] := by unfold VC; rw [h_x2.s, h_x2.a, h_x2.d, h_y2.s, h_y2.a, h_y2.d]
 rw [e1, e2]; clear e1 e2
 by_cases hc : x1 = x2 ∧ y1 = y2
 ·rw [decide_eq_true hc] at h
  obtain ⟨rfl, rfl⟩ := hc
  obtain ⟨rfl, rfl, rfl⟩ : s_x1 = s_x2 ∧ a_x1 = a_x2 ∧ d_x1 = d_x2 := ⟨h_x1.s.trans h_x2.s.symm, h_x1.a.trans h_x2.a.symm, h_x1.d.trans h_x2.d.symm⟩
  obtain ⟨rfl, rfl, rfl⟩ : s_y1 = s_y2 ∧ a_y1 = a_y2 ∧ d_y1 = d_y2 := ⟨h_y1.s.trans h_y2.s.symm, h_y1.a.trans h_y2.a.symm, h_y1.d.trans h_y2.d.symm⟩
  clear h_x1 h_x2 h_y1 h_y2
  rcases h with ⟨rfl, rfl⟩ | ⟨rfl, rfl⟩ <;> go_simp
 ·rw [decide_eq_false hc] at h
  have e : s_x1 = s_x2 → a_x1.toList = a_x2.toList → d_x1.toList = d_x2.toList → s_y1 = s_y2 → a_y1.toList = a_y2.toList → d_y1.toList = d_y2.toList → False := fun e1 e2 e3 e4 e5 e6 => hc ⟨RIs.injL h_x1 h_x2 e1 e2 e3, RIs.injL h_y1 h_y2 e4 e5 e6⟩
  clear hc h_x1 h_x2 h_y1 h_y2
  rcases h with ⟨rfl, rfl⟩ | ⟨rfl, rfl⟩
  ·go_simp; first | exact e | (intros; apply e <;> assumption) | (simp only [not_and]; exact e)
  ·go_simp; first | exact e | (intros; apply e <;> assumption) | (simp only [not_and]; exact e)
section
variable {ops : Array Oper} {W : World} {l : List Own} {Q : Exit → Act → World → Prop} {gs : List Nat} {k : Nat} {o : Oper} {rest : List Oper} {a : Act} {R : Reg}
theorem Seq.eqSp {x1 x2 : Rat} {y1 y2 : Rat} {X Y : Operand} {U : TypeId} {b : Bool} (ho : o.op = .binOp .eql 32 X Y U) (hk : kd gs k o = .val) (hw : wants ops o a = true) (hx : a.eval X = .agg (VC x1 y1)) (hy : a.eval Y = .agg (VC x2 y2))
  (hb : decide (x1 = x2 ∧ y1 = y2) = b) (h : Seq Tryz.prog ops Q W l gs (k + 1) rest (a.put o.dst (.bool b)) R) : Seq Tryz.prog ops Q W l gs k (o :: rest) a R :=
 Seq.pure hk hw (fun w => by
  unfold execOp
  simp only [ho, hx, hy, Sem.run_bind, run_eqSp .eql x1 x2 y1 y2 X Y w b (.inl ⟨rfl, hb⟩), Result.andThen_ok, Sem.run_pure]) h
end
def SL2 (x y : Rat) : Array Value := VC x y
theorem slc_2 {o : Oper} {a : Act} {X Y : Operand} {x y : Rat} (ho : o.op = .buildSlice 55 2 #[(0, X), (1, Y)]) (hX : a.eval X = .agg (RC x)) (hY : a.eval Y = .agg (RC y)) (w : World) :
  (execOp a.eval o).run Tryz.prog w = .ok (.value (.slice (some ⟨w.heap.size, 0, none⟩) 2 2)) (w.alloc (.cells (SL2 x y) 27)) := by
 unfold RC at hX hY
 unfold execOp SL2 VC
 simp only [ho, List.map_toArray, List.map_cons, List.map_nil, hX, hY]
 go_simp
def SL4 (x y z u : Rat) : Array Value := BC x y z u
theorem slc_4 {o : Oper} {a : Act} {X Y Z U : Operand} {x y z u : Rat} (ho : o.op = .buildSlice 55 4 #[(0, X), (1, Y), (2, Z), (3, U)]) (hX : a.eval X = .agg (RC x)) (hY : a.eval Y = .agg (RC y)) (hZ : a.eval Z = .agg (RC z)) (hU : a.eval U = .agg (RC u)) (w : World) :
  (execOp a.eval o).run Tryz.prog w = .ok (.value (.slice (some ⟨w.heap.size, 0, none⟩) 4 4)) (w.alloc (.cells (SL4 x y z u) 27)) := by
 unfold RC at hX hY hZ hU
 unfold execOp SL4 BC
 simp only [ho, List.map_toArray, List.map_cons, List.map_nil, hX, hY, hZ, hU]
 go_simp
section
variable {P : Program} {ops : Array Oper} {W : World} {l : List Own} {Q : Exit → Act → World → Prop} {gs : List Nat} {k : Nat} {o : Oper} {rest : List Oper} {a a' : Act} {R : Reg}
end
theorem St.p1 {W w : World} {a b : Own} {l : List Own} (H : St W (a :: b :: l) w) : St W (b :: a :: l) w := H.perm (List.perm_middle (l₁ := [a]))
theorem St.p2 {W w : World} {a b c : Own} {l : List Own} (H : St W (a :: b :: c :: l) w) : St W (c :: a :: b :: l) w := H.perm (List.perm_middle (l₁ := [a, b]))
theorem St.p3 {W w : World} {a b c d : Own} {l : List Own} (H : St W (a :: b :: c :: d :: l) w) : St W (d :: a :: b :: c :: l) w := H.perm (List.perm_middle (l₁ := [a, b, c]))
theorem St.p4 {W w : World} {a b c d e : Own} {l : List Own} (H : St W (a :: b :: c :: d :: e :: l) w) : St W (e :: a :: b :: c :: d :: l) w := H.perm (List.perm_middle (l₁ := [a, b, c, d]))
theorem St.p5 {W w : World} {a b c d e f : Own} {l : List Own} (H : St W (a :: b :: c :: d :: e :: f :: l) w) : St W (f :: a :: b :: c :: d :: e :: l) w := H.perm (List.perm_middle (l₁ := [a, b, c, d, e]))
theorem St.p6 {W w : World} {a b c d e f g : Own} {l : List Own} (H : St W (a :: b :: c :: d :: e :: f :: g :: l) w) : St W (g :: a :: b :: c :: d :: e :: f :: l) w := H.perm (List.perm_middle (l₁ := [a, b, c, d, e, f]))
theorem St.p7 {W w : World} {a b c d e f g h : Own} {l : List Own} (H : St W (a :: b :: c :: d :: e :: f :: g :: h :: l) w) : St W (h :: a :: b :: c :: d :: e :: f :: g :: l) w := H.perm (List.perm_middle (l₁ := [a, b, c, d, e, f, g]))
theorem St.p8 {W w : World} {a b c d e f g h i : Own} {l : List Own} (H : St W (a :: b :: c :: d :: e :: f :: g :: h :: i :: l) w) : St W (i :: a :: b :: c :: d :: e :: f :: g :: h :: l) w := H.perm (List.perm_middle (l₁ := [a, b, c, d, e, f, g, h]))
section
variable {P : Program} {ops : Array Oper} {W : World} {l : List Own} {Q : Exit → Act → World → Prop} {gs : List Nat} {k : Nat} {o : Oper} {rest : List Oper} {a a' : Act} {R : Reg}
theorem nZ (h : Seq P ops Q W l gs k rest a' R) (ha : a = a' := by simp only[Act.put,nA,nB,nC]; rfl) : Seq P ops Q W l gs k rest a R := by subst ha; exact h
theorem pU {v : Value} (h : Seq P ops Q W l gs (k + 1) rest a' R) (hk : kd gs k o = .val := by rfl) (hw : wants ops o a = true := by rfl) (hr : ∀ w, (execOp a.eval o).run P w = .ok (.value v) w := by intro w; go_simp; try rfl)
  (ha : a.put o.dst v = a' := by simp only[Act.put,nA,nB,nC]; rfl) : Seq P ops Q W l gs k (o :: rest) a R := Seq.pure hk hw hr (by rw [ha]; exact h)
theorem nW (h : Seq P ops Q W l gs (k + 1) rest a' R) (hw : wants ops o a = false := by rfl) (ha : a.put o.dst undef = a' := by simp only[Act.put,nA,nB,nC]; rfl) : Seq P ops Q W l gs k (o :: rest) a R := Seq.nw hw (by rw [ha]; exact h)
theorem lV {t T : TypeId} {x : Operand} {g n : Nat} {cs : Array Value} (h : Seq P ops Q W l gs (k + 1) rest a' R) (ho : o.op = .load t x := by rfl) (hk : kd gs k o = .val := by rfl) (hw : wants ops o a = true := by rfl) (hx : a.eval x = .pointer (some ⟨g, 0, none⟩) := by rfl)
  (hm : (g, T, cs) ∈ l := by repeat (first | exact mC | apply mT)) (hn : cs.size = n := by rfl) (ht : aggOf P t n = true := by kernel_rfl) (ha : a.put o.dst (.agg cs) = a' := by simp only[Act.put,nA,nB,nC]; rfl) : Seq P ops Q W l gs k (o :: rest) a R := Seq.load ho hk hw hx hm hn ht (by rw [ha]; exact h)
theorem gV {t T : TypeId} {x : Operand} {g n : Nat} {cs : Array Value} (h : Seq P ops Q W l gs (k + 1) rest a' R) (ho : o.op = .load t x := by rfl) (hk : kd gs k o = .get := by rfl) (hw : wants ops o a = true := by rfl) (hx : a.eval x = .pointer (some ⟨g, 0, none⟩) := by rfl)
  (hm : R g = some (T, cs) := by repeat (first | exact rS | refine rN (by assumption) ?_)) (hn : cs.size = n := by rfl) (ht : aggOf P t n = true := by kernel_rfl) (ha : a.put o.dst (.agg cs) = a' := by simp only[Act.put,nA,nB,nC]; rfl) : Seq P ops Q W l gs k (o :: rest) a R := Seq.get ho hk hw hx hm hn ht (by rw [ha]; exact h)
theorem lA {t T : TypeId} {x : Operand} {g f n : Nat} {cs : Array Value} (cs' : Array Value) (h : Seq P ops Q W l gs (k + 1) rest a' R) (ho : o.op = .load t x := by rfl) (hk : kd gs k o = .val := by rfl) (hw : wants ops o a = true := by rfl) (hx : a.eval x = .pointer (some ⟨g, f, none⟩) := by rfl)
  (hm : (g, T, cs) ∈ l := by repeat (first | exact mC | apply mT)) (h9 : cs'.size = n := by rfl) (hn : f + n ≤ cs.size := by exact Nat.le_of_ble_eq_true rfl) (ht : aggOf P t n = true := by kernel_rfl) (hc : cs.extract f (f + n) = cs' := by rfl) (ha : a.put o.dst (.agg cs') = a' := by simp only[Act.put,nA,nB,nC]; rfl) : Seq P ops Q W l gs k (o :: rest) a R := Seq.loadAt ho hk hw hx hm hn ht hc (by rw [ha]; exact h)
theorem cL {f : FuncId} {xs : List Operand} {ts : Array TypeId} {vs : Array Value} {v : Value} (hc : ∀ w, St W l w → Calls P f vs w (fun e w' => e = .returned v ∧ Below w.heap.size w w')) (h : Seq P ops Q W l gs (k + 1) rest a' R)
  (ho : o.op = .call { callee := .value (.func f), args := xs.toArray, argTypes := ts } := by rfl) (hk : kd gs k o = .val := by rfl) (hw : wants ops o a = true := by rfl) (hx : xs.map a.eval = vs.toList := by rfl) (hf : goesIn P f = true := by kernel_rfl) (ha : a.put o.dst v = a' := by simp only[Act.put,nA,nB,nC]; rfl) : Seq P ops Q W l gs k (o :: rest) a R := Seq.call ho hk hw hx hf hc (by rw [ha]; exact h)
theorem cX {f : FuncId} {xs : List Operand} {ts : Array TypeId} {vs : Array Value} {v : Value} (ho : o.op = .call { callee := .value (.func f), args := xs.toArray, argTypes := ts }) (hx : xs.map a.eval = vs.toList) (hc : ∀ w, St W l w → Calls P f vs w (fun e w' => e = .returned v ∧ Below w.heap.size w w')) (h : Seq P ops Q W l gs (k + 1) rest a' R)
  (hk : kd gs k o = .val := by rfl) (hw : wants ops o a = true := by rfl) (hf : goesIn P f = true := by kernel_rfl) (ha : a.put o.dst v = a' := by simp only[Act.put,nA,nB,nC]; rfl) : Seq P ops Q W l gs k (o :: rest) a R := Seq.call ho hk hw hx hf hc (by rw [ha]; exact h)
theorem pV (v : Value) (hr : ∀ w, (execOp a.eval o).run P w = .ok (.value v) w) (h : Seq P ops Q W l gs (k + 1) rest a' R) (hk : kd gs k o = .val := by rfl) (hw : wants ops o a = true := by rfl)
  (ha : a.put o.dst v = a' := by simp only[Act.put,nA,nB,nC]; rfl) : Seq P ops Q W l gs k (o :: rest) a R := Seq.pure hk hw hr (by rw [ha]; exact h)
theorem sV {t T : TypeId} {x y : Operand} {p n : Nat} {cs cs' : Array Value} (h1 : ∀ u ∈ cs', u.oneCell' = true) (h : Seq P ops Q W l gs (k + 1) rest a' (R.put p (T, cs'))) (ho : o.op = .store t x y := by rfl) (hk : kd gs k o = .put := by rfl) (hw : wants ops o a = true := by rfl) (hx : a.eval x = .pointer (some ⟨p, 0, none⟩) := by rfl) (hy : a.eval y = .agg cs' := by rfl)
  (hR : R p = some (T, cs) := by repeat (first | exact rS | refine rN (by assumption) ?_)) (hn : cs.size = n := by rfl) (hn' : cs'.size = n := by rfl) (ht : (P.info? t).map (·.size) = some n := by kernel_rfl) (ha : a.put o.dst undef = a' := by simp only[Act.put,nA,nB,nC]; rfl) : Seq P ops Q W l gs k (o :: rest) a R := Seq.store ho hk hw hx hy hR hn hn' ht h1 (by rw [ha]; exact h)
theorem bX {t : TypeId} {x : Operand} (cs : Array Value) (h : ∀ p, W.heap.size ≤ p → (∀ e ∈ l, e.1 ≠ p) → R p = none → Seq P ops Q W l gs (k + 1) rest (a.put o.dst (.pointer (some ⟨p, 0, none⟩))) (R.put p (t, cs))) (ho : o.op = .box t x := by rfl) (hk : kd gs k o = .new := by rfl) (hw : wants ops o a = true := by rfl) (hx : a.eval x = .agg cs := by rfl) : Seq P ops Q W l gs k (o :: rest) a R := Seq.box ho hk hw hx rfl h
theorem aL3 {t : TypeId} (h : ∀ p, W.heap.size ≤ p → (∀ e ∈ l, e.1 ≠ p) → R p = none → Seq P ops Q W l gs (k + 1) rest (a.put o.dst (.pointer (some ⟨p, 0, none⟩))) (R.put p (t, #[.bool false, .string ⟨#[]⟩, .string ⟨#[]⟩]))) (ho : o.op = .alloc t := by rfl) (hk : kd gs k o = .new := by rfl) (hw : wants ops o a = true := by rfl)
  (hz : (P.info? t).bind (·.zero) = some (.agg #[.bool false, .string ⟨#[]⟩, .string ⟨#[]⟩]) := by kernel_rfl) : Seq P ops Q W l gs k (o :: rest) a R := Seq.alloc ho hk hw hz rfl h
theorem aL6 {t : TypeId} (h : ∀ p, W.heap.size ≤ p → (∀ e ∈ l, e.1 ≠ p) → R p = none → Seq P ops Q W l gs (k + 1) rest (a.put o.dst (.pointer (some ⟨p, 0, none⟩))) (R.put p (t, #[.bool false, .string ⟨#[]⟩, .string ⟨#[]⟩, .bool false, .string ⟨#[]⟩, .string ⟨#[]⟩]))) (ho : o.op = .alloc t := by rfl) (hk : kd gs k o = .new := by rfl) (hw : wants ops o a = true := by rfl)
  (hz : (P.info? t).bind (·.zero) = some (.agg #[.bool false, .string ⟨#[]⟩, .string ⟨#[]⟩, .bool false, .string ⟨#[]⟩, .string ⟨#[]⟩]) := by kernel_rfl) : Seq P ops Q W l gs k (o :: rest) a R := Seq.alloc ho hk hw hz rfl h
theorem pW {v : Value} (h : Seq P ops Q W l gs (k + 1) rest a' R) (hk : kd gs k o = .val := by rfl) (hw : wants ops o a = true := by rfl) (hr : ∀ w, (execOp a.eval o).run P w = .ok (.value v) w := by intro w; go_simp; try first | with_reducible rfl | rfl)
  (ha : a.put o.dst v = a' := by simp only[Act.put,nA,nB,nC]; rfl) : Seq P ops Q W l gs k (o :: rest) a R := Seq.pure hk hw hr (by rw [ha]; exact h)
end
section
variable {P : Program} {W w : World} {l : List Own} {Q : Exit → Act → World → Prop} {a : Act} {R : Reg} {id : Nat} {rest : List Oper}
theorem wS (gs : List Nat) (hR : R.fin) (hw : StR W l R w) (h : Seq P rest.toArray Q W l gs 0 rest a R) (hm : P.follows .mixedOrders = true := by kernel_rfl) (hc : chk .any rest.toArray gs = true := by kernel_rfl) : (Code.region id rest.toArray true).wp P Q a w := wp_seq gs hm hc hR hw h
theorem rgW (gs : List Nat) (hw : St W l w) (h : Seq P rest.toArray Q W l gs 0 rest a Reg.no) (hm : P.follows .mixedOrders = true := by kernel_rfl) (hc : chk .any rest.toArray gs = true := by kernel_rfl) : (Code.region id rest.toArray true).wp P Q a w := wp_seq gs hm hc Reg.fin_no (StR.no hw) h
theorem rgT (gs : List Nat) (hw : St W l w) (h : Seq P rest.toArray Q W l gs 0 rest a Reg.no) : (Code.region id rest.toArray false).wp P Q a w := wp_seq_text gs (StR.no hw) h
theorem StR.q1 (h : StR W l R w) {p : Nat} {x : TypeId × Array Value} (hr : R p = some x := by repeat (first | exact rS | refine rN (by assumption) ?_)) : St W ((p, x) :: l) w := h.list1 hr
theorem StR.q2 (h : StR W l R w) {p q : Nat} {x y : TypeId × Array Value} (hp : R p = some x := by repeat (first | exact rS | refine rN (by assumption) ?_)) (hq : R q = some y := by repeat (first | exact rS | refine rN (by assumption) ?_)) (hne : p ≠ q := by assumption) : St W ((p, x) :: (q, y) :: l) w := h.list2 hp hq hne
theorem StR.q3 (h : StR W l R w) {p q r : Nat} {x y z : TypeId × Array Value} (hp : R p = some x := by repeat (first | exact rS | refine rN (by assumption) ?_)) (hq : R q = some y := by repeat (first | exact rS | refine rN (by assumption) ?_)) (hr : R r = some z := by repeat (first | exact rS | refine rN (by assumption) ?_))
  (h1 : p ≠ q := by assumption) (h2 : p ≠ r := by assumption) (h3 : q ≠ r := by assumption) : St W ((p, x) :: (q, y) :: (r, z) :: l) w := h.list3 hp hq hr h1 h2 h3
theorem Reg.ne2 {p q : Nat} {x : TypeId × Array Value} (h : R.put p x q = none) : q ≠ p ∧ p ≠ q ∧ R q = none := ⟨(Reg.ne_of_put h).1, Ne.symm (Reg.ne_of_put h).1, (Reg.ne_of_put h).2⟩
theorem rO {fn : Func} {E : Ending → World → Prop} {p ty : Nat} {g n : Nat} {T : TypeId} {cs : Array Value} (hS : St W l w) (h : E (.returned (.agg cs)) w) (hr : fn.results = #[.cell p ty] := by rfl) (hd : a.defers = [] := by rfl) (hp : a.tmps.getD p undef = .pointer (some ⟨g, 0, none⟩) := by rfl)
  (hm : (g, T, cs) ∈ l := by repeat (first | exact mC | apply mT)) (hn : cs.size = n := by rfl) (ht : aggOf P ty n = true := by kernel_rfl) : bodyPost P fn E .ret a w := ret_own hr hd hp hS hm hn ht h
end
end Go.Proofs.YtmchjmflkaiakaaGreatDoor
