/- Joined texts. -/
import Derived.Test.YtekbpiooecdopaaDoorRatT

/- Structs of numbers as values: vectors, spans, turns, frames. -/
namespace Go.Proofs.YtekbpiooecdopaaDoor
universe u
open Go.RowKit
set_option linter.unusedVariables false
set_option linter.unusedSimpArgs false

theorem nA {α : Type u} (l : List α) (i : Nat) (a : α) : l.toArray.setIfInBounds i a = (l.set i a).toArray := List.setIfInBounds_toArray ..
theorem nB {α : Type u} {x a : α} {l : List α} : (x :: l).set 0 a = a :: l := List.set_cons_zero
theorem nC {α : Type u} {x a : α} {l : List α} {n : Nat} : (x :: l).set (n + 1) a = x :: l.set n a := List.set_cons_succ
theorem rS {R : Reg} {p : Nat} {x : TypeId × Array Value} : R.put p x p = some x := Reg.put_same _ _ _
theorem rN {R : Reg} {p q : Nat} {x : TypeId × Array Value} {y : Option (TypeId × Array Value)} (h : q ≠ p) (hy : R q = y) : R.put p x q = y := (Reg.put_ne _ _ h).trans hy
theorem mC {a : Own} {l : List Own} : a ∈ a :: l := List.mem_cons_self
theorem mT {a b : Own} {l : List Own} (h : a ∈ l) : a ∈ b :: l := List.mem_cons_of_mem _ h
theorem min_self (x : Rat) : minQ x x = x := by unfold minQ; split <;> rfl
theorem Rz.lit {z : Int} {q : Rat} (h : (z : Rat) = q) (hz : z.natAbs < 65536) : Rz 2 q := by
  rw [← h]; exact Rz.intQ (bstr_length_le.2 (by omega)) (by omega)
/-! ### values made of their fields -/
section
variable {o : Oper} {a : Act} {X Y : Operand}
end
/-! ### equality -/
section
variable {ops : Array Oper} {W : World} {l : List Own} {Q : Exit → Act → World → Prop} {gs : List Nat} {k : Nat} {o : Oper} {rest : List Oper} {a : Act} {R : Reg}
end
/-! ### slices of numbers, made in place -/
theorem St.p1 {W w : World} {a b : Own} {l : List Own} (H : St W (a :: b :: l) w) : St W (b :: a :: l) w := H.perm (List.perm_middle (l₁ := [a]))
theorem St.p2 {W w : World} {a b c : Own} {l : List Own} (H : St W (a :: b :: c :: l) w) : St W (c :: a :: b :: l) w := H.perm (List.perm_middle (l₁ := [a, b]))
theorem St.p3 {W w : World} {a b c d : Own} {l : List Own} (H : St W (a :: b :: c :: d :: l) w) : St W (d :: a :: b :: c :: l) w := H.perm (List.perm_middle (l₁ := [a, b, c]))
theorem St.p4 {W w : World} {a b c d e : Own} {l : List Own} (H : St W (a :: b :: c :: d :: e :: l) w) : St W (e :: a :: b :: c :: d :: l) w := H.perm (List.perm_middle (l₁ := [a, b, c, d]))
theorem St.p5 {W w : World} {a b c d e f : Own} {l : List Own} (H : St W (a :: b :: c :: d :: e :: f :: l) w) : St W (f :: a :: b :: c :: d :: e :: l) w := H.perm (List.perm_middle (l₁ := [a, b, c, d, e]))
theorem St.p6 {W w : World} {a b c d e f g : Own} {l : List Own} (H : St W (a :: b :: c :: d :: e :: f :: g :: l) w) : St W (g :: a :: b :: c :: d :: e :: f :: l) w := H.perm (List.perm_middle (l₁ := [a, b, c, d, e, f]))
theorem St.p7 {W w : World} {a b c d e f g h : Own} {l : List Own} (H : St W (a :: b :: c :: d :: e :: f :: g :: h :: l) w) : St W (h :: a :: b :: c :: d :: e :: f :: g :: l) w := H.perm (List.perm_middle (l₁ := [a, b, c, d, e, f, g]))
/-! ### steps in few bytes: what is found by looking is found by default -/
section
variable {P : Program} {ops : Array Oper} {W : World} {l : List Own} {Q : Exit → Act → World → Prop} {gs : List Nat} {k : Nat} {o : Oper} {rest : List Oper} {a a' : Act} {R : Reg}
/-- the slots written out -/
theorem nZ (h : Seq P ops Q W l gs k rest a' R) (ha : a = a' := by simp only [Act.put, nA, nB, nC]; rfl) : Seq P ops Q W l gs k rest a R := by subst ha; exact h
theorem pU {v : Value} (h : Seq P ops Q W l gs (k + 1) rest a' R) (hk : kd gs k o = .val := by rfl) (hw : wants ops o a = true := by rfl) (hr : ∀ w, (execOp a.eval o).run P w = .ok (.value v) w := by intro w; go_simp; try rfl)
    (ha : a.put o.dst v = a' := by simp only [Act.put, nA, nB, nC]; rfl) : Seq P ops Q W l gs k (o :: rest) a R := Seq.pure hk hw hr (by rw [ha]; exact h)
theorem nW (h : Seq P ops Q W l gs (k + 1) rest a' R) (hw : wants ops o a = false := by rfl) (ha : a.put o.dst undef = a' := by simp only [Act.put, nA, nB, nC]; rfl) : Seq P ops Q W l gs k (o :: rest) a R := Seq.nw hw (by rw [ha]; exact h)
theorem lV {t T : TypeId} {x : Operand} {g n : Nat} {cs : Array Value} (h : Seq P ops Q W l gs (k + 1) rest a' R) (ho : o.op = .load t x := by rfl) (hk : kd gs k o = .val := by rfl) (hw : wants ops o a = true := by rfl) (hx : a.eval x = .pointer (some ⟨g, 0, none⟩) := by rfl)
    (hm : (g, T, cs) ∈ l := by repeat (first | exact mC | apply mT)) (hn : cs.size = n := by rfl) (ht : aggOf P t n = true := by kernel_rfl) (ha : a.put o.dst (.agg cs) = a' := by simp only [Act.put, nA, nB, nC]; rfl) : Seq P ops Q W l gs k (o :: rest) a R := Seq.load ho hk hw hx hm hn ht (by rw [ha]; exact h)
theorem lA {t T : TypeId} {x : Operand} {g f n : Nat} {cs : Array Value} (cs' : Array Value) (h : Seq P ops Q W l gs (k + 1) rest a' R) (ho : o.op = .load t x := by rfl) (hk : kd gs k o = .val := by rfl) (hw : wants ops o a = true := by rfl) (hx : a.eval x = .pointer (some ⟨g, f, none⟩) := by rfl)
    (hm : (g, T, cs) ∈ l := by repeat (first | exact mC | apply mT)) (h9 : cs'.size = n := by rfl) (hn : f + n ≤ cs.size := by exact Nat.le_of_ble_eq_true rfl) (ht : aggOf P t n = true := by kernel_rfl) (hc : cs.extract f (f + n) = cs' := by rfl) (ha : a.put o.dst (.agg cs') = a' := by simp only [Act.put, nA, nB, nC]; rfl) : Seq P ops Q W l gs k (o :: rest) a R := Seq.loadAt ho hk hw hx hm hn ht hc (by rw [ha]; exact h)
theorem cX {f : FuncId} {xs : List Operand} {ts : Array TypeId} {vs : Array Value} {v : Value} (ho : o.op = .call { callee := .value (.func f), args := xs.toArray, argTypes := ts }) (hx : xs.map a.eval = vs.toList) (hc : ∀ w, St W l w → Calls P f vs w (fun e w' => e = .returned v ∧ Below w.heap.size w w')) (h : Seq P ops Q W l gs (k + 1) rest a' R)
    (hk : kd gs k o = .val := by rfl) (hw : wants ops o a = true := by rfl) (hf : goesIn P f = true := by kernel_rfl) (ha : a.put o.dst v = a' := by simp only [Act.put, nA, nB, nC]; rfl) : Seq P ops Q W l gs k (o :: rest) a R := Seq.call ho hk hw hx hf hc (by rw [ha]; exact h)
theorem pV (v : Value) (hr : ∀ w, (execOp a.eval o).run P w = .ok (.value v) w) (h : Seq P ops Q W l gs (k + 1) rest a' R) (hk : kd gs k o = .val := by rfl) (hw : wants ops o a = true := by rfl)
    (ha : a.put o.dst v = a' := by simp only [Act.put, nA, nB, nC]; rfl) : Seq P ops Q W l gs k (o :: rest) a R := Seq.pure hk hw hr (by rw [ha]; exact h)
theorem sV {t T : TypeId} {x y : Operand} {p n : Nat} {cs cs' : Array Value} (h1 : ∀ u ∈ cs', u.oneCell' = true) (h : Seq P ops Q W l gs (k + 1) rest a' (R.put p (T, cs'))) (ho : o.op = .store t x y := by rfl) (hk : kd gs k o = .put := by rfl) (hw : wants ops o a = true := by rfl) (hx : a.eval x = .pointer (some ⟨p, 0, none⟩) := by rfl) (hy : a.eval y = .agg cs' := by rfl)
    (hR : R p = some (T, cs) := by repeat (first | exact rS | refine rN (by assumption) ?_)) (hn : cs.size = n := by rfl) (hn' : cs'.size = n := by rfl) (ht : (P.info? t).map (·.size) = some n := by kernel_rfl) (ha : a.put o.dst undef = a' := by simp only [Act.put, nA, nB, nC]; rfl) : Seq P ops Q W l gs k (o :: rest) a R := Seq.store ho hk hw hx hy hR hn hn' ht h1 (by rw [ha]; exact h)
theorem bX {t : TypeId} {x : Operand} (cs : Array Value) (h : ∀ p, W.heap.size ≤ p → (∀ e ∈ l, e.1 ≠ p) → R p = none → Seq P ops Q W l gs (k + 1) rest (a.put o.dst (.pointer (some ⟨p, 0, none⟩))) (R.put p (t, cs))) (ho : o.op = .box t x := by rfl) (hk : kd gs k o = .new := by rfl) (hw : wants ops o a = true := by rfl) (hx : a.eval x = .agg cs := by rfl) : Seq P ops Q W l gs k (o :: rest) a R := Seq.box ho hk hw hx rfl h
theorem aL3 {t : TypeId} (h : ∀ p, W.heap.size ≤ p → (∀ e ∈ l, e.1 ≠ p) → R p = none → Seq P ops Q W l gs (k + 1) rest (a.put o.dst (.pointer (some ⟨p, 0, none⟩))) (R.put p (t, #[.bool false, .string ⟨#[]⟩, .string ⟨#[]⟩]))) (ho : o.op = .alloc t := by rfl) (hk : kd gs k o = .new := by rfl) (hw : wants ops o a = true := by rfl)
    (hz : (P.info? t).bind (·.zero) = some (.agg #[.bool false, .string ⟨#[]⟩, .string ⟨#[]⟩]) := by kernel_rfl) : Seq P ops Q W l gs k (o :: rest) a R := Seq.alloc ho hk hw hz rfl h
end
section
variable {P : Program} {W w : World} {l : List Own} {Q : Exit → Act → World → Prop} {a : Act} {R : Reg} {id : Nat} {rest : List Oper}
theorem rgW (gs : List Nat) (hw : St W l w) (h : Seq P rest.toArray Q W l gs 0 rest a Reg.no) (hm : P.follows .mixedOrders = true := by kernel_rfl) (hc : chk .any rest.toArray gs = true := by kernel_rfl) : (Code.region id rest.toArray true).wp P Q a w := wp_seq gs hm hc Reg.fin_no (StR.no hw) h
theorem rgT (gs : List Nat) (hw : St W l w) (h : Seq P rest.toArray Q W l gs 0 rest a Reg.no) : (Code.region id rest.toArray false).wp P Q a w := wp_seq_text gs (StR.no hw) h
theorem StR.q1 (h : StR W l R w) {p : Nat} {x : TypeId × Array Value} (hr : R p = some x := by repeat (first | exact rS | refine rN (by assumption) ?_)) : St W ((p, x) :: l) w := h.list1 hr
theorem StR.q2 (h : StR W l R w) {p q : Nat} {x y : TypeId × Array Value} (hp : R p = some x := by repeat (first | exact rS | refine rN (by assumption) ?_)) (hq : R q = some y := by repeat (first | exact rS | refine rN (by assumption) ?_)) (hne : p ≠ q := by assumption) : St W ((p, x) :: (q, y) :: l) w := h.list2 hp hq hne
theorem StR.q3 (h : StR W l R w) {p q r : Nat} {x y z : TypeId × Array Value} (hp : R p = some x := by repeat (first | exact rS | refine rN (by assumption) ?_)) (hq : R q = some y := by repeat (first | exact rS | refine rN (by assumption) ?_)) (hr : R r = some z := by repeat (first | exact rS | refine rN (by assumption) ?_))
    (h1 : p ≠ q := by assumption) (h2 : p ≠ r := by assumption) (h3 : q ≠ r := by assumption) : St W ((p, x) :: (q, y) :: (r, z) :: l) w := h.list3 hp hq hr h1 h2 h3
theorem Reg.ne2 {p q : Nat} {x : TypeId × Array Value} (h : R.put p x q = none) : q ≠ p ∧ p ≠ q ∧ R q = none := ⟨(Reg.ne_of_put h).1, Ne.symm (Reg.ne_of_put h).1, (Reg.ne_of_put h).2⟩
end
end Go.Proofs.YtekbpiooecdopaaDoor
