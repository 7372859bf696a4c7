/- Joined texts. -/
import Derived.Test.YtoejojfjiikogaaGreatDoorPo2
import Derived.Deep.LoopGhost

/- gantmake: Stream, at, poly, Poly (printed by lawvec.py). -/
namespace Go.Proofs.YtoejojfjiikogaaGreatDoor
open Go.RowKit
set_option linter.unusedVariables false
set_option linter.unusedSimpArgs false

section
variable {P : Program} {ops : Array Oper} {W : World} {l : List Own} {Q : Exit → Act → World → Prop} {gs : List Nat} {k : Nat} {o : Oper} {rest : List Oper} {a : Act} {R : Reg}
end
def slA (A : Option Addr) (n c : Nat) : Option Addr := if n = 0 then A else if c = 1 then A else A.map (·.add 1)
def slL (n : Nat) : Nat := if n = 0 then 0 else n - 1
def slC (n c : Nat) : Nat := if n = 0 then c else c - 1
def intsOf (xs : List Int) : List Value := xs.map fun x => .int .i64 x
/-- numbers that came in as a slice -/
def Ints (W : World) (A : Option Addr) (n c : Nat) (xs : List Int) : Prop := Reads W W.heap.size 1 A n (intsOf xs) ∧ n ≤ c ∧ ∀ x ∈ xs, -9223372036854775808 ≤ x ∧ x ≤ 9223372036854775807
theorem Ints.len {W : World} {A : Option Addr} {n c : Nat} {xs : List Int} (h : Ints W A n c xs) : xs.length = n := by
  have := h.1.1; simpa [intsOf] using this
theorem Ints.tail {W : World} {A : Option Addr} {n c : Nat} {xs : List Int} (h : Ints W A n c xs) : Ints W (slA A n c) (slL n) (slC n c) xs.tail := by
  have hl := h.len
  obtain ⟨h1, h2, h3⟩ := h
  unfold slA slL slC
  by_cases h0 : n = 0
  · subst h0
    rw [if_pos rfl, if_pos rfl, if_pos rfl]
    have : xs = [] := List.eq_nil_of_length_eq_zero hl
    subst this
    exact ⟨h1, by omega, h3⟩
  · rw [if_neg h0, if_neg h0, if_neg h0]
    have hc := h1.cut (k := 1) (cap := c) (by omega) h2
    rw [Nat.one_mul] at hc
    refine ⟨?_, by omega, fun x hx => h3 x (List.mem_of_mem_tail hx)⟩
    have e : (intsOf xs).drop 1 = intsOf xs.tail := by unfold intsOf; cases xs <;> rfl
    rw [e] at hc
    exact hc
theorem Ints.head {W : World} {A : Option Addr} {n c : Nat} {x : Int} {xs : List Int} (h : Ints W A n c (x :: xs)) : ∃ ad, A = some ad ∧ ad.block < W.heap.size ∧ W.cell? (ad.add 0) = some (.int .i64 x) ∧ 0 < n := by
  have hl := h.len
  have h0 : 0 < n := by rw [← hl]; simp
  obtain ⟨ad, u, h1, h2, h3, h4⟩ := h.1.at_ h0
  refine ⟨ad, h1, h2, ?_, h0⟩
  have : u = .int .i64 x := by simpa [intsOf] using h3.symm
  rw [h4, this]
theorem StR.only {W : World} {l : List Own} {p : Nat} {x : TypeId × Array Value} {w : World} (h : StR W l (Reg.no.put p x) w) : St W ((p, x) :: l) w := (h.take rS).st
theorem slcP_4 {o : Oper} {a : Act} {X0 X1 X2 X3 : Operand} {x0 y0 x1 y1 x2 y2 x3 y3 : Rat} (ho : o.op = .buildSlice 48 4 #[(0, X0), (1, X1), (2, X2), (3, X3)]) (h0 : a.eval X0 = .agg (VC x0 y0)) (h1 : a.eval X1 = .agg (VC x1 y1)) (h2 : a.eval X2 = .agg (VC x2 y2)) (h3 : a.eval X3 = .agg (VC x3 y3)) (w : World) :
    (execOp a.eval o).run Tryz.prog w = .ok (.value (.slice (some ⟨w.heap.size, 0, none⟩) 4 4)) (w.alloc (.cells (PC [(x0, y0), (x1, y1), (x2, y2), (x3, y3)]) 26)) := by
  have e : PC [(x0, y0), (x1, y1), (x2, y2), (x3, y3)] = #[.bool (decide (Rat.num x0 < 0)), .string (S (Rat.num x0).natAbs), .string (S (Rat.den x0)), .bool (decide (Rat.num y0 < 0)), .string (S (Rat.num y0).natAbs), .string (S (Rat.den y0)), .bool (decide (Rat.num x1 < 0)), .string (S (Rat.num x1).natAbs), .string (S (Rat.den x1)), .bool (decide (Rat.num y1 < 0)), .string (S (Rat.num y1).natAbs), .string (S (Rat.den y1)), .bool (decide (Rat.num x2 < 0)), .string (S (Rat.num x2).natAbs), .string (S (Rat.den x2)), .bool (decide (Rat.num y2 < 0)), .string (S (Rat.num y2).natAbs), .string (S (Rat.den y2)), .bool (decide (Rat.num x3 < 0)), .string (S (Rat.num x3).natAbs), .string (S (Rat.den x3)), .bool (decide (Rat.num y3 < 0)), .string (S (Rat.num y3).natAbs), .string (S (Rat.den y3))] := rfl
  rw [e]
  unfold VC at h0 h1 h2 h3
  unfold execOp
  simp only [ho, List.map_toArray, List.map_cons, List.map_nil, h0, h1, h2, h3]
  go_simp
end Go.Proofs.YtoejojfjiikogaaGreatDoor
