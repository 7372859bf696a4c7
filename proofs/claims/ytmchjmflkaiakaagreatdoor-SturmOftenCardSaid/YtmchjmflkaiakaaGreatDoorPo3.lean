/- Joined texts: PoL Po2 Po3. -/
import Derived.Test.YtmchjmflkaiakaaGreatDoorPo1
import Derived.Deep.LoopGhost
/- Plain laws of polygons. -/
namespace Go.Proofs.YtmchjmflkaiakaaGreatDoor
open Go.RowKit
set_option linter.unusedVariables false
set_option linter.unusedSimpArgs false
def q4 (z : Int) : Rat := mkRat z 4
section
variable {P : Program} {ops : Array Oper} {W : World} {l : List Own} {Q : Exit → Act → World → Prop} {gs : List Nat} {k : Nat} {o : Oper} {rest : List Oper} {a : Act} {R : Reg}
end
def slA (A : Option Addr) (n c : Nat) : Option Addr := if n = 0 then A else if c = 1 then A else A.map (·.add 1)
def slL (n : Nat) : Nat := if n = 0 then 0 else n - 1
def slC (n c : Nat) : Nat := if n = 0 then c else c - 1
def intsOf (xs : List Int) : List Value := xs.map fun x => .int .i64 x
def Ints (W : World) (A : Option Addr) (n c : Nat) (xs : List Int) : Prop := Reads W W.heap.size 1 A n (intsOf xs) ∧ n ≤ c ∧ ∀ x ∈ xs, -9223372036854775808 ≤ x ∧ x ≤ 9223372036854775807
theorem Ints.len {W : World} {A : Option Addr} {n c : Nat} {xs : List Int} (h : Ints W A n c xs) : xs.length = n := by
 have := h.1.1; simpa [intsOf] using this
theorem Ints.tail {W : World} {A : Option Addr} {n c : Nat} {xs : List Int} (h : Ints W A n c xs) : Ints W (slA A n c) (slL n) (slC n c) xs.tail := by
 have hl := h.len
 obtain ⟨h1, h2, h3⟩ := h
 unfold slA slL slC
 by_cases h0 : n = 0
 ·subst h0
  rw [if_pos rfl, if_pos rfl, if_pos rfl]
  have : xs = [] := List.eq_nil_of_length_eq_zero hl
  subst this
  exact ⟨h1, by omega, h3⟩
 ·rw [if_neg h0, if_neg h0, if_neg h0]
  have hc := h1.cut (k := 1) (cap := c) (by omega) h2
  rw [Nat.one_mul] at hc
  refine ⟨?_, by omega, fun x hx => h3 x (List.mem_of_mem_tail hx)⟩
  have e : (intsOf xs).drop 1 = intsOf xs.tail := by unfold intsOf; cases xs <;> rfl
  rw [e] at hc
  exact hc
theorem Ints.head {W : World} {A : Option Addr} {n c : Nat} {x : Int} {xs : List Int} (h : Ints W A n c (x :: xs)) : ∃ ad, A = some ad ∧ ad.block < W.heap.size ∧ W.cell? (ad.add 0) = some (.int .i64 x) ∧ 0 < n := by
 have hl := h.len
 have h0 : 0 < n := by rw [← hl]; simp
 obtain ⟨ad, u, h1, h2, h3, h4⟩ := h.1.at_ h0
 refine ⟨ad, h1, h2, ?_, h0⟩
 have : u = .int .i64 x := by simpa [intsOf] using h3.symm
 rw [h4, this]
theorem StR.only {W : World} {l : List Own} {p : Nat} {x : TypeId × Array Value} {w : World} (h : StR W l (Reg.no.put p x) w) : St W ((p, x) :: l) w := (h.take rS).st
end Go.Proofs.YtmchjmflkaiakaaGreatDoor
