/- gantref4.own: its maps (printed by tyw.py). -/
import Derived.Test.YtekbpiooecdopaaDoorTyP
import Derived.Test.YtekbpiooecdopaaDoorMapM

namespace Go.Proofs.YtekbpiooecdopaaDoor
open Go.RowKit
set_option linter.unusedVariables false
set_option linter.unusedSimpArgs false

abbrev MI (w : World) (b : Nat) (l : List (Int × Int)) : Prop := MapOf (fun x : Int => .int .i64 x) (fun x : Int => .int .i64 x) w b l
abbrev enP (p : Int × Int) : Value := .agg #[.int .i64 p.1, .int .i64 p.2]
abbrev MP (w : World) (b : Nat) (l : List (Int × (Int × Int))) : Prop := MapOf (fun x : Int => .int .i64 x) enP w b l
theorem kInt_ : KLaw Tryd.prog 3 (fun x : Int => .int .i64 x) := klaw_int Tryd.underlying3
theorem zI (w : World) : (zeroValue 3).run Tryd.prog w = .ok (.int .i64 0) w := by kernel_rfl
theorem zP (w : World) : (zeroValue 73).run Tryd.prog w = .ok (.agg #[.int .i64 0, .int .i64 0]) w := by kernel_rfl
def tabN : List (Int × Int) := aput (aput (aput (aput [] 1 2) 2 2) 3 1) 4 1
def tabB : List (Int × (Int × Int)) := aput (aput (aput (aput [] 6 (1, 1)) 7 (1, 1)) 8 (1, 4)) 9 (2, 2)
def tabM : List (Int × Int) := aput (aput [] 5 2000) 7 5
/-- the last map of own -/
theorem most_facts {w : World} {g : Nat} {T : TypeId} {cs : Array Value} (h : Blk w g T cs) (k m : Int) (hm : ((aget tabM k).map (fun x : Int => Value.int .i64 x)).getD (.int .i64 0) = .int .i64 m) :
    ∃ w2 w3, (Instr.mapUpdate 82 (.map (some w.heap.size)) (.int .i64 5) (.int .i64 2000)).run Tryd.prog (w.alloc (.map #[] 0)) = .ok () w2 ∧ (Instr.mapUpdate 82 (.map (some w.heap.size)) (.int .i64 7) (.int .i64 5)).run Tryd.prog w2 = .ok () w3 ∧ (Instr.lookup 82 (.map (some w.heap.size)) (.int .i64 k) false).run Tryd.prog w3 = .ok (.int .i64 m) w3 ∧ Blk w3 g T cs ∧ Below w.heap.size w w3 := by
  have hM0 : MI (w.alloc (.map #[] 0)) w.heap.size [] := MapOf.made w
  obtain ⟨w2, r2, hM2, g2⟩ := hM0.update kInt_ Tryd.underlying82 5 2000
  obtain ⟨w3, r3, hM3, g3⟩ := hM2.update kInt_ Tryd.underlying82 7 5
  have hlk := hM3.lookup kInt_ Tryd.underlying82 (zI w3) k false (v := .int .i64 m) hm rfl
  simp only [Bool.false_eq_true, if_false] at hlk
  have h0 : Below w.heap.size w (w.alloc (.map #[] 0)) := (Below.refl _ _).alloc (Nat.le_refl _) _
  have hk : ∀ k, some w.heap.size = some k → w.heap.size ≤ k := fun k e => by injection e with e; omega
  have h2 := h0.grown g2 h0.size hk
  have h3 := h2.grown g3 h2.size hk
  exact ⟨w2, w3, r2, r3, hlk, h.belowB h3, h3⟩
/-- the first two maps of own -/
theorem two_maps (w0 : World) (c : Array Value) (T : TypeId) :
    ∃ w2 w3 w4 w5 w6 w7 w8 w9, (Instr.mapUpdate 82 (.map (some (w0.heap.size + 1))) (.int .i64 1) (.int .i64 2)).run Tryd.prog ((w0.alloc (.cells c T)).alloc (.map #[] 0)) = .ok () w2 ∧ (Instr.mapUpdate 82 (.map (some (w0.heap.size + 1))) (.int .i64 2) (.int .i64 2)).run Tryd.prog w2 = .ok () w3 ∧ (Instr.mapUpdate 82 (.map (some (w0.heap.size + 1))) (.int .i64 3) (.int .i64 1)).run Tryd.prog w3 = .ok () w4 ∧ (Instr.mapUpdate 82 (.map (some (w0.heap.size + 1))) (.int .i64 4) (.int .i64 1)).run Tryd.prog w4 = .ok () w5 ∧
      (Instr.mapUpdate 74 (.map (some w5.heap.size)) (.int .i64 6) (.agg #[.int .i64 1, .int .i64 1])).run Tryd.prog (w5.alloc (.map #[] 0)) = .ok () w6 ∧ (Instr.mapUpdate 74 (.map (some w5.heap.size)) (.int .i64 7) (.agg #[.int .i64 1, .int .i64 1])).run Tryd.prog w6 = .ok () w7 ∧ (Instr.mapUpdate 74 (.map (some w5.heap.size)) (.int .i64 8) (.agg #[.int .i64 1, .int .i64 4])).run Tryd.prog w7 = .ok () w8 ∧ (Instr.mapUpdate 74 (.map (some w5.heap.size)) (.int .i64 9) (.agg #[.int .i64 2, .int .i64 2])).run Tryd.prog w8 = .ok () w9 ∧
      Hid (Below w0.heap.size w0 w9 ∧ Blk w9 w0.heap.size T c ∧ MI w9 (w0.heap.size + 1) tabN ∧ MP w9 w5.heap.size tabB) := by
  obtain ⟨w1, hw1⟩ : ∃ w1, w0.alloc (.cells c T) = w1 := ⟨_, rfl⟩
  have hB1 : Below w0.heap.size w0 w1 := by rw [← hw1]; exact (Below.refl _ _).alloc (Nat.le_refl _) _
  have hs1 : w1.heap.size = w0.heap.size + 1 := by rw [← hw1]; simp
  have hK1 : Blk w1 w0.heap.size T c := by rw [← hw1]; exact Blk.new _ _ _
  rw [hw1]
  have hM0 : MI (w1.alloc (.map #[] 0)) (w0.heap.size + 1) [] := hs1 ▸ MapOf.made w1
  obtain ⟨w2, r2, hM2, g2⟩ := hM0.update kInt_ Tryd.underlying82 1 2
  obtain ⟨w3, r3, hM3, g3⟩ := hM2.update kInt_ Tryd.underlying82 2 2
  obtain ⟨w4, r4, hM4, g4⟩ := hM3.update kInt_ Tryd.underlying82 3 1
  obtain ⟨w5, r5, hM5, g5⟩ := hM4.update kInt_ Tryd.underlying82 4 1
  have hP5 : MP (w5.alloc (.map #[] 0)) w5.heap.size [] := MapOf.made w5
  obtain ⟨w6, r6, hM6, g6⟩ := hP5.update kInt_ Tryd.underlying74 6 (1, 1)
  obtain ⟨w7, r7, hM7, g7⟩ := hM6.update kInt_ Tryd.underlying74 7 (1, 1)
  obtain ⟨w8, r8, hM8, g8⟩ := hM7.update kInt_ Tryd.underlying74 8 (1, 4)
  obtain ⟨w9, r9, hM9, g9⟩ := hM8.update kInt_ Tryd.underlying74 9 (2, 2)
  have hB5 : Below w1.heap.size w1 w5 := by
    have h0 : Below w1.heap.size w1 (w1.alloc (.map #[] 0)) := (Below.refl _ _).alloc (Nat.le_refl _) _
    have hk : ∀ k, some w1.heap.size = some k → w1.heap.size ≤ k := fun k e => by injection e with e; omega
    rw [← hs1] at g2 g3 g4 g5
    have h2 := h0.grown g2 h0.size hk
    have h3 := h2.grown g3 h2.size hk
    have h4 := h3.grown g4 h3.size hk
    exact h4.grown g5 h4.size hk
  have hB9 : Below w5.heap.size w5 w9 := by
    have h0 : Below w5.heap.size w5 (w5.alloc (.map #[] 0)) := (Below.refl _ _).alloc (Nat.le_refl _) _
    have hk : ∀ k, some w5.heap.size = some k → w5.heap.size ≤ k := fun k e => by injection e with e; omega
    have h2 := h0.grown g6 h0.size hk
    have h3 := h2.grown g7 h2.size hk
    have h4 := h3.grown g8 h3.size hk
    exact h4.grown g9 h4.size hk
  refine ⟨w2, w3, w4, w5, w6, w7, w8, w9, r2, r3, r4, r5, r6, r7, r8, r9, Lib.hid ⟨?_, ?_, hM5.next hB9, hM9⟩⟩
  · exact (hB1.trans (hB5.mono hB1.size)).trans (hB9.mono (Nat.le_trans hB1.size hB5.size))
  · exact (hK1.belowB hB5).belowB hB9
section
variable {P : Program} {ops : Array Oper} {W : World} {l : List Own} {Q : Exit → Act → World → Prop} {gs : List Nat} {k : Nat} {o : Oper} {rest : List Oper} {a : Act} {R : Reg}
theorem Seq.lookI {t : TypeId} {x y : Operand} {X Y v : Value} (ho : o.op = .lookup t x y false) (hk : kd gs k o = .val) (hw : wants ops o a = true) (hx : a.eval x = X) (hy : a.eval y = Y)
    (hr : ∀ w, St W l w → (Instr.lookup t X Y false).run P w = .ok (if false then .tuple #[v, .bool true] else v) w) (h : Seq P ops Q W l gs (k + 1) rest (a.put o.dst v) R) : Seq P ops Q W l gs k (o :: rest) a R :=
  Seq.look hk hw (fun w hs => by
    unfold execOp
    simp only [ho, hx, hy, Sem.run_bind, hr w hs, Result.andThen_ok, Sem.run_pure]
    rfl) h
end
end Go.Proofs.YtekbpiooecdopaaDoor
