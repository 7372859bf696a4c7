/- Joined texts: Po0 Po1. -/
import Derived.Test.YtmchjmflkaiakaaGreatDoorSp2
import Derived.Deep.LoopGhost
/- Lists of points in memory. -/
namespace Go.Proofs.YtmchjmflkaiakaaGreatDoor
open Go.RowKit
set_option linter.unusedVariables false
set_option linter.unusedSimpArgs false
abbrev Pts := List (Rat × Rat)
def PC (ps : Pts) : Array Value := (ps.flatMap fun p => (VC p.1 p.2).toList).toArray
def px (ps : Pts) (i : Nat) : Rat := (ps.getD i (0, 0)).1
def py (ps : Pts) (i : Nat) : Rat := (ps.getD i (0, 0)).2
def Pz (k : Nat) (ps : Pts) : Prop := ∀ p ∈ ps, Rz k p.1 ∧ Rz k p.2
theorem getD_pt {ps : Pts} {i : Nat} (h : i < ps.length) : ps[i] = (px ps i, py ps i) := by
 unfold px py
 rw [List.getD_eq_getElem?_getD, List.getElem?_eq_getElem h]; rfl
theorem Pz.x {k : Nat} {ps : Pts} (h : Pz k ps) {i : Nat} (hi : i < ps.length) : Rz k (px ps i) := by
 have := (h _ (List.getElem_mem hi)).1; rwa [getD_pt hi] at this
theorem Pz.y {k : Nat} {ps : Pts} (h : Pz k ps) {i : Nat} (hi : i < ps.length) : Rz k (py ps i) := by
 have := (h _ (List.getElem_mem hi)).2; rwa [getD_pt hi] at this
theorem Pz.more {k l : Nat} {ps : Pts} (h : Pz k ps) (hk : k ≤ l) : Pz l ps := fun p hp => ⟨(h p hp).1.more hk, (h p hp).2.more hk⟩
def sliceOf (P : Program) (t : TypeId) (m : Nat) : Bool := match P.underlying t with | some (.slice e) => (P.info? e).map (·.size) == some m | _ => false
section
variable {P : Program} {ops : Array Oper} {W : World} {l : List Own} {Q : Exit → Act → World → Prop} {gs : List Nat} {k : Nat} {o : Oper} {rest : List Oper} {a : Act} {R : Reg}
theorem run_index {t : TypeId} {m g n c : Nat} {z : Int} {i : Nat} (ht : sliceOf P t m = true) (hz : z = (i : Int)) (hi : i < n) (w : World) :
  (Instr.indexAt t (.slice (some ⟨g, 0, none⟩) n c) (.int .i64 z)).run P w = .ok (.pointer (some ⟨g, m * i, none⟩)) w := by
 unfold sliceOf at ht
 cases hu : P.underlying t with
 | none => simp [hu] at ht
 | some d =>
   rw [hu] at ht
   cases d with
   | slice e =>
     simp only [beq_iff_eq] at ht
     cases hq : P.info? e with
     | none => simp [hq] at ht
     | some inf =>
       have hs : inf.size = m := by rw [hq] at ht; simpa using ht
       subst hz
       have h0 : (0 : Int) ≤ (i : Int) ∧ (i : Int) < (n : Int) := by omega
       simp [Instr.indexAt, run_underlying hu, asIntOf, sizeOf, typeInfo, hq, hs, hi, Addr.add_lit, Nat.mul_comm]
   | _ => simp at ht
theorem Seq.index {t : TypeId} {x y : Operand} {m g n c : Nat} {z : Int} (i : Nat) (ho : o.op = .indexAddr t x y) (hk : kd gs k o = .val) (hw : wants ops o a = true) (hx : a.eval x = .slice (some ⟨g, 0, none⟩) n c) (hy : a.eval y = .int .i64 z)
  (ht : sliceOf P t m = true) (hz : z = (i : Int)) (hi : i < n) (h : Seq P ops Q W l gs (k + 1) rest (a.put o.dst (.pointer (some ⟨g, m * i, none⟩))) R) : Seq P ops Q W l gs k (o :: rest) a R :=
 Seq.pure hk hw (fun w => by
  unfold execOp
  simp only [ho, hx, hy, Sem.run_bind, run_index ht hz hi, Result.andThen_ok, Sem.run_pure]) h
theorem iX {a' : Act} {t : TypeId} {x y : Operand} {g n c : Nat} {z : Int} (m i : Nat) (hi : i < n) (h : Seq P ops Q W l gs (k + 1) rest a' R) (ho : o.op = .indexAddr t x y := by rfl) (hk : kd gs k o = .val := by rfl) (hw : wants ops o a = true := by rfl) (hx : a.eval x = .slice (some ⟨g, 0, none⟩) n c := by rfl) (hy : a.eval y = .int .i64 z := by rfl) (ht : sliceOf P t m = true := by kernel_rfl) (hz : z = (i : Int) := by rfl) (ha : a.put o.dst (.pointer (some ⟨g, m * i, none⟩)) = a' := by simp only [Act.put, nA, nB, nC]; rfl) : Seq P ops Q W l gs k (o :: rest) a R := Seq.index i ho hk hw hx hy ht hz hi (by rw [ha]; exact h)
end
theorem sgn_pos {a : Rat} (h : 0 < a) : decide (sgnQ a ≤ 0) = false := decide_eq_false (by unfold sgnQ cmpQ; grind)
end Go.Proofs.YtmchjmflkaiakaaGreatDoor
