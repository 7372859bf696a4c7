/- Joined texts. -/
import Derived.Test.YtiejgkmjaphbcaaDoorSp2

/- Lists of points in memory. -/
namespace Go.Proofs.YtiejgkmjaphbcaaDoor
open Go.RowKit
set_option linter.unusedVariables false
set_option linter.unusedSimpArgs false

abbrev Pts := List (Rat × Rat)
def PC (ps : Pts) : Array Value := (ps.flatMap fun p => (VC p.1 p.2).toList).toArray
def px (ps : Pts) (i : Nat) : Rat := (ps.getD i (0, 0)).1
def py (ps : Pts) (i : Nat) : Rat := (ps.getD i (0, 0)).2
def Pz (k : Nat) (ps : Pts) : Prop := ∀ p ∈ ps, Rz k p.1 ∧ Rz k p.2
theorem VC_list (x y : Rat) : (VC x y).toList.length = 6 := rfl
theorem PC_len (ps : Pts) : (PC ps).size = 6 * ps.length := by
  show (ps.flatMap fun p => (VC p.1 p.2).toList).length = _
  induction ps with
  | nil => rfl
  | cons p ps ih => rw [List.flatMap_cons, List.length_append, ih, VC_list, List.length_cons]; omega
theorem fm_drop (ps : Pts) (i : Nat) : (ps.flatMap fun p => (VC p.1 p.2).toList).drop (6 * i) = (ps.drop i).flatMap fun p => (VC p.1 p.2).toList := by
  induction i generalizing ps with
  | zero => rfl
  | succ i ih =>
    cases ps with
    | nil => simp
    | cons p ps =>
      rw [List.flatMap_cons, show 6 * (i + 1) = (VC p.1 p.2).toList.length + 6 * i by rw [VC_list]; omega, List.drop_append, Nat.add_sub_cancel_left, ih, List.drop_of_length_le (Nat.le_add_right _ _), List.nil_append, List.drop_succ_cons]
theorem getD_pt {ps : Pts} {i : Nat} (h : i < ps.length) : ps[i] = (px ps i, py ps i) := by
  unfold px py
  rw [List.getD_eq_getElem?_getD, List.getElem?_eq_getElem h]; rfl
theorem PC_at {ps : Pts} {i : Nat} (h : i < ps.length) : (PC ps).extract (6 * i) (6 * i + 6) = VC (px ps i) (py ps i) := by
  apply Array.toList_inj.1
  rw [Array.toList_extract, List.extract_eq_take_drop]
  show List.take _ (List.drop (6 * i) (ps.flatMap fun p => (VC p.1 p.2).toList)) = _
  rw [fm_drop, List.drop_eq_getElem_cons h, List.flatMap_cons, show 6 * i + 6 - 6 * i = (VC ps[i].1 ps[i].2).toList.length by rw [VC_list]; omega, List.take_left, getD_pt h]
theorem PC_room {ps : Pts} {i : Nat} (h : i < ps.length) : 6 * i + 6 ≤ (PC ps).size := by rw [PC_len]; omega
theorem lt_of_pts {ps : Pts} {n i : Nat} (h : ps.length = n) (hi : i < n) : i < ps.length := h ▸ hi
theorem Pz.x {k : Nat} {ps : Pts} (h : Pz k ps) {i : Nat} (hi : i < ps.length) : Rz k (px ps i) := by
  have := (h _ (List.getElem_mem hi)).1; rwa [getD_pt hi] at this
theorem Pz.y {k : Nat} {ps : Pts} (h : Pz k ps) {i : Nat} (hi : i < ps.length) : Rz k (py ps i) := by
  have := (h _ (List.getElem_mem hi)).2; rwa [getD_pt hi] at this
theorem Pz.more {k l : Nat} {ps : Pts} (h : Pz k ps) (hk : k ≤ l) : Pz l ps := fun p hp => ⟨(h p hp).1.more hk, (h p hp).2.more hk⟩

/-- a slice's elements have m cells -/
def sliceOf (P : Program) (t : TypeId) (m : Nat) : Bool := match P.underlying t with | some (.slice e) => (P.info? e).map (·.size) == some m | _ => false
section
variable {P : Program} {ops : Array Oper} {W : World} {l : List Own} {Q : Exit → Act → World → Prop} {gs : List Nat} {k : Nat} {o : Oper} {rest : List Oper} {a : Act} {R : Reg}
theorem run_index {t : TypeId} {m g n c : Nat} {z : Int} {i : Nat} (ht : sliceOf P t m = true) (hz : z = (i : Int)) (hi : i < n) (w : World) :
    (Instr.indexAt t (.slice (some ⟨g, 0, none⟩) n c) (.int .i64 z)).run P w = .ok (.pointer (some ⟨g, m * i, none⟩)) w := by
  unfold sliceOf at ht
  cases hu : P.underlying t with
  | none => simp [hu] at ht
  | some d =>
    rw [hu] at ht
    cases d with
    | slice e =>
      simp only [beq_iff_eq] at ht
      cases hq : P.info? e with
      | none => simp [hq] at ht
      | some inf =>
        have hs : inf.size = m := by rw [hq] at ht; simpa using ht
        subst hz
        have h0 : (0 : Int) ≤ (i : Int) ∧ (i : Int) < (n : Int) := by omega
        simp [Instr.indexAt, run_underlying hu, asIntOf, sizeOf, typeInfo, hq, hs, hi, Addr.add_lit, Nat.mul_comm]
    | _ => simp at ht
theorem Seq.index {t : TypeId} {x y : Operand} {m g n c : Nat} {z : Int} (i : Nat) (ho : o.op = .indexAddr t x y) (hk : kd gs k o = .val) (hw : wants ops o a = true) (hx : a.eval x = .slice (some ⟨g, 0, none⟩) n c) (hy : a.eval y = .int .i64 z)
    (ht : sliceOf P t m = true) (hz : z = (i : Int)) (hi : i < n) (h : Seq P ops Q W l gs (k + 1) rest (a.put o.dst (.pointer (some ⟨g, m * i, none⟩))) R) : Seq P ops Q W l gs k (o :: rest) a R :=
  Seq.pure hk hw (fun w => by
    unfold execOp
    simp only [ho, hx, hy, Sem.run_bind, run_index ht hz hi, Result.andThen_ok, Sem.run_pure]) h
end
end Go.Proofs.YtiejgkmjaphbcaaDoor
