/- Joined texts: Po0 Po1. -/
import Derived.Test.YtmchjmflkaiakaaGreatDoorSp2
import Derived.Deep.LoopGhost
/- Lists of points in memory. -/
set_option maxHeartbeats 2000000
set_option maxRecDepth 20000
namespace Go.Proofs.YtmchjmflkaiakaaGreatDoor
open Go.RowKit
set_option linter.unusedVariables false
set_option linter.unusedSimpArgs false
abbrev Pts := List (Rat × Rat)
def PC (ps : Pts) : Array Value := (ps.flatMap fun p => (VC p.1 p.2).toList).toArray
def px (ps : Pts) (i : Nat) : Rat := (ps.getD i (0, 0)).1
def py (ps : Pts) (i : Nat) : Rat := (ps.getD i (0, 0)).2
def Pz (k : Nat) (ps : Pts) : Prop := ∀ p ∈ ps, Rz k p.1 ∧ Rz k p.2
theorem VC_list (x y : Rat) : (VC x y).toList.length = 6 := rfl
theorem PC_len (ps : Pts) : (PC ps).size = 6 * ps.length := by
 show (ps.flatMap fun p => (VC p.1 p.2).toList).length = _
 induction ps with
 | nil => rfl
 | cons p ps ih => rw [List.flatMap_cons, List.length_append, ih, VC_list, List.length_cons]; omega
theorem fm_drop (ps : Pts) (i : Nat) : (ps.flatMap fun p => (VC p.1 p.2).toList).drop (6 * i) = (ps.drop i).flatMap fun p => (VC p.1 p.2).toList := by
 induction i generalizing ps with
 | zero => rfl
 | succ i ih =>
   cases ps with
   | nil => simp
   | cons p ps =>
     rw [List.flatMap_cons, show 6 * (i + 1) = (VC p.1 p.2).toList.length + 6 * i by rw [VC_list]; omega, List.drop_append, Nat.add_sub_cancel_left, ih, List.drop_of_length_le (Nat.le_add_right _ _), List.nil_append, List.drop_succ_cons]
theorem getD_pt {ps : Pts} {i : Nat} (h : i < ps.length) : ps[i] = (px ps i, py ps i) := by
 unfold px py
 rw [List.getD_eq_getElem?_getD, List.getElem?_eq_getElem h]; rfl
theorem PC_at {ps : Pts} {i : Nat} (h : i < ps.length) : (PC ps).extract (6 * i) (6 * i + 6) = VC (px ps i) (py ps i) := by
 apply Array.toList_inj.1
 rw [Array.toList_extract, List.extract_eq_take_drop]
 show List.take _ (List.drop (6 * i) (ps.flatMap fun p => (VC p.1 p.2).toList)) = _
 rw [fm_drop, List.drop_eq_getElem_cons h, List.flatMap_cons, show 6 * i + 6 - 6 * i = (VC ps[i].1 ps[i].2).toList.length by rw [VC_list]; omega, List.take_left, getD_pt h]
theorem PC_room {ps : Pts} {i : Nat} (h : i < ps.length) : 6 * i + 6 ≤ (PC ps).size := by rw [PC_len]; omega
theorem lt_of_pts {ps : Pts} {n i : Nat} (h : ps.length = n) (hi : i < n) : i < ps.length := h ▸ hi
theorem Pz.x {k : Nat} {ps : Pts} (h : Pz k ps) {i : Nat} (hi : i < ps.length) : Rz k (px ps i) := by
 have := (h _ (List.getElem_mem hi)).1; rwa [getD_pt hi] at this
theorem Pz.y {k : Nat} {ps : Pts} (h : Pz k ps) {i : Nat} (hi : i < ps.length) : Rz k (py ps i) := by
 have := (h _ (List.getElem_mem hi)).2; rwa [getD_pt hi] at this
theorem Pz.more {k l : Nat} {ps : Pts} (h : Pz k ps) (hk : k ≤ l) : Pz l ps := fun p hp => ⟨(h p hp).1.more hk, (h p hp).2.more hk⟩
def sliceOf (P : Program) (t : TypeId) (m : Nat) : Bool := match P.underlying t with | some (.slice e) => (P.info? e).map (·.size) == some m | _ => false
section
variable {P : Program} {ops : Array Oper} {W : World} {l : List Own} {Q : Exit → Act → World → Prop} {gs : List Nat} {k : Nat} {o : Oper} {rest : List Oper} {a : Act} {R : Reg}
theorem run_index {t : TypeId} {m g n c : Nat} {z : Int} {i : Nat} (ht : sliceOf P t m = true) (hz : z = (i : Int)) (hi : i < n) (w : World) :
  (Instr.indexAt t (.slice (some ⟨g, 0, none⟩) n c) (.int .i64 z)).run P w = .ok (.pointer (some ⟨g, m * i, none⟩)) w := by
 unfold sliceOf at ht
 cases hu : P.underlying t with
 | none => simp [hu] at ht
 | some d =>
   rw [hu] at ht
   cases d with
   | slice e =>
     simp only [beq_iff_eq] at ht
     cases hq : P.info? e with
     | none => simp [hq] at ht
     | some inf =>
       have hs : inf.size = m := by rw [hq] at ht; simpa using ht
       subst hz
       have h0 : (0 : Int) ≤ (i : Int) ∧ (i : Int) < (n : Int) := by omega
       simp [Instr.indexAt, run_underlying hu, asIntOf, sizeOf, typeInfo, hq, hs, hi, Addr.add_lit, Nat.mul_comm]
   | _ => simp at ht
theorem Seq.index {t : TypeId} {x y : Operand} {m g n c : Nat} {z : Int} (i : Nat) (ho : o.op = .indexAddr t x y) (hk : kd gs k o = .val) (hw : wants ops o a = true) (hx : a.eval x = .slice (some ⟨g, 0, none⟩) n c) (hy : a.eval y = .int .i64 z)
  (ht : sliceOf P t m = true) (hz : z = (i : Int)) (hi : i < n) (h : Seq P ops Q W l gs (k + 1) rest (a.put o.dst (.pointer (some ⟨g, m * i, none⟩))) R) : Seq P ops Q W l gs k (o :: rest) a R :=
 Seq.pure hk hw (fun w => by
  unfold execOp
  simp only [ho, hx, hy, Sem.run_bind, run_index ht hz hi, Result.andThen_ok, Sem.run_pure]) h
theorem iX {a' : Act} {t : TypeId} {x y : Operand} {g n c : Nat} {z : Int} (m i : Nat) (hi : i < n) (h : Seq P ops Q W l gs (k + 1) rest a' R) (ho : o.op = .indexAddr t x y := by rfl) (hk : kd gs k o = .val := by rfl) (hw : wants ops o a = true := by rfl) (hx : a.eval x = .slice (some ⟨g, 0, none⟩) n c := by rfl) (hy : a.eval y = .int .i64 z := by rfl) (ht : sliceOf P t m = true := by kernel_rfl) (hz : z = (i : Int) := by rfl) (ha : a.put o.dst (.pointer (some ⟨g, m * i, none⟩)) = a' := by simp only [Act.put, nA, nB, nC]; rfl) : Seq P ops Q W l gs k (o :: rest) a R := Seq.index i ho hk hw hx hy ht hz hi (by rw [ha]; exact h)
end
def lf (ax ay bx by_ cx cy : Rat) : Rat := (bx - ax) * (cy - ay) - (by_ - ay) * (cx - ax)
theorem left_q {k : Nat} {a1 a2 b1 b2 c1 c2 : Rat} {z0 : Int} {W : World} {l : List Own} (hT : Tab W) (Za1 : Rz k a1) (Za2 : Rz k a2) (Zb1 : Rz k b1) (Zb2 : Rz k b2) (Zc1 : Rz k c1) (Zc2 : Rz k c2) (hz0 : sgnQ (lf a1 a2 b1 b2 c1 c2) = z0) (hk : k ≤ 137438953471) (w : World) (h : St W l w) : Rt 70 #[.agg (VC a1 a2), .agg (VC b1 b2), .agg (VC c1 c2)] w (.int .i64 z0) := by
 subst hz0
 unfold lf
 have HT := yh (tabS hT h); clear hT h
 have Z_a1 := yh Za1; clear Za1
 have Z_a2 := yh Za2; clear Za2
 have Z_b1 := yh Zb1; clear Zb1
 have Z_b2 := yh Zb2; clear Zb2
 have Z_c1 := yh Zc1; clear Zc1
 have Z_c2 := yh Zc2; clear Zc2
 go_enter Tryz.func70, Tryz.ntmps70
 have HS : St w [] w := St.start
 go_upto_region 0 with fail
 refine rgT [] HS ?_
 refine bX (VC a1 a2) ?_
 intro bk3 _ _ e3
 refine nZ ?_
 refine bX (VC b1 b2) ?_
 intro bk4 _ _ e4
 obtain ⟨_, _, e4⟩ := Reg.ne2 e4
 refine nZ ?_
 refine bX (VC c1 c2) ?_
 intro bk5 _ _ e5
 obtain ⟨_, _, e5⟩ := Reg.ne2 e5
 obtain ⟨_, _, e5⟩ := Reg.ne2 e5
 refine nZ ?_
 refine pU ?_
 refine dn3 bk3 bk4 bk5 fun _ HS1=>?_
 clear HS
 go_upto_region 1 with fail
 refine rgW [] HS1 ?_
 iterate 2 refine lV ?_
 refine cX rfl rfl (vsub_q (k := (1 * k + 0)) HT.out (zm Z_b1) (zm Z_b2) (zm Z_a1) (zm Z_a2)  rfl rfl (by omega)) ?_
 iterate 2 refine lV ?_
 refine cX rfl rfl (vsub_q (k := (1 * k + 0)) HT.out (zm Z_c1) (zm Z_c2) (zm Z_a1) (zm Z_a2)  rfl rfl (by omega)) ?_
 refine cX rfl rfl (cross_q (k := (4 * k + 1)) HT.out ((Z_b1.out.sub Z_a1.out).more (by omega)) ((Z_b2.out.sub Z_a2.out).more (by omega)) ((Z_c1.out.sub Z_a1.out).more (by omega)) ((Z_c2.out.sub Z_a2.out).more (by omega))  rfl (by omega)) ?_
 refine cX rfl rfl (sign_q (k := (32 * k + 9)) HT.out ((((Z_b1.out.sub Z_a1.out).mul (Z_c2.out.sub Z_a2.out)).sub ((Z_b2.out.sub Z_a2.out).mul (Z_c1.out.sub Z_a1.out))).more (by omega)) rfl (by omega)) ?_
 refine pU ?_
 refine dnS fun _ HS2=>?_
 clear HS1
 go_wp2_with fail
 go_ret
 exact ⟨rfl, HS2.below⟩
def lfp (ps : Pts) (i j m : Nat) : Rat := lf (px ps i) (py ps i) (px ps j) (py ps j) (px ps m) (py ps m)
def Cvx (ps : Pts) : Prop := ∀ i, i < ps.length → ∀ k, 2 ≤ k → k < ps.length → 0 < lfp ps i ((i + 1) % ps.length) ((i + k) % ps.length)
theorem sgn_pos {a : Rat} (h : 0 < a) : decide (sgnQ a ≤ 0) = false := decide_eq_false (by unfold sgnQ cmpQ; grind)
theorem i64_s (x : Int) (h0 : -9223372036854775808 ≤ x) (h1 : x ≤ 9223372036854775807) : IntKind.i64.wrap x = x := IntWalk.i64_in _ (by omega)
end Go.Proofs.YtmchjmflkaiakaaGreatDoor
