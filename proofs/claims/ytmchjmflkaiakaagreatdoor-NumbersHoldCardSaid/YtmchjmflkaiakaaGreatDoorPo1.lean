/- Joined texts: Po0 Po1. -/
import Derived.Test.YtmchjmflkaiakaaGreatDoorSp2
import Derived.Deep.LoopGhost
/- Lists of points in memory. -/
namespace Go.Proofs.YtmchjmflkaiakaaGreatDoor
open Go.RowKit
set_option linter.unusedVariables false
set_option linter.unusedSimpArgs false
abbrev Pts := List (Rat × Rat)
def PC (ps : Pts) : Array Value := (ps.flatMap fun p => (VC p.1 p.2).toList).toArray
def px (ps : Pts) (i : Nat) : Rat := (ps.getD i (0, 0)).1
def py (ps : Pts) (i : Nat) : Rat := (ps.getD i (0, 0)).2
def Pz (k : Nat) (ps : Pts) : Prop := ∀ p ∈ ps, Rz k p.1 ∧ Rz k p.2
theorem VC_list (x y : Rat) : (VC x y).toList.length = 6 := rfl
theorem PC_len (ps : Pts) : (PC ps).size = 6 * ps.length := by
 show (ps.flatMap fun p => (VC p.1 p.2).toList).length = _
 induction ps with
 | nil => rfl
 | cons p ps ih => rw [List.flatMap_cons, List.length_append, ih, VC_list, List.length_cons]; omega
theorem fm_drop (ps : Pts) (i : Nat) : (ps.flatMap fun p => (VC p.1 p.2).toList).drop (6 * i) = (ps.drop i).flatMap fun p => (VC p.1 p.2).toList := by
 induction i generalizing ps with
 | zero => rfl
 | succ i ih =>
   cases ps with
   | nil => simp
   | cons p ps =>
     rw [List.flatMap_cons, show 6 * (i + 1) = (VC p.1 p.2).toList.length + 6 * i by rw [VC_list]; omega, List.drop_append, Nat.add_sub_cancel_left, ih, List.drop_of_length_le (Nat.le_add_right _ _), List.nil_append, List.drop_succ_cons]
theorem getD_pt {ps : Pts} {i : Nat} (h : i < ps.length) : ps[i] = (px ps i, py ps i) := by
 unfold px py
 rw [List.getD_eq_getElem?_getD, List.getElem?_eq_getElem h]; rfl
theorem PC_at {ps : Pts} {i : Nat} (h : i < ps.length) : (PC ps).extract (6 * i) (6 * i + 6) = VC (px ps i) (py ps i) := by
 apply Array.toList_inj.1
 rw [Array.toList_extract, List.extract_eq_take_drop]
 show List.take _ (List.drop (6 * i) (ps.flatMap fun p => (VC p.1 p.2).toList)) = _
 rw [fm_drop, List.drop_eq_getElem_cons h, List.flatMap_cons, show 6 * i + 6 - 6 * i = (VC ps[i].1 ps[i].2).toList.length by rw [VC_list]; omega, List.take_left, getD_pt h]
theorem PC_room {ps : Pts} {i : Nat} (h : i < ps.length) : 6 * i + 6 ≤ (PC ps).size := by rw [PC_len]; omega
theorem lt_of_pts {ps : Pts} {n i : Nat} (h : ps.length = n) (hi : i < n) : i < ps.length := h ▸ hi
theorem Pz.x {k : Nat} {ps : Pts} (h : Pz k ps) {i : Nat} (hi : i < ps.length) : Rz k (px ps i) := by
 have := (h _ (List.getElem_mem hi)).1; rwa [getD_pt hi] at this
theorem Pz.y {k : Nat} {ps : Pts} (h : Pz k ps) {i : Nat} (hi : i < ps.length) : Rz k (py ps i) := by
 have := (h _ (List.getElem_mem hi)).2; rwa [getD_pt hi] at this
theorem Pz.more {k l : Nat} {ps : Pts} (h : Pz k ps) (hk : k ≤ l) : Pz l ps := fun p hp => ⟨(h p hp).1.more hk, (h p hp).2.more hk⟩
def sliceOf (P : Program) (t : TypeId) (m : Nat) : Bool := match P.underlying t with | some (.slice e) => (P.info? e).map (·.size) == some m | _ => false
section
variable {P : Program} {ops : Array Oper} {W : World} {l : List Own} {Q : Exit → Act → World → Prop} {gs : List Nat} {k : Nat} {o : Oper} {rest : List Oper} {a : Act} {R : Reg}
theorem run_index {t : TypeId} {m g n c : Nat} {z : Int} {i : Nat} (ht : sliceOf P t m = true) (hz : z = (i : Int)) (hi : i < n) (w : World) :
  (Instr.indexAt t (.slice (some ⟨g, 0, none⟩) n c) (.int .i64 z)).run P w = .ok (.pointer (some ⟨g, m * i, none⟩)) w := by
 unfold sliceOf at ht
 cases hu : P.underlying t with
 | none => simp [hu] at ht
 | some d =>
   rw [hu] at ht
   cases d with
   | slice e =>
     simp only [beq_iff_eq] at ht
     cases hq : P.info? e with
     | none => simp [hq] at ht
     | some inf =>
       have hs : inf.size = m := by rw [hq] at ht; simpa using ht
       subst hz
       have h0 : (0 : Int) ≤ (i : Int) ∧ (i : Int) < (n : Int) := by omega
       simp [Instr.indexAt, run_underlying hu, asIntOf, sizeOf, typeInfo, hq, hs, hi, Addr.add_lit, Nat.mul_comm]
   | _ => simp at ht
theorem Seq.index {t : TypeId} {x y : Operand} {m g n c : Nat} {z : Int} (i : Nat) (ho : o.op = .indexAddr t x y) (hk : kd gs k o = .val) (hw : wants ops o a = true) (hx : a.eval x = .slice (some ⟨g, 0, none⟩) n c) (hy : a.eval y = .int .i64 z)
  (ht : sliceOf P t m = true) (hz : z = (i : Int)) (hi : i < n) (h : Seq P ops Q W l gs (k + 1) rest (a.put o.dst (.pointer (some ⟨g, m * i, none⟩))) R) : Seq P ops Q W l gs k (o :: rest) a R :=
 Seq.pure hk hw (fun w => by
  unfold execOp
  simp only [ho, hx, hy, Sem.run_bind, run_index ht hz hi, Result.andThen_ok, Sem.run_pure]) h
theorem iX {a' : Act} {t : TypeId} {x y : Operand} {g n c : Nat} {z : Int} (m i : Nat) (hi : i < n) (h : Seq P ops Q W l gs (k + 1) rest a' R) (ho : o.op = .indexAddr t x y := by rfl) (hk : kd gs k o = .val := by rfl) (hw : wants ops o a = true := by rfl) (hx : a.eval x = .slice (some ⟨g, 0, none⟩) n c := by rfl) (hy : a.eval y = .int .i64 z := by rfl) (ht : sliceOf P t m = true := by kernel_rfl) (hz : z = (i : Int) := by rfl) (ha : a.put o.dst (.pointer (some ⟨g, m * i, none⟩)) = a' := by simp only [Act.put, nA, nB, nC]; rfl) : Seq P ops Q W l gs k (o :: rest) a R := Seq.index i ho hk hw hx hy ht hz hi (by rw [ha]; exact h)
end
set_option maxHeartbeats 4000000
set_option maxRecDepth 20000
def lf (ax ay bx by_ cx cy : Rat) : Rat := (bx - ax) * (cy - ay) - (by_ - ay) * (cx - ax)
theorem left_q {k : Nat} {a1 a2 b1 b2 c1 c2 : Rat} {z0 : Int} {W : World} {l : List Own} (hT : Tab W) (Za1 : Rz k a1) (Za2 : Rz k a2) (Zb1 : Rz k b1) (Zb2 : Rz k b2) (Zc1 : Rz k c1) (Zc2 : Rz k c2) (hz0 : sgnQ (lf a1 a2 b1 b2 c1 c2) = z0) (hk : k ≤ 137438953471) (w : World) (h : St W l w) :
  Calls Tryz.prog 70 #[.agg (VC a1 a2), .agg (VC b1 b2), .agg (VC c1 c2)] w fun e w' => e = .returned (.int .i64 z0) ∧ Below w.heap.size w w' := by
 subst hz0
 unfold lf
 have HT := Lib.hid (tabS hT h); clear hT h
 have Z_a1 := Lib.hid Za1; clear Za1
 have Z_a2 := Lib.hid Za2; clear Za2
 have Z_b1 := Lib.hid Zb1; clear Zb1
 have Z_b2 := Lib.hid Zb2; clear Zb2
 have Z_c1 := Lib.hid Zc1; clear Zc1
 have Z_c2 := Lib.hid Zc2; clear Zc2
 go_enter Tryz.func70, Tryz.ntmps70
 have HS : St w [] w := St.start
 go_upto_region 0 with fail
 refine rgT [] HS ?_
 refine bX (VC a1 a2) ?_
 intro bk3 _ _ hbk3_r
 refine nZ ?_
 refine bX (VC b1 b2) ?_
 intro bk4 _ _ hbk4_r
 obtain ⟨_, _, hbk4_r⟩ := Reg.ne2 hbk4_r
 refine nZ ?_
 refine bX (VC c1 c2) ?_
 intro bk5 _ _ hbk5_r
 obtain ⟨_, _, hbk5_r⟩ := Reg.ne2 hbk5_r
 obtain ⟨_, _, hbk5_r⟩ := Reg.ne2 hbk5_r
 refine nZ ?_
 refine pU ?_
 refine Seq.done fun ws1 hws => ?_
 have HS1 := hws.q3 (p := bk3) (q := bk4) (r := bk5)
 clear HS hws
 go_upto_region 1 with fail
 refine rgW [] HS1 ?_
 iterate 2 refine lV ?_
 refine cX rfl rfl (vsub_q (k := (1 * k + 0)) HT.out (Z_b1.out.more (by omega)) (Z_b2.out.more (by omega)) (Z_a1.out.more (by omega)) (Z_a2.out.more (by omega))  rfl rfl (by omega)) ?_
 iterate 2 refine lV ?_
 refine cX rfl rfl (vsub_q (k := (1 * k + 0)) HT.out (Z_c1.out.more (by omega)) (Z_c2.out.more (by omega)) (Z_a1.out.more (by omega)) (Z_a2.out.more (by omega))  rfl rfl (by omega)) ?_
 refine cX rfl rfl (cross_q (k := (4 * k + 1)) HT.out ((Z_b1.out.sub Z_a1.out).more (by omega)) ((Z_b2.out.sub Z_a2.out).more (by omega)) ((Z_c1.out.sub Z_a1.out).more (by omega)) ((Z_c2.out.sub Z_a2.out).more (by omega))  rfl (by omega)) ?_
 refine cX rfl rfl (sign_q (k := (32 * k + 9)) HT.out ((((Z_b1.out.sub Z_a1.out).mul (Z_c2.out.sub Z_a2.out)).sub ((Z_b2.out.sub Z_a2.out).mul (Z_c1.out.sub Z_a1.out))).more (by omega)) rfl (by omega)) ?_
 refine pU ?_
 refine dS fun _ HS2=>?_
 clear HS1
 go_wp2_with fail
 go_ret
 exact ⟨rfl, HS2.below⟩
def lfp (ps : Pts) (i j m : Nat) : Rat := lf (px ps i) (py ps i) (px ps j) (py ps j) (px ps m) (py ps m)
def Cvx (ps : Pts) : Prop := ∀ i, i < ps.length → ∀ k, 2 ≤ k → k < ps.length → 0 < lfp ps i ((i + 1) % ps.length) ((i + k) % ps.length)
theorem sgn_pos {a : Rat} (h : 0 < a) : decide (sgnQ a ≤ 0) = false := decide_eq_false (by unfold sgnQ cmpQ; grind)
theorem i64_s (x : Int) (h0 : -9223372036854775808 ≤ x) (h1 : x ≤ 9223372036854775807) : IntKind.i64.wrap x = x := IntWalk.i64_in _ (by omega)
theorem check_q {k n most : Nat} {ps : Pts} {W : World} {l : List Own} (hT : Tab W) (hz : Pz k ps) (hl : ps.length = n) (h3 : 3 ≤ n) (hn : n ≤ most) (hm : most ≤ 1000) (hcv : Cvx ps) (hk : k ≤ 137438953471) (g : Nat) (w : World) (h : St W l w) (hg : Blk w g 29 (PC ps)) :
  Calls Tryz.prog 99 #[.slice (some ⟨g, 0, none⟩) n n, .int .i64 (most : Int)] w fun e w' => e = .returned (.int .i64 0) ∧ Below w.heap.size w w' := by
 have HT := Lib.hid (tabS hT h); clear hT h
 have HG := Lib.hid hg; clear hg
 have HZP := Lib.hid (show Pz (1 * k + 0) ps by rw [Nat.one_mul]; exact hz); clear hz
 have HCV := Lib.hid hcv; clear hcv
 have HN := Lib.hid (show n ≤ most ∧ (3 : Int) ≤ (n : Int) ∧ n ≤ 1000 ∧ 3 ≤ n from ⟨by omega, by omega, by omega, h3⟩)
 have HNZ := Lib.hid (show ¬ n = 0 by omega)
 have HL := Lib.hid hl; clear hl h3 hn hm
 go_enter Tryz.func99, Tryz.ntmps99
 have HS : St w [] w := St.start
 go_upto_region 0 with fail
 refine rgT [] HS ?_
 refine pU ?_
 refine dS fun _ HS1=>?_
 clear HS
 go_upto_region 1 with fail
 refine rgT [] HS1 ?_
 refine pU ?_
 refine pV (.int .i64 (n : Int)) (by intro w; go_simp; try rfl) ?_
 refine pU ?_
 refine dS fun _ HS2=>?_
 clear HS1
 go_upto_region 2 with fail
 refine rgT [] HS2 ?_
 iterate 2 refine pU ?_
 refine pV (.bool false) (by intro w; go_simp <;> (first | (rw [HN.out.1]; done) | exact HN.out.1 | (simp [HN.out.1]; done) | (trace_state; done))) ?_
 refine pU ?_
 refine dS fun _ HS3=>?_
 clear HS2
 go_upto_region 4 with fail
 refine rgT [] HS3 ?_
 refine pU ?_
 refine pV (.bool false) (by intro w; go_simp <;> (first | (rw [HN.out.2.1]; done) | exact HN.out.2.1 | (simp [HN.out.2.1]; done) | (trace_state; done))) ?_
 refine pU ?_
 refine dS fun _ HS4=>?_
 clear HS3
 go_upto_region 6 with fail
 refine rgT [] HS4 ?_
 refine pU ?_
 refine pV (.int .i64 (n : Int)) (by intro w; go_simp; try rfl) ?_
 refine pU ?_
 refine dS fun _ HS5=>?_
 clear HS4
 go_wp2_with fail
 go_loopg [20] n (fun kk s20 wr => ∃ i : Nat, kk = n - i ∧ s20 = .int .i64 (i : Int) ∧ i ≤ n ∧ Hid (St w [] wr))
 case atStart => exact ⟨0, rfl, rfl, by omega, Lib.hid HS5⟩
 case round =>
  obtain ⟨i, hgk, rfl, hin, hS⟩ := hrel
  have HGK := Lib.hid hgk; clear hgk
  have HR := hS.out; clear hS
  by_cases hc : i < n
  ·have HC := Lib.hid hc
   obtain ⟨i1, hi1⟩ : ∃ i1 : Nat, i1 = i + 1 := ⟨_, rfl⟩
   have HI1 := Lib.hid (show IntKind.i64.wrap ((i : Int) + 1) = (i1 : Int) ∧ n - i1 < n - i ∧ i1 ≤ n from ⟨by have := HN.out.2.2.1; rw [i64_s _ (by omega) (by omega)]; omega, by omega, by omega⟩)
   have HI0 := Lib.hid hi1; clear hi1 hc
   go_upto_region 7 with fail
   refine rgT [] HR ?_
   refine pV (.bool true) (by intro w; go_simp <;> (first | (rw [HC.out]; done) | exact HC.out | (simp [HC.out]; done) | (trace_state; done))) ?_
   refine dS fun ws6 HS6=>?_
   clear HR
   go_upto_region 8 with fail
   refine rgT [] HS6 ?_
   refine pU ?_
   refine iX 6 i HC.out ?_
   refine lF HG.out (VC (px ps i) (py ps i)) (PC_room (lt_of_pts HL.out HC.out)) (PC_at (lt_of_pts HL.out HC.out)) ?_
   refine aL6 ?_
   intro bk7 _ _ hbk7_r
   refine nZ ?_
   refine pU ?_
   refine sV (VC_one _ _) ?_
   refine d1 bk7 fun ws7 HS7=>?_
   clear HS6
   go_upto_region 9 with fail
   refine rgT [] HS7 ?_
   refine pU ?_
   refine dS fun _ HS8=>?_
   clear HS7
   go_wp2_with fail
   go_loopg [8] (n - 2) (fun kk s8 wr => ∃ k2 : Nat, kk = n - k2 ∧ s8 = .int .i64 (k2 : Int) ∧ (2 ≤ k2 ∧ k2 ≤ n) ∧ Hid (St w [(bk7, 29, VC (px ps i) (py ps i))] wr))
   case atStart => exact ⟨2, rfl, rfl, ⟨by omega, by have := HN.out.2.2.2; omega⟩, Lib.hid HS8⟩
   case round =>
    obtain ⟨k2, hgk2, rfl, hk2, hS2⟩ := hrel
    have HGK2 := Lib.hid hgk2; clear hgk2
    have HR2 := hS2.out; clear hS2
    by_cases hc2 : k2 < n
    ·obtain ⟨j, hj⟩ : ∃ j : Nat, j = i1 % n := ⟨_, rfl⟩
     obtain ⟨s, hs⟩ : ∃ s : Nat, s = i + k2 := ⟨_, rfl⟩
     obtain ⟨m, hm⟩ : ∃ m : Nat, m = s % n := ⟨_, rfl⟩
     obtain ⟨k3, hk3⟩ : ∃ k3 : Nat, k3 = k2 + 1 := ⟨_, rfl⟩
     obtain ⟨v, hv, hv0⟩ : ∃ v, sgnQ (lfp ps i j m) = v ∧ decide (v ≤ 0) = false := ⟨_, rfl, sgn_pos (by
      have h1 := HCV.out i (by rw [HL.out]; exact HC.out) k2 hk2.1 (by rw [HL.out]; exact hc2)
      rw [HL.out, ← HI0.out, ← hs, ← hj, ← hm] at h1; exact h1)⟩
     have HV := Lib.hid hv; clear hv
     have HB := Lib.hid (show j < n ∧ m < n ∧ (i1 : Int).tmod (n : Int) = (j : Int) ∧ IntKind.i64.wrap ((i : Int) + (k2 : Int)) = (s : Int) ∧ (s : Int).tmod (n : Int) = (m : Int) from ⟨by rw [hj]; exact Nat.mod_lt _ (by omega), by rw [hm]; exact Nat.mod_lt _ (by omega), by rw [hj]; exact Int.tmod_eq_emod_of_nonneg (by omega), by have := HN.out.2.2.1; rw [i64_s _ (by omega) (by omega)]; omega, by rw [hm]; exact Int.tmod_eq_emod_of_nonneg (by omega)⟩)
     have HC2 := Lib.hid hc2
     have HK3 := Lib.hid (show IntKind.i64.wrap ((k2 : Int) + 1) = (k3 : Int) ∧ n - k3 < n - k2 ∧ (2 ≤ k3 ∧ k3 ≤ n) from ⟨by have := HN.out.2.2.1; rw [i64_s _ (by omega) (by omega)]; omega, by omega, by omega, by omega⟩)
     clear hj hs hm hk3 hk2 hc2 hin
     go_upto_region 10 with fail
     refine rgT [] HR2 ?_
     iterate 2 refine pU ?_
     refine pV (.bool true) (by intro w; go_simp <;> (first | (rw [HC2.out]; done) | exact HC2.out | (simp [HC2.out]; done) | (trace_state; done))) ?_
     refine dS fun ws9 HS9=>?_
     clear HR2
     go_upto_region 12 with fail
     refine rgW [] HS9 ?_
     refine lV ?_
     iterate 2 refine pU ?_
     refine pV (.int .i64 (i1 : Int)) (by intro w; go_simp <;> (first | (rw [HI1.out.1]; done) | exact HI1.out.1 | (simp [HI1.out.1]; done) | (trace_state; done))) ?_
     refine pU ?_
     refine pV (.int .i64 (j : Int)) (by intro w; go_simp <;> (first | (rw [HNZ.out]; done) | (rw [HB.out.2.2.1]; done) | exact HNZ.out | exact HB.out.2.2.1 | (simp [HNZ.out, HB.out.2.2.1]; done) | (trace_state; done))) ?_
     refine iX 6 j HB.out.1 ?_
     refine lF HG.out (VC (px ps j) (py ps j)) (PC_room (lt_of_pts HL.out HB.out.1)) (PC_at (lt_of_pts HL.out HB.out.1)) ?_
     iterate 3 refine pU ?_
     refine pV (.int .i64 (s : Int)) (by intro w; go_simp <;> (first | (rw [HB.out.2.2.2.1]; done) | exact HB.out.2.2.2.1 | (simp [HB.out.2.2.2.1]; done) | (trace_state; done))) ?_
     refine pU ?_
     refine pV (.int .i64 (m : Int)) (by intro w; go_simp <;> (first | (rw [HNZ.out]; done) | (rw [HB.out.2.2.2.2]; done) | exact HNZ.out | exact HB.out.2.2.2.2 | (simp [HNZ.out, HB.out.2.2.2.2]; done) | (trace_state; done))) ?_
     refine iX 6 m HB.out.2.1 ?_
     refine lF HG.out (VC (px ps m) (py ps m)) (PC_room (lt_of_pts HL.out HB.out.2.1)) (PC_at (lt_of_pts HL.out HB.out.2.1)) ?_
     refine cX rfl rfl (left_q (k := (1 * k + 0)) HT.out ((HZP.out.x (lt_of_pts HL.out HC.out)).more (by omega)) ((HZP.out.y (lt_of_pts HL.out HC.out)).more (by omega)) ((HZP.out.x (lt_of_pts HL.out HB.out.1)).more (by omega)) ((HZP.out.y (lt_of_pts HL.out HB.out.1)).more (by omega)) ((HZP.out.x (lt_of_pts HL.out HB.out.2.1)).more (by omega)) ((HZP.out.y (lt_of_pts HL.out HB.out.2.1)).more (by omega)) HV.out (by omega)) ?_
     refine pU ?_
     refine dS fun ws10 HS10=>?_
     clear HS9
     go_upto_region 11 with fail
     refine rgT [] HS10 ?_
     refine pU ?_
     refine pV (.int .i64 (k3 : Int)) (by intro w; go_simp <;> (first | (rw [HK3.out.1]; done) | exact HK3.out.1 | (simp [HK3.out.1]; done) | (trace_state; done))) ?_
     refine pU ?_
     refine dS fun _ HS11=>?_
     clear HS10
     go_wp2_with fail
     go_roundg (n - k3)
     case measure => rw [HGK2.out]; exact HK3.out.2.1
     case rel => exact ⟨k3, rfl, rfl, HK3.out.2.2, Lib.hid HS11⟩
    ·have HC2 := Lib.hid (show n ≤ k2 by omega)
     clear hc2 hk2 hin
     go_upto_region 10 with fail
     refine rgT [] HR2 ?_
     iterate 2 refine pU ?_
     refine pV (.bool false) (by intro w; go_simp <;> (first | (rw [HC2.out]; done) | exact HC2.out | (simp [HC2.out]; done) | (trace_state; done))) ?_
     refine dS fun _ HS9=>?_
     clear HR2
     go_upto_region 14 with fail
     refine rgT [] HS9 ?_
     refine pV (.int .i64 (i1 : Int)) (by intro w; go_simp <;> (first | (rw [HI1.out.1]; done) | exact HI1.out.1 | (simp [HI1.out.1]; done) | (trace_state; done))) ?_
     refine pU ?_
     refine dS fun _ HS10=>?_
     clear HS9
     go_wp2_with fail
     go_roundg (n - i1)
     case measure => rw [HGK.out]; exact HI1.out.2.1
     case rel => exact ⟨i1, rfl, rfl, HI1.out.2.2, Lib.hid HS10.drop⟩
  ·have HC := Lib.hid (show n ≤ i by omega)
   clear hc hin
   go_upto_region 7 with fail
   refine rgT [] HR ?_
   refine pV (.bool false) (by intro w; go_simp <;> (first | (rw [HC.out]; done) | exact HC.out | (simp [HC.out]; done) | (trace_state; done))) ?_
   refine dS fun _ HS6=>?_
   clear HR
   go_upto_region 15 with fail
   refine rgT [] HS6 ?_
   refine pU ?_
   refine dS fun _ HS7=>?_
   clear HS6
   go_wp2_with fail
   go_ret
   exact ⟨rfl, HS7.below⟩
end Go.Proofs.YtmchjmflkaiakaaGreatDoor
