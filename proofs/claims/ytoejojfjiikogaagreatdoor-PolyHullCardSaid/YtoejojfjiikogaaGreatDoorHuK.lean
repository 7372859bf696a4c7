/- gantkeep1.points (printed by hulld.py). -/
import Derived.Test.YtoejojfjiikogaaGreatDoorHuF
import Derived.Test.YtoejojfjiikogaaGreatDoorHuJ
import Derived.Test.YtoejojfjiikogaaGreatDoorInvT
import Derived.Test.YtoejojfjiikogaaGreatDoorSp2
import Derived.Test.YtoejojfjiikogaaGreatDoorPo5
import Derived.Deep.LoopGhost
import Derived.OwnWalk
import Derived.Great.BuildSlice

namespace Go.Proofs.YtoejojfjiikogaaGreatDoor
open Go.RowKit
set_option linter.unusedVariables false
set_option linter.unusedSimpArgs false

def ptsN (xs : List Int) (m : Nat) : Pts := (List.range m).map fun j => (ratMq (xs.getD (2 * j) 0), ratMq (xs.getD (2 * j + 1) 0))
theorem ptsN_succ (xs : List Int) (m : Nat) : ptsN xs (m + 1) = ptsN xs m ++ [(ratMq (xs.getD (2 * m) 0), ratMq (xs.getD (2 * m + 1) 0))] := by simp [ptsN, List.range_succ]
theorem ptsN_len (xs : List Int) (m : Nat) : (ptsN xs m).length = m := by simp [ptsN]
theorem ptsN_z (xs : List Int) (m : Nat) : Pz 2 (ptsN xs m) := by
  intro p hp
  obtain ⟨j, -, rfl⟩ := List.mem_map.1 hp
  exact ⟨(ratMq_small _).rz.more (by omega), (ratMq_small _).rz.more (by omega)⟩
/-- a row of points of the call's own -/
def PR (w0 : World) (v : Value) (os : Pts) (w : World) : Prop := Rws w0 [⟨v, 26, 6, os.length, fl os⟩] w
section
variable {w0 w w' : World} {v : Value} {os : Pts}
theorem PR.next (h : PR w0 v os w) (hb : Below w.heap.size w w') : PR w0 v os w' := Rws.next h hb
theorem PR.below (h : PR w0 v os w) : Below w0.heap.size w0 w := Rws.below h
theorem PR.start : PR w (.slice none 0 0) [] w := Rws.nil Rws.start _ _
theorem PR.at_ (h : PR w0 v os w) : ∃ A c, v = .slice A os.length c ∧ AtP w A os.length os := by
  obtain ⟨h1, h2⟩ := h.own _ List.mem_cons_self
  rcases h2 with ⟨hv, hx⟩ | ⟨g', cap', cur, hv, hg, hh, hnc, hm, hs, hc⟩
  · dsimp only at hv hx
    exact ⟨none, 0, by rw [hx]; exact hv, rfl, fun i hi => absurd hi (by omega)⟩
  · dsimp only at h1 hv hg hh hnc hm hs hc
    refine ⟨_, cap', hv, rfl, fun i hi => ⟨g', cur.toList.drop (os.length * 6), rfl, ?_⟩⟩
    have : cur = PX (cur.toList.drop (os.length * 6)) os := by
      apply Array.toList_inj.1
      rw [PX_list, ← hc, List.take_append_drop]
    rw [← this]
    exact hh
theorem PR.add {x y : Rat} {n : Nat} (hn : os.length = n) (h : Rws w0 [⟨v, 26, 6, n + 1, fl os ++ (VC x y).toList⟩] w) : PR w0 v (os ++ [(x, y)]) w := by
  unfold PR
  have e : fl (os ++ [(x, y)]) = fl os ++ (VC x y).toList := by rw [fl_app]; simp [fl, pv]
  rw [e, List.length_append, hn]
  exact h
theorem PR.row {n : Nat} (hn : os.length = n) (h : PR w0 v os w) : Rws w0 [⟨v, 26, 6, n, fl os⟩] w := by subst hn; exact h
end
theorem Ints.nth {W : World} {A : Option Addr} {n c : Nat} {xs : List Int} (h : Ints W A n c xs) {i : Nat} (hi : i < n) : ∃ ad, A = some ad ∧ (ad.add i).block < W.heap.size ∧ W.cell? (ad.add i) = some (.int .i64 (xs.getD i 0)) ∧ (-9223372036854775808 ≤ xs.getD i 0 ∧ xs.getD i 0 ≤ 9223372036854775807) := by
  obtain ⟨ad, u, h1, h2, h3, h4⟩ := h.1.at_ hi
  have hl : i < xs.length := by rw [h.len]; exact hi
  have e : xs.getD i 0 = xs[i] := by simp [List.getD_eq_getElem?_getD, List.getElem?_eq_getElem hl]
  have hu : u = .int .i64 (xs.getD i 0) := by
    rw [e]
    simp [intsOf, List.getElem?_eq_getElem hl] at h3
    exact h3.symm
  have hbk : (ad.add i).block = ad.block := block_of_add _ _
  exact ⟨ad, h1, by rw [hbk]; exact h2, by rw [h4, hu], by rw [e]; exact h.2.2 _ (List.getElem_mem hl)⟩
theorem run_idxA (ad : Addr) (n c k : Nat) (h : k < n) (w : World) : (Instr.indexAt 47 (.slice (some ad) n c) (.int .i64 (k : Int))).run Tryz.prog w = .ok (.pointer (some (ad.add k))) w := by
  have i1 : (0 : Int) ≤ (k : Int) := by omega
  have i2 : (k : Int) < (n : Int) := by omega
  go_simp
theorem run_loadI (p : Addr) (x : Int) (w : World) (hc : w.cell? p = some (.int .i64 x)) : (loadVar 3 p).run Tryz.prog w = .ok (.int .i64 x) w := by
  go_simp
theorem add_one (x y : Operand) (i : Nat) (h : i ≤ 100) (w : World) : ((do eqGuard .add 3 x y (.int .i64 (i : Int)) (.int .i64 1); binOp .add 3 (.int .i64 (i : Int)) (.int .i64 1) : Sem Value)).run Tryz.prog w = .ok (.int .i64 ((i + 1 : Nat) : Int)) w := by
  have hw : IntKind.i64.wrap ((i : Int) + 1) = (i : Int) + 1 := IntWalk.i64_in _ (by omega)
  have e : ((i + 1 : Nat) : Int) = (i : Int) + 1 := by omega
  rw [e]
  go_simp
theorem slcP_1 {o : Oper} {a : Act} {X0 : Operand} {x0 y0 : Rat} (ho : o.op = .buildSlice 48 1 #[(0, X0)]) (h0 : a.eval X0 = .agg (VC x0 y0)) (w : World) :
    (execOp a.eval o).run Tryz.prog w = .ok (.value (.slice (some ⟨w.heap.size, 0, none⟩) 1 1)) (w.alloc (.cells (VC x0 y0) 26)) := by
  unfold VC at h0 ⊢
  unfold execOp
  simp only [ho, List.map_toArray, List.map_cons, List.map_nil, h0]
  go_simp
def isOneP (x y : Rat) : Told := fun u w => ∃ g, u = .slice (some ⟨g, 0, none⟩) 1 1 ∧ Blk w g 26 (VC x y)
theorem isOneP_st {x y : Rat} (v : Value) (w w' : World) (h : isOneP x y v w) (hb : Below w.heap.size w w') : isOneP x y v w' := by
  obtain ⟨g, e, h1⟩ := h
  exact ⟨g, e, h1.belowB hb⟩
theorem hu_asg {P : Program} {K : Act → World → Prop} {Q : Exit → Act → World → Prop} {o : Oper} {a : Act} {w : World} {x : Operand} (ho : o.op = .assign x) (h : K (a.put o.dst (a.eval x)) w) : o.wp P a w K Q := by
  unfold Oper.wp execOp
  simp only [ho]
  exact h
set_option maxHeartbeats 8000000 in
set_option maxRecDepth 20000 in
theorem points_R {A : Option Addr} {n c : Nat} {xs : List Int} (w : World) (hi : Ints w A n c xs) (hT : Tab w) :
    Calls Tryz.prog 18 #[.slice A n c] w fun e w' => ∃ v m, m ≤ 12 ∧ e = .returned v ∧ PR w v (ptsN xs m) w' := by
  have HI := Lib.hid hi; clear hi
  have HT := Lib.hid hT; clear hT
  have HP0 : Hid (PR w (.slice none 0 0) (ptsN xs 0) w) := Lib.hid PR.start
  go_enter Tryz.func18, Tryz.ntmps18
  go_wp2_with fail
  go_loopg [3, 4] 12 (fun kx s3 s4 wr => ∃ (j i : Nat) (A9 : Option Addr) (c9 : Nat), kx = 12 - j ∧ s3 = .slice A9 j c9 ∧ s4 = .int .i64 (i : Int) ∧ j ≤ 12 ∧ i = 2 * j ∧ Hid (PR w (.slice A9 j c9) (ptsN xs j) wr))
  case atStart => exact ⟨0, 0, none, 0, rfl, rfl, rfl, Nat.zero_le _, rfl, HP0⟩
  case round =>
    clear HP0
    obtain ⟨j, i, A9, c9, hgk, rfl, rfl, hj, hij, HP⟩ := hrel
    have HGK := Lib.hid hgk; clear hgk
    have HIJ := Lib.hid hij
    have hw1 : IntKind.i64.wrap ((i : Int) + 1) = (i : Int) + 1 := IntWalk.i64_in _ (by omega)
    have hw2 : IntKind.i64.wrap ((i : Int) + 2) = (i : Int) + 2 := IntWalk.i64_in _ (by omega)
    by_cases hc1 : i + 1 < n
    · have h1 : (i : Int) + 1 < (n : Int) := by omega
      have h1d : decide ((i : Int) + 1 < (n : Int)) = true := decide_eq_true h1
      by_cases hc2 : i < 24
      · have h2 : (i : Int) < 24 := by omega
        have h2d : decide ((i : Int) < 24) = true := decide_eq_true h2
        have HC := Lib.hid (And.intro hc1 hc2)
        obtain ⟨ad, rfl, b0, k0, r0⟩ := HI.out.nth (i := i) (by omega)
        obtain ⟨ad', e', b1, k1, r1⟩ := HI.out.nth (i := i + 1) hc1
        cases e'
        have HA0 := Lib.hid (And.intro b0 k0)
        have HA1 := Lib.hid (And.intro b1 k1)
        have HXR := Lib.hid (And.intro r0 r1)
        clear b0 k0 b1 k1 r0 r1 hij
        go_upto_region 5 with (fail)
        refine wp_inv_chainJ (S := (PR w (.slice A9 j c9) (ptsN xs j))) 12 [isV (.slice A9 j c9), isV (.slice (some ad) n c), isV (.int .i64 (i : Int)), isV (.pointer (some (ad.add i))), isV (.int .i64 (xs.getD i 0)), isV (.slice (some ad) n c), isV (.int .i64 (i : Int)), isV (.int .i64 ((i + 1 : Nat) : Int)), isV (.pointer (some (ad.add (i + 1)))), isV (.int .i64 (xs.getD (i + 1) 0)), isV (.agg (VC (ratMq (xs.getD i 0)) (ratMq (xs.getD (i + 1) 0)))), isOneP (ratMq (xs.getD i 0)) (ratMq (xs.getD (i + 1) 0))] rfl (by kernel_rfl) (by kernel_rfl) (by kernel_rfl) (by kernel_rfl) (fun _ _ h9 hb9 => h9.next hb9) HP.out ?plan ?last
        case plan =>
          refine PlanJ.cons (OpJ.mkV fun a wx hs hf hp => ?_) ?_
          · exact StepI.mov rfl (wants_none rfl) (hf.keep 3 (by kernel_rfl))
          refine PlanJ.cons (OpJ.mkV fun a wx hs hf hp => ?_) ?_
          · exact StepI.mov rfl (wants_none rfl) (hf.keep 0 (by kernel_rfl))
          refine PlanJ.cons (OpJ.mkV fun a wx hs hf hp => ?_) ?_
          · exact StepI.mov rfl (wants_none rfl) (hf.keep 4 (by kernel_rfl))
          refine PlanJ.cons (OpJ.mkV fun a wx hs hf hp => ?_) ?_
          · exact StepI.idx rfl (wants_none rfl) (hp 1 17 (by kernel_rfl) rfl) (hp 2 18 (by kernel_rfl) rfl) (run_idxA ad n c i (by have := HC.out; omega) wx) rfl
          refine PlanJ.cons (OpJ.mkV fun a wx hs hf hp => ?_) ?_
          · exact StepI.load rfl (wants_none rfl) (hp 3 19 (by kernel_rfl) rfl) (run_loadI (ad.add i) _ wx ((hs.below.cell (p := ad.add i) HA0.out.1).trans HA0.out.2)) rfl
          refine PlanJ.cons (OpJ.mkV fun a wx hs hf hp => ?_) ?_
          · exact StepI.mov rfl (wants_none rfl) (hf.keep 0 (by kernel_rfl))
          refine PlanJ.cons (OpJ.mkV fun a wx hs hf hp => ?_) ?_
          · exact StepI.mov rfl (wants_none rfl) (hf.keep 4 (by kernel_rfl))
          refine PlanJ.cons (OpJ.mkV fun a wx hs hf hp => ?_) ?_
          · exact StepI.bin rfl (wants_none rfl) (hp 6 22 (by kernel_rfl) rfl) rfl (add_one _ _ i (by have := HC.out; omega) wx) rfl
          refine PlanJ.cons (OpJ.mkV fun a wx hs hf hp => ?_) ?_
          · exact StepI.idx rfl (wants_none rfl) (hp 5 21 (by kernel_rfl) rfl) (hp 7 23 (by kernel_rfl) rfl) (run_idxA ad n c (i + 1) (by have := HC.out; omega) wx) rfl
          refine PlanJ.cons (OpJ.mkV fun a wx hs hf hp => ?_) ?_
          · exact StepI.load rfl (wants_none rfl) (hp 8 24 (by kernel_rfl) rfl) (run_loadI (ad.add (i + 1)) _ wx ((hs.below.cell (p := ad.add (i + 1)) HA1.out.1).trans HA1.out.2)) rfl
          refine PlanJ.cons (OpJ.mkV fun a wx hs hf hp => ?_) ?_
          · exact StepI.callV rfl (wants_none rfl) (args2 (hp 4 20 (by kernel_rfl) rfl) (hp 9 25 (by kernel_rfl) rfl)) (by kernel_rfl) (vector_q HT.out HXR.out.1 HXR.out.2 rfl rfl wx (St.begin hs.below))
          refine PlanJ.cons (OpJ.mk isOneP_st fun a wx hs hf hp => ?_) ?_
          · have e9 : a.eval (.tmp 26) = .agg (VC (ratMq (xs.getD i 0)) (ratMq (xs.getD (i + 1) 0))) := (hp 10 26 (by kernel_rfl) rfl)
            exact StepI.new (wants_none rfl) (slcP_1 rfl e9 wx) ((Below.refl _ _).alloc (Nat.le_refl _) _) ⟨_, rfl, Blk.new _ _ _⟩
          exact PlanJ.nil
        case last =>
          intro a wx hs hf hv
          obtain ⟨g9, e27, hb9⟩ := (show isOneP (ratMq (xs.getD i 0)) (ratMq (xs.getD (i + 1) 0)) (a.tmps.getD 27 undef) wx from hv 11 27 (by decide) rfl)
          have hput := hf.puts [(16, .slice A9 j c9), (17, .slice (some ad) n c), (18, .int .i64 (i : Int)), (19, .pointer (some (ad.add i))), (20, .int .i64 (xs.getD i 0)), (21, .slice (some ad) n c), (22, .int .i64 (i : Int)), (23, .int .i64 ((i + 1 : Nat) : Int)), (24, .pointer (some (ad.add (i + 1)))), (25, .int .i64 (xs.getD (i + 1) 0)), (26, .agg (VC (ratMq (xs.getD i 0)) (ratMq (xs.getD (i + 1) 0)))), (27, .slice (some ⟨g9, 0, none⟩) 1 1)] (by kernel_rfl) (List.forall_mem_cons.2 ⟨hv 0 16 (by decide) rfl, (List.forall_mem_cons.2 ⟨hv 1 17 (by decide) rfl, (List.forall_mem_cons.2 ⟨hv 2 18 (by decide) rfl, (List.forall_mem_cons.2 ⟨hv 3 19 (by decide) rfl, (List.forall_mem_cons.2 ⟨hv 4 20 (by decide) rfl, (List.forall_mem_cons.2 ⟨hv 5 21 (by decide) rfl, (List.forall_mem_cons.2 ⟨hv 6 22 (by decide) rfl, (List.forall_mem_cons.2 ⟨hv 7 23 (by decide) rfl, (List.forall_mem_cons.2 ⟨hv 8 24 (by decide) rfl, (List.forall_mem_cons.2 ⟨hv 9 25 (by decide) rfl, (List.forall_mem_cons.2 ⟨hv 10 26 (by decide) rfl, (List.forall_mem_cons.2 ⟨e27, (by intro p hp; cases hp)⟩)⟩)⟩)⟩)⟩)⟩)⟩)⟩)⟩)⟩)⟩)⟩)
          have HO9 := Lib.hid (PR.row (ptsN_len xs j) hs)
          have HB9 := Lib.hid hb9
          clear hf hv e27 hs hb9
          subst hput
          simp only [puts, Act.put, List.setIfInBounds_toArray, List.set_cons_zero, List.set_cons_succ]
          refine ⟨wants_none rfl, ?_⟩
          refine wp_append_row (.tmp 16) (.tmp 27) _ rfl Tryz.underlying48 infoV rfl rfl HO9.out rfl rfl (HB9.out.reads rfl rfl) (fun u hu => VC_one _ _ u (by simpa using hu)) (by omega) ?_
          intro v6 w6 hR6 hb6
          simp only [Act.put, List.setIfInBounds_toArray, List.set_cons_zero, List.set_cons_succ]
          refine ⟨wants_none rfl, ?_⟩
          refine hu_asg rfl ?_
          unfold chainW
          simp only [Act.eval, Act.put, List.setIfInBounds_toArray, List.set_cons_zero, List.set_cons_succ]
          have HR6 : Hid (PR w v6 (ptsN xs (j + 1)) w6) := Lib.hid (by
            have h9 := PR.add (ptsN_len xs j) hR6
            rw [ptsN_succ, ← HIJ.out]
            exact h9)
          clear hR6 hb6 HO9 HB9 HP
          obtain ⟨A10, c10, e10, -⟩ := HR6.out.at_
          rw [ptsN_len] at e10
          subst e10
          go_wp2_with fail
          go_roundg (12 - (j + 1))
          case measure => rw [HGK.out]; have := HC.out; have := HIJ.out; omega
          case rel => exact ⟨j + 1, i + 2, A10, c10, rfl, rfl, by go_num, by have := HC.out; have := HIJ.out; omega, by have := HIJ.out; omega, HR6⟩
      · have h2 : ¬ (i : Int) < 24 := by omega
        have h2d : decide ((i : Int) < 24) = false := decide_eq_false h2
        go_wp2_with fail
        go_ret
        exact ⟨_, j, hj, rfl, HP.out⟩
    · have h1 : ¬ (i : Int) + 1 < (n : Int) := by omega
      have h1d : decide ((i : Int) + 1 < (n : Int)) = false := decide_eq_false h1
      go_wp2_with fail
      go_ret
      exact ⟨_, j, hj, rfl, HP.out⟩
end Go.Proofs.YtoejojfjiikogaaGreatDoor
