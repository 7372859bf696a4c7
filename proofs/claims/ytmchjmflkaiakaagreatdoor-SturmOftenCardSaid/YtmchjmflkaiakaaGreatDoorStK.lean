/- Joined texts: StK StM StN. -/
import Derived.Test.YtmchjmflkaiakaaGreatDoorStJ
import Derived.Deep.LoopGhost
import Derived.OwnWalk
set_option maxHeartbeats 4000000
set_option maxRecDepth 20000
namespace Go.Proofs.YtmchjmflkaiakaaGreatDoor
open Go.RowKit
set_option linter.unusedVariables false
set_option linter.unusedSimpArgs false
theorem mid01_v : midQ (0, 1) = 1 / 2 := by unfold midQ; grind
theorem mid01 {K : Nat} (h : 2 ≤ K) : MidZ K (0, 1) := by
 have e : (0 : Rat) + 1 = 1 := by grind
 refine ⟨Rz.zero2.more h, Rz.one2.more h, ?_, ?_⟩
 ·show Rz K (0 + 1)
  rw [e]; exact Rz.one2.more h
 ·rw [mid01_v]; exact Rz.half.more h
def LrB (W : World) (lr : List Own) (w : World) : Prop := Below W.heap.size W w ∧ ∀ e ∈ lr, e.1 < w.heap.size
theorem LrB.next {W w w' : World} {lr : List Own} (h : LrB W lr w) (hb : Below w.heap.size w w') : LrB W lr w' := ⟨h.1.trans (hb.mono h.1.size), fun e he => Nat.lt_of_lt_of_le (h.2 e he) hb.size⟩
theorem w_box {P : Program} {Q : Exit → Act → World → Prop} {a : Act} {w : World} {K : Act → World → Prop} {o : Oper} {t : TypeId} {x : Operand} {v : Value} {cs : Array Value} (ho : o.op = .box t x) (hx : a.eval x = v) (hc : v.cells = cs)
  (h : K (a.put o.dst (.pointer (some ⟨w.heap.size, 0, none⟩))) (w.alloc (.cells cs t))) : o.wp P a w K Q := by
 subst hc
 have hr : (execOp a.eval o).run P w = .ok (.value (.pointer (some ⟨w.heap.size, 0, none⟩))) (w.alloc (.cells v.cells t)) := by
  unfold execOp
  simp only [ho, hx]
  simp [Instr.box, newVar, newRow, go_sem]
 unfold Oper.wp
 rw [hr]
 exact h
def isOneSp (W : World) (lr : List Own) (m : Rat) : Told := fun u w => ∃ g, u = .slice (some ⟨g, 0, none⟩) 1 1 ∧ W.heap.size ≤ g ∧ (∀ e ∈ lr, e.1 ≠ g) ∧ Blk w g 32 (VC m m)
theorem isOneSp_st {W : World} {lr : List Own} {m : Rat} (v : Value) (w w' : World) (h : isOneSp W lr m v w) (hb : Below w.heap.size w w') : isOneSp W lr m v w' := by
 obtain ⟨g, h1, h2, h3, h4⟩ := h
 exact ⟨g, h1, h2, h3, h4.belowB hb⟩
theorem isOneSp_kp {W : World} {lr : List Own} {m : Rat} {v : Value} {w w' : World} (h : isOneSp W lr m v w) (hb : KeptB W lr w w') : isOneSp W lr m v w' := by
 obtain ⟨g, h1, h2, h3, h4⟩ := h
 exact ⟨g, h1, h2, h3, hb _ _ _ h2 h3 h4⟩
theorem isOneSp_new {W : World} {lr : List Own} {m : Rat} (w : World) (h : LrB W lr w) : isOneSp W lr m (.slice (some ⟨w.heap.size, 0, none⟩) 1 1) (w.alloc (.cells (VC m m) 32)) :=
 ⟨_, rfl, h.1.size, fun e he e9 => by have := h.2 e he; omega, Blk.new _ _ _⟩
theorem split_none {K : Nat} {cs : List Nums} {out : List Spn} {lo hi : Rat} {W0 : World} {vc : Value} (HT : Hid (Tab W0)) (HC : Hid (CAt W0 vc cs)) (HNE : Hid (cs ≠ [])) (H2 : Hid (2 ≤ K)) (HK : Hid (K ≤ 1000000000000)) (HZ1 : Hid (ChZ K cs lo)) (HZ2 : Hid (ChZ K cs hi)) (HU : Hid (CtR cs (lo, hi) = 0)) :
  ∀ (l : List Own) (v : Value) (w : World), RowSt W0 l v out w → Calls Tryz.prog 75 #[vc, v, .agg (VC lo hi)] w fun e w' => ∃ v', e = .returned v' ∧ RowSt W0 l v' out w' := by
 intro l v w hRow
 obtain ⟨lr, hrl, hst⟩ := hRow
 have HRL := yh hrl; clear hrl
 have HST := yh hst; clear hst
 go_enter Tryz.func75, Tryz.ntmps75
 go_upto_region 0 with fail
 refine wp_seq_text [] (StR.no HST.out) ?_
 refine bX (VC lo hi) ?_
 intro b5 _ _ hb5
 refine nZ ?_
 refine pU ?_
 refine Seq.done fun wz hws => ?_
 have HS1 := hws.q1
 clear hws HST
 go_upto_region 1 with fail
 refine rgT [] HS1 ?_
 refine pU ?_
 refine lV ?_
 refine cL (countP_q (K := K) HT.out HC.out HNE.out HZ1.out HZ2.out HU.out HK.out) ?_
 refine pU ?_
 refine dnS fun w2 HS2=>?_
 clear HS1
 have HE : Hid (RowSt W0 l v out w2) := yh ⟨lr, HRL.out, HS2.drop⟩
 clear HS2
 go_wp2_with fail
 go_ret
 exact ⟨v, rfl, HE.out⟩
theorem split_one {K : Nat} {cs : List Nums} {out : List Spn} {lo hi : Rat} {W0 : World} {vc : Value} (HT : Hid (Tab W0)) (HC : Hid (CAt W0 vc cs)) (HNE : Hid (cs ≠ [])) (H2 : Hid (2 ≤ K)) (HK : Hid (K ≤ 1000000000000)) (HZ1 : Hid (ChZ K cs lo)) (HZ2 : Hid (ChZ K cs hi)) (HU : Hid (CtR cs (lo, hi) = 1)) (hlen : out.length ≤ 1000) :
  ∀ (l : List Own) (v : Value) (w : World), RowSt W0 l v out w → Calls Tryz.prog 75 #[vc, v, .agg (VC lo hi)] w fun e w' => ∃ v', e = .returned v' ∧ RowSt W0 l v' (out ++ [(lo, hi)]) w' := by
 intro l v w hRow
 obtain ⟨lr, hrl, hst⟩ := hRow
 have HRL := yh hrl; clear hrl
 have HST := yh hst; clear hst
 go_enter Tryz.func75, Tryz.ntmps75
 go_upto_region 0 with fail
 refine wp_seq_text [] (StR.no HST.out) ?_
 refine bX (VC lo hi) ?_
 intro b5 _ _ hb5
 refine nZ ?_
 refine pU ?_
 refine Seq.done fun wz hws => ?_
 have HS1 := hws.q1
 clear hws HST
 go_upto_region 1 with fail
 refine rgT [] HS1 ?_
 refine pU ?_
 refine lV ?_
 refine cL (countP_q (K := K) HT.out HC.out HNE.out HZ1.out HZ2.out HU.out HK.out) ?_
 refine pU ?_
 refine dnS fun _ HS2=>?_
 clear HS1
 go_upto_region 5 with fail
 refine wp_seq_textC 3 [] rfl rfl rfl (StR.no HS2) ?_
 refine pU ?_
 refine lV ?_
 refine Seq.slice (n := 1) (e := 32) (cs := VC lo hi) rfl rfl (fun w => slcS_1 rfl rfl w) ?_
 intro b23 _ _ hb23
 refine nZ ?_
 refine Seq.done fun w3 hws => ?_
 have HROW : Hid (RowSt W0 l v out w3) := yh ⟨lr, HRL.out, hws.st.drop⟩
 have HB9 := yh ((hws.q1 (p := b23)).blk _ List.mem_cons_self).2
 clear hws HS2
 refine ⟨wants_none rfl, ?_⟩
 refine RowSt.append rfl Tryz.underlying58 infoSp HROW.out rfl rfl HB9.out (by omega) ?_
 intro v6 w6 hR6
 have HE := yh hR6
 clear hR6
 simp only [Act.put, List.setIfInBounds_toArray, List.set_cons_zero, List.set_cons_succ]
 refine ⟨wants_none rfl, ?_⟩
 refine st_asg rfl ?_
 unfold chainW
 simp only [Act.eval, Act.put, List.setIfInBounds_toArray, List.set_cons_zero, List.set_cons_succ]
 go_wp2_with fail
 go_ret
 exact ⟨v6, rfl, HE.out⟩
theorem split_two {K : Nat} {cs : List Nums} {out o1 o2 : List Spn} {lo hi m : Rat} {u : Int} {W0 : World} {vc : Value} (HT : Hid (Tab W0)) (HC : Hid (CAt W0 vc cs)) (HNE : Hid (cs ≠ [])) (H2 : Hid (2 ≤ K)) (HK : Hid (K ≤ 1000000000000)) (HZ1 : Hid (ChZ K cs lo)) (HZ2 : Hid (ChZ K cs hi)) (HU : Hid (CtR cs (lo, hi) = u)) (hu0b : (u == 0) = false) (hu1b : (u == 1) = false)
  (HMZ : Hid (MidZ K (lo, hi))) (HM : Hid (midQ (lo, hi) = m)) (HZM : Hid (ChZ K cs m)) (HD : Hid (decide (ev (cs.headD []) m = 0) = false))
  (HIA : Hid (∀ (l : List Own) (v : Value) (w : World), RowSt W0 l v out w → Calls Tryz.prog 75 #[vc, v, .agg (VC lo m)] w fun e w' => ∃ v', e = .returned v' ∧ RowSt W0 l v' o1 w'))
  (HIB : Hid (∀ (l : List Own) (v : Value) (w : World), RowSt W0 l v o1 w → Calls Tryz.prog 75 #[vc, v, .agg (VC m hi)] w fun e w' => ∃ v', e = .returned v' ∧ RowSt W0 l v' o2 w')) :
  ∀ (l : List Own) (v : Value) (w : World), RowSt W0 l v out w → Calls Tryz.prog 75 #[vc, v, .agg (VC lo hi)] w fun e w' => ∃ v', e = .returned v' ∧ RowSt W0 l v' o2 w' := by
 intro l v w hRow
 obtain ⟨lr, hrl, hst⟩ := hRow
 have HRL := yh hrl; clear hrl
 have HST := yh hst; clear hst
 go_enter Tryz.func75, Tryz.ntmps75
 go_upto_region 0 with fail
 refine wp_seq_text [] (StR.no HST.out) ?_
 refine bX (VC lo hi) ?_
 intro b5 _ _ hb5
 refine nZ ?_
 refine pU ?_
 refine Seq.done fun wz hws => ?_
 have HS1 := hws.q1
 clear hws HST
 go_upto_region 1 with fail
 refine rgT [] HS1 ?_
 refine pU ?_
 refine lV ?_
 refine cL (countP_q (K := K) HT.out HC.out HNE.out HZ1.out HZ2.out HU.out HK.out) ?_
 refine pU ?_
 refine dnS fun _ HS2=>?_
 clear HS1
 go_upto_region 2 with fail
 refine rgT [] HS2 ?_
 refine pU ?_
 refine pV (.bool false) (by intro w; go_simp <;> (first | (rw [hu0b]; done) | exact hu0b | omega | exact IntWalk.i64_in _ (by omega) | (go_num; done) | (simp [hu0b]; done))) ?_
 refine pU ?_
 refine dnS fun _ HS3=>?_
 clear HS2
 go_upto_region 4 with fail
 refine rgT [] HS3 ?_
 refine pU ?_
 refine pV (.bool false) (by intro w; go_simp <;> (first | (rw [hu1b]; done) | exact hu1b | omega | exact IntWalk.i64_in _ (by omega) | (go_num; done) | (simp [hu1b]; done))) ?_
 refine pU ?_
 refine dnS fun _ HS4=>?_
 clear HS3
 go_upto_region 6 with fail
 refine rgT [] HS4 ?_
 refine lV ?_
 refine cL (middle_q (K := K) HT.out H2.out HMZ.out HM.out HK.out) ?_
 refine aL3 ?_
 intro b8 _ _ hb8
 refine nZ ?_
 refine sV (RC_one _) ?_
 refine Seq.done fun w5 hws => ?_
 have HS5 := hws.q1
 clear hws HS4
 go_upto_region 7 with fail
 refine rgT [] HS5 ?_
 refine pU ?_
 refine lV ?_
 refine cL (zeroP_q (K := K) HT.out HC.out HNE.out HZM.out HD.out HK.out) ?_
 refine pU ?_
 refine Seq.done fun w6 hws => ?_
 have HS6 : St W0 ((b8, 27, RC m) :: (b5, 32, VC lo hi) :: (lr ++ l)) w6 := hws.st
 clear hws HS5
 have HS7 := yh HS6
 have HB58 : Hid (Blk w6 b5 32 (VC lo hi) ∧ Blk w6 b8 27 (RC m)) := yh ⟨(HS6.blk _ (List.mem_cons_of_mem _ List.mem_cons_self)).2, (HS6.blk _ List.mem_cons_self).2⟩
 have HPRE : Hid (St W0 (lr ++ ((b8, 27, RC m) :: (b5, 32, VC lo hi) :: l)) w6) := yh (HS6.perm (List.perm_append_comm_assoc [_, _] lr l))
 clear HS6 HS7
 go_upto_region 8 with fail
 refine wp_inv_chainO (S := (fun wx => Blk wx b5 32 (VC lo hi) ∧ Blk wx b8 27 (RC m))) 12 7 (fun wx wy => (Blk wx b5 32 (VC lo hi) ∧ Blk wx b8 27 (RC m)) → (Blk wy b5 32 (VC lo hi) ∧ Blk wy b8 27 (RC m))) (fun wx => St W0 (lr ++ ((b8, 27, RC m) :: (b5, 32, VC lo hi) :: l)) wx) (isV (vc) :: isV (vc) :: isV (v) :: isV (.pointer (some ⟨b5, 0, none⟩)) :: isV (.agg (RC lo)) :: isV (.agg (RC m)) :: isV (.agg (VC lo m)) :: (fun u wx => RowSt W0 ((b8, 27, RC m) :: (b5, 32, VC lo hi) :: l) u o1 wx) :: isV (.agg (RC m)) :: isV (.pointer (some ⟨b5, 3, none⟩)) :: isV (.agg (RC hi)) :: isV (.agg (VC m hi)) :: []) rfl (by kernel_rfl) (by kernel_rfl) (by kernel_rfl) (by kernel_rfl) (fun _ _ h9 hb9 => ⟨h9.1.belowB hb9, h9.2.belowB hb9⟩) (fun _ _ h9 hb9 => hb9 h9) (fun _ _ h9 hb9 => h9.next hb9) HB58.out HPRE.out ?plan ?last
 case plan =>
  refine PlanO.val (by decide) (fun a wx hs hf hp => ?_) ?_
  ·exact StepI.mov rfl (wants_none rfl) (hf.keep 0 (by kernel_rfl))
  refine PlanO.val (by decide) (fun a wx hs hf hp => ?_) ?_
  ·exact StepI.mov rfl (wants_none rfl) (hf.keep 0 (by kernel_rfl))
  refine PlanO.val (by decide) (fun a wx hs hf hp => ?_) ?_
  ·exact StepI.mov rfl (wants_none rfl) (hf.keep 1 (by kernel_rfl))
  refine PlanO.val (by decide) (fun a wx hs hf hp => ?_) ?_
  ·exact StepI.fld rfl (wants_none rfl) (hf.keep 5 (by kernel_rfl)) (run_fldS0 _ wx) rfl
  refine PlanO.val (by decide) (fun a wx hs hf hp => ?_) ?_
  ·exact StepI.load rfl (wants_none rfl) (hp 3 34 (by kernel_rfl) rfl) (run_load_part hs.1 (n := 3) (Nat.le_of_ble_eq_true rfl) (by kernel_rfl)) rfl
  refine PlanO.val (by decide) (fun a wx hs hf hp => ?_) ?_
  ·exact StepI.load rfl (wants_none rfl) (hf.keep 8 (by kernel_rfl)) (run_load_whole hs.2 rfl (by kernel_rfl)) rfl
  refine PlanO.val (by decide) (fun a wx hs hf hp => ?_) ?_
  ·have e1 : a.eval (.tmp 35) = .agg (RC lo) := (hp 4 35 (by kernel_rfl) rfl)
   have e2 : a.eval (.tmp 36) = .agg (RC m) := (hp 5 36 (by kernel_rfl) rfl)
   exact StepI.val (wants_none rfl) (bld_Span rfl e1 e2 wx) rfl
  refine PlanO.on rfl (fun _ _ _ h9 hb9 => h9.next hb9) (fun a wx hs hpre hf hp => ?_) ?_
  ·refine ⟨wants_none rfl, w_call rfl (args3 (hp 1 32 (by kernel_rfl) rfl) (hp 2 33 (by kernel_rfl) rfl) (hp 6 37 (by kernel_rfl) rfl)) (by kernel_rfl) (HIA.out _ v wx ⟨lr, HRL.out, hpre⟩) fun e w9 h9 => ?_⟩
   obtain ⟨v9, e9, h9⟩ := h9
   exact ⟨v9, e9, v9, rfl, h9, fun _ => ⟨(h9.st.blk _ (List.mem_cons_of_mem _ List.mem_cons_self)).2, (h9.st.blk _ List.mem_cons_self).2⟩⟩
  refine PlanO.val (by decide) (fun a wx hs hf hp => ?_) ?_
  ·exact StepI.load rfl (wants_none rfl) (hf.keep 8 (by kernel_rfl)) (run_load_whole hs.2 rfl (by kernel_rfl)) rfl
  refine PlanO.val (by decide) (fun a wx hs hf hp => ?_) ?_
  ·exact StepI.fld rfl (wants_none rfl) (hf.keep 5 (by kernel_rfl)) (run_fldS1 _ wx) rfl
  refine PlanO.val (by decide) (fun a wx hs hf hp => ?_) ?_
  ·exact StepI.load rfl (wants_none rfl) (hp 9 40 (by kernel_rfl) rfl) (run_load_part hs.1 (n := 3) (Nat.le_of_ble_eq_true rfl) (by kernel_rfl)) rfl
  refine PlanO.val (by decide) (fun a wx hs hf hp => ?_) ?_
  ·have e1 : a.eval (.tmp 39) = .agg (RC m) := (hp 8 39 (by kernel_rfl) rfl)
   have e2 : a.eval (.tmp 41) = .agg (RC hi) := (hp 10 41 (by kernel_rfl) rfl)
   exact StepI.val (wants_none rfl) (bld_Span rfl e1 e2 wx) rfl
  exact PlanO.nil
 case last =>
  intro a wx hs hf hv
  obtain ⟨v38, e38⟩ : ∃ v38, a.tmps.getD 38 undef = v38 := ⟨_, rfl⟩
  have h38 : RowSt W0 ((b8, 27, RC m) :: (b5, 32, VC lo hi) :: l) v38 o1 wx := by
   have h9 := hv 7 38 (by decide) rfl
   rw [e38] at h9
   exact h9
  have hput := hf.puts ((31, vc) :: (32, vc) :: (33, v) :: (34, .pointer (some ⟨b5, 0, none⟩)) :: (35, .agg (RC lo)) :: (36, .agg (RC m)) :: (37, .agg (VC lo m)) :: (38, v38) :: (39, .agg (RC m)) :: (40, .pointer (some ⟨b5, 3, none⟩)) :: (41, .agg (RC hi)) :: (42, .agg (VC m hi)) :: []) (by kernel_rfl) (List.forall_mem_cons.2 ⟨hv 0 31 (by decide) rfl, (List.forall_mem_cons.2 ⟨hv 1 32 (by decide) rfl, (List.forall_mem_cons.2 ⟨hv 2 33 (by decide) rfl, (List.forall_mem_cons.2 ⟨hv 3 34 (by decide) rfl, (List.forall_mem_cons.2 ⟨hv 4 35 (by decide) rfl, (List.forall_mem_cons.2 ⟨hv 5 36 (by decide) rfl, (List.forall_mem_cons.2 ⟨hv 6 37 (by decide) rfl, (List.forall_mem_cons.2 ⟨e38, (List.forall_mem_cons.2 ⟨hv 8 39 (by decide) rfl, (List.forall_mem_cons.2 ⟨hv 9 40 (by decide) rfl, (List.forall_mem_cons.2 ⟨hv 10 41 (by decide) rfl, (List.forall_mem_cons.2 ⟨hv 11 42 (by decide) rfl, (by intro p hp; cases hp)⟩)⟩)⟩)⟩)⟩)⟩)⟩)⟩)⟩)⟩)⟩)⟩)
  have H38 := yh h38
  clear hf hv e38 hs h38
  subst hput
  simp only [puts, Act.put, List.setIfInBounds_toArray, List.set_cons_zero, List.set_cons_succ]
  refine ⟨wants_none rfl, ?_⟩
  refine w_call (vs := #[vc, v38, .agg (VC m hi)]) rfl rfl (by kernel_rfl) (HIB.out _ v38 wx H38.out) fun e w9 h9 => ?_
  obtain ⟨v9, e9, h9⟩ := h9
  refine ⟨v9, e9, ?_⟩
  have HE : Hid (RowSt W0 l v9 o2 w9) := yh (h9.less ((List.sublist_cons_self _ _).trans (List.sublist_cons_self _ _)))
  clear e9 h9
  simp only [Act.put, List.setIfInBounds_toArray, List.set_cons_zero, List.set_cons_succ]
  refine ⟨wants_none rfl, ?_⟩
  refine st_asg rfl ?_
  unfold chainW
  simp only [Act.eval, Act.put, List.setIfInBounds_toArray, List.set_cons_zero, List.set_cons_succ]
  go_wp2_with fail
  go_ret
  exact ⟨v9, rfl, HE.out⟩
theorem split_root {K nn : Nat} {cs : List Nums} {out o1 o2 : List Spn} {lo hi m by0 tl th : Rat} {u : Int} {W0 : World} {vc : Value} (HT : Hid (Tab W0)) (HC : Hid (CAt W0 vc cs)) (HNE : Hid (cs ≠ [])) (H2 : Hid (2 ≤ K)) (HK : Hid (K ≤ 1000000000000)) (HZ1 : Hid (ChZ K cs lo)) (HZ2 : Hid (ChZ K cs hi)) (HU : Hid (CtR cs (lo, hi) = u)) (hu0b : (u == 0) = false) (hu1b : (u == 1) = false)
  (HMZ : Hid (MidZ K (lo, hi))) (HM : Hid (midQ (lo, hi) = m)) (HZM : Hid (ChZ K cs m)) (HD : Hid (decide (ev (cs.headD []) m = 0) = true)) (HRM : Hid (Rz K m)) (HHZ : Hid (Rz K hi)) (HBY : Hid (hi - m = by0)) (HNR : Hid (NrR K cs m nn by0 (tl, th))) (hlen : o1.length ≤ 1000)
  (HIA : Hid (∀ (l : List Own) (v : Value) (w : World), RowSt W0 l v out w → Calls Tryz.prog 75 #[vc, v, .agg (VC lo tl)] w fun e w' => ∃ v', e = .returned v' ∧ RowSt W0 l v' o1 w'))
  (HIB : Hid (∀ (l : List Own) (v : Value) (w : World), RowSt W0 l v (o1 ++ [(m, m)]) w → Calls Tryz.prog 75 #[vc, v, .agg (VC th hi)] w fun e w' => ∃ v', e = .returned v' ∧ RowSt W0 l v' o2 w')) :
  ∀ (l : List Own) (v : Value) (w : World), RowSt W0 l v out w → Calls Tryz.prog 75 #[vc, v, .agg (VC lo hi)] w fun e w' => ∃ v', e = .returned v' ∧ RowSt W0 l v' o2 w' := by
 intro l v w hRow
 obtain ⟨lr, hrl, hst⟩ := hRow
 have HRL := yh hrl; clear hrl
 have HST := yh hst; clear hst
 go_enter Tryz.func75, Tryz.ntmps75
 go_upto_region 0 with fail
 refine wp_seq_textC 0 [] rfl rfl rfl (StR.no HST.out) ?_
 refine dnS fun wz HSZ=>?_
 clear HST
 refine ⟨wants_none rfl, ?_⟩
 refine w_box (v := .agg (VC lo hi)) (cs := VC lo hi) rfl rfl rfl ?_
 obtain ⟨b5, hb5⟩ : ∃ b5, wz.heap.size = b5 := ⟨_, rfl⟩
 have HLT : Hid (∀ e ∈ lr, e.1 < b5) := yh (fun e he => by rw [← hb5]; exact (HSZ.blk e (List.mem_append_left _ he)).2.lt)
 have HS1 : St W0 ((b5, 32, VC lo hi) :: (lr ++ l)) (wz.alloc (.cells (VC lo hi) 32)) := by rw [← hb5]; exact HSZ.box _ _
 rw [hb5]
 generalize wz.alloc (.cells (VC lo hi) 32) = wy at HS1 ⊢
 clear hb5 HSZ
 simp only [Act.put, List.setIfInBounds_toArray, List.set_cons_zero, List.set_cons_succ]
 refine ⟨wants_none rfl, ?_⟩
 refine st_asg rfl ?_
 unfold chainW
 simp only [Act.eval, Act.put, List.setIfInBounds_toArray, List.set_cons_zero, List.set_cons_succ]
 go_upto_region 1 with fail
 refine rgT [] HS1 ?_
 refine pU ?_
 refine lV ?_
 refine cL (countP_q (K := K) HT.out HC.out HNE.out HZ1.out HZ2.out HU.out HK.out) ?_
 refine pU ?_
 refine dnS fun _ HS2=>?_
 clear HS1
 go_upto_region 2 with fail
 refine rgT [] HS2 ?_
 refine pU ?_
 refine pV (.bool false) (by intro w; go_simp <;> (first | (rw [hu0b]; done) | exact hu0b | omega | exact IntWalk.i64_in _ (by omega) | (go_num; done) | (simp [hu0b]; done))) ?_
 refine pU ?_
 refine dnS fun _ HS3=>?_
 clear HS2
 go_upto_region 4 with fail
 refine rgT [] HS3 ?_
 refine pU ?_
 refine pV (.bool false) (by intro w; go_simp <;> (first | (rw [hu1b]; done) | exact hu1b | omega | exact IntWalk.i64_in _ (by omega) | (go_num; done) | (simp [hu1b]; done))) ?_
 refine pU ?_
 refine dnS fun _ HS4=>?_
 clear HS3
 go_upto_region 6 with fail
 refine rgT [] HS4 ?_
 refine lV ?_
 refine cL (middle_q (K := K) HT.out H2.out HMZ.out HM.out HK.out) ?_
 refine aL3 ?_
 intro b8 _ _ hb8
 refine nZ ?_
 refine sV (RC_one _) ?_
 refine Seq.done fun w5 hws => ?_
 have HS5 := hws.q1
 clear hws HS4
 go_upto_region 7 with fail
 refine rgT [] HS5 ?_
 refine pU ?_
 refine lV ?_
 refine cL (zeroP_q (K := K) HT.out HC.out HNE.out HZM.out HD.out HK.out) ?_
 refine pU ?_
 refine Seq.done fun w6 hws => ?_
 have HS6 : St W0 ((b8, 27, RC m) :: (b5, 32, VC lo hi) :: (lr ++ l)) w6 := hws.st
 clear hws HS5
 go_upto_region 9 with fail
 refine rgT [] HS6 ?_
 refine pU ?_
 refine lA (RC hi) ?_
 refine lV ?_
 refine cX rfl rfl (sub_q (k := K) HT.out HHZ.out HRM.out HBY.out (by have := HK.out; omega)) ?_
 refine aL3 ?_
 intro b9 _ _ hb9
 refine nZ ?_
 refine sV (RC_one _) ?_
 refine dh1 b9 fun _ HS7=>?_
 clear HS6
 have HNR2 : Hid (NrR K cs m nn by0 (tl, th)) := HNR
 go_wp2_with fail
 go_loopg [1, 10] nn (fun kx s1 s10 wr => ∃ (byx : Rat), v = s1 ∧ Hid (NrR K cs m kx byx (tl, th)) ∧ Hid (St W0 ((b9, 27, RC byx) :: (b8, 27, RC m) :: (b5, 32, VC lo hi) :: (lr ++ l)) wr))
 case atStart => exact ⟨by0, rfl, HNR2, HS7⟩
 case round =>
  clear HS7 HNR2
  obtain ⟨byx, rfl, HN, HS⟩ := hrel
  have hcase := HN.out
  clear HN
  obtain ⟨b, hbx⟩ : ∃ b, byx * (1 / 2) = b := ⟨_, rfl⟩
  have HBX := yh hbx
  obtain ⟨u2, hu2⟩ : ∃ u2, CtR cs (m - b, m + b) = u2 := ⟨_, rfl⟩
  have HU2 := yh hu2
  have HFACT : Hid (Rz K byx ∧ Rz K b ∧ ChZ K cs (m - b) ∧ ChZ K cs (m + b)) := yh (by
   cases hcase with
   | stop h0 h1 h2 h3 h4 h5 h6 h7 => rw [hbx] at h1; subst h1; exact ⟨h0, h2, h3, h4⟩
   | step h0 h1 h2 h3 h4 h5 h => rw [hbx] at h1; subst h1; exact ⟨h0, h2, h3, h4⟩)
  have HF1 := yh HFACT.out.1
  have HF2 := yh HFACT.out.2.1
  have HF3 := yh HFACT.out.2.2.1
  have HF4 := yh HFACT.out.2.2.2
  clear HFACT
  have HCASE := yh hcase
  clear hcase hbx
  have HS8 := yh (StR.move (StR.no HS.out))
  clear HS
  go_upto_region 10 with fail
  refine wS [0] (Reg.fin.put Reg.fin_no _ _) HS8.out ?_
  refine gV ?_
  refine cX rfl rfl (of_q (n := 0) (z := 0) HT.out (by omega) (by omega) (by simp)) ?_
  refine cX rfl rfl (of_q (n := 1) (z := 1) HT.out (by omega) (by omega) (by simp)) ?_
  refine pV (.agg (VC 0 1)) (fun w => bld_Span rfl rfl rfl w) ?_
  refine cL (middle_q (K := K) HT.out H2.out (mid01 H2.out) mid01_v HK.out) ?_
  refine cX rfl rfl (mul_q (k := K) HT.out HF1.out (Rz.half.more H2.out) HBX.out (by have := HK.out; omega)) ?_
  refine sV (RC_one _) ?_
  refine dn1 b9 fun _ HS9=>?_
  clear HS8
  go_upto_region 11 with fail
  refine rgW [] HS9 ?_
  iterate 2 refine lV ?_
  refine cX rfl rfl (sub_q (k := K) HT.out HRM.out HF2.out rfl (by have := HK.out; omega)) ?_
  iterate 2 refine lV ?_
  refine cX rfl rfl (add_q (k := K) HT.out HRM.out HF2.out rfl (by have := HK.out; omega)) ?_
  refine pV (.agg (VC (m - b) (m + b))) (fun w => bld_Span rfl rfl rfl w) ?_
  refine aL6 ?_
  intro b10 _ _ hb10
  refine nZ ?_
  refine sV (VC_one _ _) ?_
  refine dh1 b10 fun w9 HS10=>?_
  clear HS9
  by_cases hc1 : u2 = 1
  ·by_cases hz1 : ev (cs.headD []) (m - b) = 0
   ·have HD1 : Hid (decide (ev (cs.headD []) (m - b) = 0) = true) := yh (decide_eq_true hz1)
    have HN : Hid (∃ n2, gk = n2 + 1 ∧ NrR K cs m n2 b (tl, th)) := yh (by
     have hcase := HCASE.out
     cases hcase with
     | stop h0 h1 h2 h3 h4 h5 h6 h7 => rw [HBX.out] at h1; subst h1; exact absurd hz1 h6
     | step h0 h1 h2 h3 h4 h5 h => rw [HBX.out] at h1; subst h1; exact ⟨_, rfl, h⟩)
    subst hc1
    clear hz1 hu2
    go_upto_region 12 with fail
    refine wp_seq_text [] (StR.no HS10.out) ?_
    refine pU ?_
    refine lV ?_
    refine cL (countP_q (K := K) HT.out HC.out HNE.out HF3.out HF4.out HU2.out HK.out) ?_
    iterate 4 refine pU ?_
    refine lA (RC (m - b)) ?_
    refine cL (zeroP_q (K := K) HT.out HC.out HNE.out HF3.out HD1.out HK.out) ?_
    iterate 3 refine pU ?_
    iterate 5 refine nW ?_
    refine pU ?_
    refine Seq.done fun w10 hws => ?_
    have HS11 := yh hws.st.drop
    clear hws HS10 HCASE
    obtain ⟨n2, hn2, hn3⟩ := HN.out
    have HN2 := yh hn3
    have HNN := yh hn2
    clear HN hn2 hn3
    go_wp2_with fail
    go_roundg n2
    case measure => rw [HNN.out]; omega
    case rel => exact ⟨b, rfl, HN2, HS11⟩
   ·by_cases hz2 : ev (cs.headD []) (m + b) = 0
    ·have HD1 : Hid (decide (ev (cs.headD []) (m - b) = 0) = false) := yh (decide_eq_false hz1)
     have HD2 : Hid (decide (ev (cs.headD []) (m + b) = 0) = true) := yh (decide_eq_true hz2)
     have HN : Hid (∃ n2, gk = n2 + 1 ∧ NrR K cs m n2 b (tl, th)) := yh (by
      have hcase := HCASE.out
      cases hcase with
      | stop h0 h1 h2 h3 h4 h5 h6 h7 => rw [HBX.out] at h1; subst h1; exact absurd hz2 h7
      | step h0 h1 h2 h3 h4 h5 h => rw [HBX.out] at h1; subst h1; exact ⟨_, rfl, h⟩)
     subst hc1
     clear hz1 hz2 hu2
     go_upto_region 12 with fail
     refine wp_seq_text [] (StR.no HS10.out) ?_
     refine pU ?_
     refine lV ?_
     refine cL (countP_q (K := K) HT.out HC.out HNE.out HF3.out HF4.out HU2.out HK.out) ?_
     iterate 4 refine pU ?_
     refine lA (RC (m - b)) ?_
     refine cL (zeroP_q (K := K) HT.out HC.out HNE.out HF3.out HD1.out HK.out) ?_
     iterate 5 refine pU ?_
     refine lA (RC (m + b)) ?_
     refine cL (zeroP_q (K := K) HT.out HC.out HNE.out HF4.out HD2.out HK.out) ?_
     iterate 2 refine pU ?_
     refine Seq.done fun w10 hws => ?_
     have HS11 := yh hws.st.drop
     clear hws HS10 HCASE
     obtain ⟨n2, hn2, hn3⟩ := HN.out
     have HN2 := yh hn3
     have HNN := yh hn2
     clear HN hn2 hn3
     go_wp2_with fail
     go_roundg n2
     case measure => rw [HNN.out]; omega
     case rel => exact ⟨b, rfl, HN2, HS11⟩
    ·have HD1 : Hid (decide (ev (cs.headD []) (m - b) = 0) = false) := yh (decide_eq_false hz1)
     have HD2 : Hid (decide (ev (cs.headD []) (m + b) = 0) = false) := yh (decide_eq_false hz2)
     have HEQ : Hid (tl = m - b ∧ th = m + b) := yh (by
      have hcase := HCASE.out
      cases hcase with
      | stop h0 h1 h2 h3 h4 h5 h6 h7 => rw [HBX.out] at h1; subst h1; exact ⟨rfl, rfl⟩
      | step h0 h1 h2 h3 h4 h5 h => rw [HBX.out] at h1; subst h1; exact absurd ⟨hu2.trans hc1, hz1, hz2⟩ h5)
     subst hc1
     clear hz1 hz2 hu2
     go_upto_region 12 with fail
     refine wp_seq_text [] (StR.no HS10.out) ?_
     refine pU ?_
     refine lV ?_
     refine cL (countP_q (K := K) HT.out HC.out HNE.out HF3.out HF4.out HU2.out HK.out) ?_
     iterate 4 refine pU ?_
     refine lA (RC (m - b)) ?_
     refine cL (zeroP_q (K := K) HT.out HC.out HNE.out HF3.out HD1.out HK.out) ?_
     iterate 5 refine pU ?_
     refine lA (RC (m + b)) ?_
     refine cL (zeroP_q (K := K) HT.out HC.out HNE.out HF4.out HD2.out HK.out) ?_
     iterate 2 refine pU ?_
     refine Seq.done fun w10 hws => ?_
     have HS11 : St W0 ((b10, 32, VC tl th) :: (b9, 27, RC b) :: (b8, 27, RC m) :: (b5, 32, VC lo hi) :: (lr ++ l)) w10 := by
      rw [HEQ.out.1, HEQ.out.2]; exact hws.st
     clear hws HS10
     have HB58 : Hid (Blk w10 b5 32 (VC lo hi) ∧ Blk w10 b8 27 (RC m) ∧ Blk w10 b10 32 (VC tl th) ∧ Below W0.heap.size W0 w10) := yh ⟨(HS11.blk _ (List.mem_cons_of_mem _ (List.mem_cons_of_mem _ (List.mem_cons_of_mem _ List.mem_cons_self)))).2, (HS11.blk _ (List.mem_cons_of_mem _ (List.mem_cons_of_mem _ List.mem_cons_self))).2, (HS11.blk _ List.mem_cons_self).2, HS11.below⟩
     have HPRE : Hid (St W0 (lr ++ ((b10, 32, VC tl th) :: (b8, 27, RC m) :: (b5, 32, VC lo hi) :: l)) w10) := yh ((HS11.sub (List.cons_sublist_cons.2 (List.sublist_cons_self _ _))).perm (List.perm_append_comm_assoc [_, _, _] lr l))
     clear HS11
     go_upto_region 13 with fail
     refine wp_inv_chainO (S := (fun wx => Blk wx b5 32 (VC lo hi) ∧ Blk wx b8 27 (RC m) ∧ Blk wx b10 32 (VC tl th) ∧ Below W0.heap.size W0 wx)) 11 7 (fun wx wy => KeptB W0 lr wx wy ∧ ((Blk wx b5 32 (VC lo hi) ∧ Blk wx b8 27 (RC m) ∧ Blk wx b10 32 (VC tl th)) → (Blk wy b5 32 (VC lo hi) ∧ Blk wy b8 27 (RC m) ∧ Blk wy b10 32 (VC tl th))) ∧ Below W0.heap.size W0 wy) (fun wx => St W0 (lr ++ ((b10, 32, VC tl th) :: (b8, 27, RC m) :: (b5, 32, VC lo hi) :: l)) wx) (isV (vc) :: isV (v) :: isV (.pointer (some ⟨b5, 0, none⟩)) :: isV (.agg (RC lo)) :: isV (.pointer (some ⟨b10, 0, none⟩)) :: isV (.agg (RC tl)) :: isV (.agg (VC lo tl)) :: (fun u wx => RowSt W0 ((b10, 32, VC tl th) :: (b8, 27, RC m) :: (b5, 32, VC lo hi) :: l) u o1 wx) :: isV (.agg (RC m)) :: isV (.agg (VC m m)) :: (isOneSp W0 lr m) :: []) rfl (by kernel_rfl) (by kernel_rfl) (by kernel_rfl) (by kernel_rfl) (fun _ _ h9 hb9 => ⟨h9.1.belowB hb9, h9.2.1.belowB hb9, h9.2.2.1.belowB hb9, h9.2.2.2.trans (hb9.mono h9.2.2.2.size)⟩) (fun _ _ h9 hb9 => ⟨(hb9.2.1 ⟨h9.1, h9.2.1, h9.2.2.1⟩).1, (hb9.2.1 ⟨h9.1, h9.2.1, h9.2.2.1⟩).2.1, (hb9.2.1 ⟨h9.1, h9.2.1, h9.2.2.1⟩).2.2, hb9.2.2⟩) (fun _ _ h9 hb9 => h9.next hb9) HB58.out HPRE.out ?plan ?last
     case plan =>
      refine PlanO.val (by decide) (fun a wx hs hf hp => ?_) ?_
      ·exact StepI.mov rfl (wants_none rfl) (hf.keep 0 (by kernel_rfl))
      refine PlanO.val (by decide) (fun a wx hs hf hp => ?_) ?_
      ·exact StepI.mov rfl (wants_none rfl) (hf.keep 1 (by kernel_rfl))
      refine PlanO.val (by decide) (fun a wx hs hf hp => ?_) ?_
      ·exact StepI.fld rfl (wants_none rfl) (hf.keep 5 (by kernel_rfl)) (run_fldS0 _ wx) rfl
      refine PlanO.val (by decide) (fun a wx hs hf hp => ?_) ?_
      ·exact StepI.load rfl (wants_none rfl) (hp 2 81 (by kernel_rfl) rfl) (run_load_part hs.1 (n := 3) (Nat.le_of_ble_eq_true rfl) (by kernel_rfl)) rfl
      refine PlanO.val (by decide) (fun a wx hs hf hp => ?_) ?_
      ·exact StepI.fld rfl (wants_none rfl) (hf.keep 10 (by kernel_rfl)) (run_fldS0 _ wx) rfl
      refine PlanO.val (by decide) (fun a wx hs hf hp => ?_) ?_
      ·exact StepI.load rfl (wants_none rfl) (hp 4 83 (by kernel_rfl) rfl) (run_load_part hs.2.2.1 (n := 3) (Nat.le_of_ble_eq_true rfl) (by kernel_rfl)) rfl
      refine PlanO.val (by decide) (fun a wx hs hf hp => ?_) ?_
      ·have e1 : a.eval (.tmp 82) = .agg (RC lo) := (hp 3 82 (by kernel_rfl) rfl)
       have e2 : a.eval (.tmp 84) = .agg (RC tl) := (hp 5 84 (by kernel_rfl) rfl)
       exact StepI.val (wants_none rfl) (bld_Span rfl e1 e2 wx) rfl
      refine PlanO.on rfl (fun _ _ _ h9 hb9 => h9.next hb9) (fun a wx hs hpre hf hp => ?_) ?_
      ·refine ⟨wants_none rfl, w_call rfl (args3 (hp 0 79 (by kernel_rfl) rfl) (hp 1 80 (by kernel_rfl) rfl) (hp 6 85 (by kernel_rfl) rfl)) (by kernel_rfl) (row_kept (fun l w => HIA.out l v w) HRL.out hpre) fun e w9 h9 => ?_⟩
       obtain ⟨v9, e9, h9, hk9⟩ := h9
       exact ⟨v9, e9, v9, rfl, h9, hk9, fun _ => ⟨(h9.st.blk _ (List.mem_cons_of_mem _ (List.mem_cons_of_mem _ List.mem_cons_self))).2, (h9.st.blk _ (List.mem_cons_of_mem _ List.mem_cons_self)).2, (h9.st.blk _ List.mem_cons_self).2⟩, h9.st.below⟩
      refine PlanO.val (by decide) (fun a wx hs hf hp => ?_) ?_
      ·exact StepI.load rfl (wants_none rfl) (hf.keep 8 (by kernel_rfl)) (run_load_whole hs.2.1 rfl (by kernel_rfl)) rfl
      refine PlanO.val (by decide) (fun a wx hs hf hp => ?_) ?_
      ·exact StepI.callV rfl (wants_none rfl) (args1 (hp 8 87 (by kernel_rfl) rfl)) (by kernel_rfl) (sof_q (k := K) (W := wx) (l := []) (HT.out.next hs.2.2.2) HRM.out rfl rfl HK.out wx St.start)
      refine PlanO.off (by decide) isOneSp_st (fun _ _ _ h9 hk9 => isOneSp_kp h9 hk9.1) (fun a wx hs hf hp => ?_) ?_
      ·have e9 : a.eval (.tmp 88) = .agg (VC m m) := (hp 9 88 (by kernel_rfl) rfl)
       exact StepI.new (wants_none rfl) (slcS_1 rfl e9 wx) ((Below.refl _ _).alloc (Nat.le_refl _) _) (isOneSp_new wx ⟨hs.2.2.2, fun e he => Nat.lt_trans (HLT.out e he) hs.1.lt⟩)
      exact PlanO.nil
     case last =>
      intro a wx hs hf hv
      obtain ⟨v86, e86⟩ : ∃ v86, a.tmps.getD 86 undef = v86 := ⟨_, rfl⟩
      have h86 : RowSt W0 ((b10, 32, VC tl th) :: (b8, 27, RC m) :: (b5, 32, VC lo hi) :: l) v86 o1 wx := by
       have h9 := hv 7 86 (by decide) rfl
       rw [e86] at h9
       exact h9
      obtain ⟨g89, e89, q1, q2, q3⟩ := (show isOneSp W0 lr m (a.tmps.getD 89 undef) wx from hv 10 89 (by decide) rfl)
      have hput := hf.puts ((79, vc) :: (80, v) :: (81, .pointer (some ⟨b5, 0, none⟩)) :: (82, .agg (RC lo)) :: (83, .pointer (some ⟨b10, 0, none⟩)) :: (84, .agg (RC tl)) :: (85, .agg (VC lo tl)) :: (86, v86) :: (87, .agg (RC m)) :: (88, .agg (VC m m)) :: (89, .slice (some ⟨g89, 0, none⟩) 1 1) :: []) (by kernel_rfl) (List.forall_mem_cons.2 ⟨hv 0 79 (by decide) rfl, (List.forall_mem_cons.2 ⟨hv 1 80 (by decide) rfl, (List.forall_mem_cons.2 ⟨hv 2 81 (by decide) rfl, (List.forall_mem_cons.2 ⟨hv 3 82 (by decide) rfl, (List.forall_mem_cons.2 ⟨hv 4 83 (by decide) rfl, (List.forall_mem_cons.2 ⟨hv 5 84 (by decide) rfl, (List.forall_mem_cons.2 ⟨hv 6 85 (by decide) rfl, (List.forall_mem_cons.2 ⟨e86, (List.forall_mem_cons.2 ⟨hv 8 87 (by decide) rfl, (List.forall_mem_cons.2 ⟨hv 9 88 (by decide) rfl, (List.forall_mem_cons.2 ⟨e89, (by intro p hp; cases hp)⟩)⟩)⟩)⟩)⟩)⟩)⟩)⟩)⟩)⟩)⟩)
      have H86 := yh h86
      have HQ3 := yh q3
      clear hf hv e86 e89 hs h86 q1 q2 q3
      subst hput
      simp only [puts, Act.put, List.setIfInBounds_toArray, List.set_cons_zero, List.set_cons_succ]
      refine ⟨wants_none rfl, ?_⟩
      refine RowSt.append rfl Tryz.underlying58 infoSp H86.out rfl rfl HQ3.out (by omega) ?_
      intro v6 w6x hR6
      have HR6 := yh hR6
      clear hR6 H86 HQ3
      simp only [Act.put, List.setIfInBounds_toArray, List.set_cons_zero, List.set_cons_succ]
      refine ⟨wants_none rfl, ?_⟩
      refine st_asg rfl ?_
      unfold chainW
      simp only [Act.eval, Act.put, List.setIfInBounds_toArray, List.set_cons_zero, List.set_cons_succ]
      obtain ⟨lr6, hl6, hs6⟩ := HR6.out
      have HL6 := yh hl6
      have HS12 := yh (hs6.perm (List.perm_append_comm_assoc lr6 [(b10, 32, VC tl th), (b8, 27, RC m), (b5, 32, VC lo hi)] l))
      clear hl6 hs6 HR6
      go_upto_region 14 with fail
      refine wp_seq_textC 7 [] rfl rfl rfl (StR.no HS12.out) ?_
      iterate 3 refine pU ?_
      refine lA (RC th) ?_
      refine pU ?_
      refine lA (RC hi) ?_
      refine pV (.agg (VC th hi)) (fun w => bld_Span rfl rfl rfl w) ?_
      refine Seq.done fun w11 hws => ?_
      have HROW : Hid (RowSt W0 l v6 (o1 ++ [(m, m)]) w11) := yh ⟨lr6, HL6.out, hws.st.drop.drop.drop⟩
      clear hws HS12
      refine ⟨wants_none rfl, ?_⟩
      refine w_call (vs := #[vc, v6, .agg (VC th hi)]) rfl rfl (by kernel_rfl) (HIB.out _ v6 w11 HROW.out) fun e w12 h9 => ?_
      obtain ⟨v9, e9, h9⟩ := h9
      refine ⟨v9, e9, ?_⟩
      have HE := yh h9
      clear e9 h9
      simp only [Act.put, List.setIfInBounds_toArray, List.set_cons_zero, List.set_cons_succ]
      refine ⟨wants_none rfl, ?_⟩
      refine st_asg rfl ?_
      unfold chainW
      simp only [Act.eval, Act.put, List.setIfInBounds_toArray, List.set_cons_zero, List.set_cons_succ]
      go_wp2_with fail
      go_ret
      exact ⟨v9, rfl, HE.out⟩
  ·have hub : (u2 == 1) = false := by rw [beq_eq_false_iff_ne]; exact hc1
   have HN : Hid (∃ n2, gk = n2 + 1 ∧ NrR K cs m n2 b (tl, th)) := yh (by
    have hcase := HCASE.out
    cases hcase with
    | stop h0 h1 h2 h3 h4 h5 h6 h7 => rw [HBX.out] at h1; subst h1; exact absurd (hu2.symm.trans h5) hc1
    | step h0 h1 h2 h3 h4 h5 h => rw [HBX.out] at h1; subst h1; exact ⟨_, rfl, h⟩)
   clear hc1 hu2
   go_upto_region 12 with fail
   refine wp_seq_text [] (StR.no HS10.out) ?_
   refine pU ?_
   refine lV ?_
   refine cL (countP_q (K := K) HT.out HC.out HNE.out HF3.out HF4.out HU2.out HK.out) ?_
   refine pV (.bool false) (by intro w; go_simp <;> (first | (rw [hub]; done) | exact hub | omega | exact IntWalk.i64_in _ (by omega) | (go_num; done) | (simp [hub]; done))) ?_
   refine pU ?_
   iterate 5 refine nW ?_
   iterate 2 refine pU ?_
   iterate 5 refine nW ?_
   refine pU ?_
   refine Seq.done fun w10 hws => ?_
   have HS11 := yh hws.st.drop
   clear hws HS10 HCASE
   obtain ⟨n2, hn2, hn3⟩ := HN.out
   have HN2 := yh hn3
   have HNN := yh hn2
   clear HN hn2 hn3
   go_wp2_with fail
   go_roundg n2
   case measure => rw [HNN.out]; omega
   case rel => exact ⟨b, rfl, HN2, HS11⟩
theorem split_S {K : Nat} {cs : List Nums} {out out2 : List Spn} {s : Spn} (hR : SpR K cs out s out2) {W0 : World} {vc : Value} (hT : Tab W0) (hC : CAt W0 vc cs) (hne : cs ≠ []) (h2 : 2 ≤ K) (hk : K ≤ 1000000000000) :
  ∀ (l : List Own) (v : Value) (w : World), RowSt W0 l v out w → Calls Tryz.prog 75 #[vc, v, .agg (VC s.1 s.2)] w fun e w' => ∃ v', e = .returned v' ∧ RowSt W0 l v' out2 w' := by
 induction hR with
 | none h1 h2' h => exact split_none (yh hT) (yh hC) (yh hne) (yh h2) (yh hk) (yh h1) (yh h2') (yh h)
 | one h1 h2' h hl => exact split_one (yh hT) (yh hC) (yh hne) (yh h2) (yh hk) (yh h1) (yh h2') (yh h) hl
 | two h1 h2' h h' hm hz h0 ha hb iha ihb => exact split_two (yh hT) (yh hC) (yh hne) (yh h2) (yh hk) (yh h1) (yh h2') (yh rfl) (by rw [beq_eq_false_iff_ne]; exact h) (by rw [beq_eq_false_iff_ne]; exact h') (yh hm) (yh rfl) (yh hz) (yh (decide_eq_false h0)) (yh iha) (yh ihb)
 | root h1 h2' h h' hm hz h0 hn ha hl hb iha ihb => exact split_root (yh hT) (yh hC) (yh hne) (yh h2) (yh hk) (yh h1) (yh h2') (yh rfl) (by rw [beq_eq_false_iff_ne]; exact h) (by rw [beq_eq_false_iff_ne]; exact h') (yh hm) (yh rfl) (yh hz) (yh (decide_eq_true h0)) (yh hm.2.2.2) (yh hm.2.1) (yh rfl) (yh hn) hl (yh iha) (yh ihb)
theorem w_mov {P : Program} {K : Act → World → Prop} {Q : Exit → Act → World → Prop} {o : Oper} {a : Act} {w : World} {x : Operand} (ho : o.op = .move x) (h : K (a.put o.dst (a.eval x)) w) : o.wp P a w K Q := by
 unfold Oper.wp execOp
 simp only [ho]
 exact h
theorem w_ext {P : Program} {K : Act → World → Prop} {Q : Exit → Act → World → Prop} {o : Oper} {a : Act} {w : World} {x : Operand} {i : Nat} {vs : Array Value} {v : Value} (ho : o.op = .extract x i) (hx : a.eval x = .tuple vs) (hv : vs[i]? = some v) (h : K (a.put o.dst v) w) : o.wp P a w K Q := by
 have hr : (execOp a.eval o).run P w = .ok (.value v) w := by
  unfold execOp
  simp only [ho, hx]
  simp [Instr.extract, hv]
 unfold Oper.wp
 rw [hr]
 exact h
theorem ready_S {K n c : Nat} {A : Option Addr} {p : Nums} {cs : List Nums} (w : World) (hA : RAt w A p) (hn : p.length = n) (hR : RdR K p cs) (hT : Tab w) (hk : K ≤ 1000000000000) :
  Calls Tryz.prog 73 #[.slice A n c] w fun e w' => ∃ v, e = .returned (.tuple #[v, .int .i64 0]) ∧ Below w.heap.size w w' ∧ CAt w' v cs := by
 have HA := yh hA; clear hA
 have HN := yh hn
 have hn2 : n ≤ 1000 := by rw [← hn]; exact hR.len
 clear hn
 obtain ⟨o, kn, cs1, hP, hD, hC, hkn, hcs⟩ := hR.run
 have HP := yh hP
 have HD := yh hD
 have HC := yh hC
 have HCS := yh hcs
 have HZP := yh hR.zp
 have HT := yh hT; clear hT
 have HK := yh hk; clear hk
 obtain ⟨t0, ht0⟩ : ∃ t0, trimL p = t0 := ⟨_, rfl⟩
 obtain ⟨m0, hm0⟩ : ∃ m0, t0.length = m0 := ⟨_, rfl⟩
 obtain ⟨m1, hm1⟩ : ∃ m1, o.length = m1 := ⟨_, rfl⟩
 have hm00 : 0 < m0 := by rw [← hm0, ← ht0]; exact List.length_pos_iff.2 hR.ne
 have hm13 : m0 ≤ 13 := by rw [← hm0, ← ht0]; exact hR.small
 have HT0 := yh ht0
 have HM0 := yh hm0
 have HM1 := yh hm1
 clear hP hD hC hcs hR ht0 hm0 hm1
 have hne0 : ¬ (m0 : Int) = 0 := by omega
 have hne0b : ((m0 : Int) == 0) = false := by rw [beq_eq_false_iff_ne]; exact hne0
 have hle13 : ¬ (13 : Int) < (m0 : Int) := by omega
 have HS0 : Hid (St w [] w) := yh St.start
 go_enter Tryz.func73, Tryz.ntmps73
 go_upto_region 1 with fail
 refine wp_seq_text [1000001] (StR.no HS0.out) ?_
 refine pU ?_
 refine Seq.callFresh (n := some m0) (x := (27, RX [] t0)) rfl rfl rfl rfl (by kernel_rfl) (fun w' h' => by have h9 := trimP_S (c := c) w' (HA.out.next h'.st.below) HN.out HZP.out (tabS HT.out h'.st) hn2 HK.out; rw [HT0.out] at h9; exact h9.mono fun e w2 h2 => h2.fresh HM0.out) ?_
 intro gt _ _ hgt
 refine nZ ?_
 refine pU ?_
 refine Seq.done fun wz hws => ?_
 have HS1 := hws.q1
 clear hws HS0
 simp only [mk]
 go_upto_region 2 with fail
 refine rgT [] HS1 ?_
 iterate 2 refine pU ?_
 refine pV (.bool false) (by intro w; go_simp <;> (first | (rw [hne0b]; done) | exact hne0b | omega | exact IntWalk.i64_in _ (by omega) | (go_num; done) | (simp [hne0b]; done))) ?_
 refine pU ?_
 refine dnS fun w2 HS2=>?_
 clear HS1
 go_upto_region 6 with fail
 refine wp_seq_textC 2 [1000001] rfl rfl rfl (StR.no HS2) ?_
 refine pU ?_
 refine Seq.callFresh (n := some m1) (x := (27, RX [] o)) rfl rfl rfl rfl (by kernel_rfl) (fun w' h' => (plainP_S (c := m0) w' (.inr ⟨gt, [], rfl, (h'.st.blk _ List.mem_cons_self).2⟩) HM0.out (by rw [← HT0.out]; exact HP.out) (tabS HT.out h'.st) HK.out).mono fun e w2 h2 => h2.fresh HM1.out) ?_
 intro gp _ _ hgp
 refine nZ ?_
 refine Seq.done fun w3 hws => ?_
 have HRO : Hid (RAt w3 (some ⟨gp, 0, none⟩) o) := yh (.inr ⟨gp, [], rfl, ((hws.q1 (p := gp)).blk _ List.mem_cons_self).2⟩)
 have HB3 := yh hws.st.below
 have HT3 := yh (tabS HT.out hws.st)
 clear hws HS2
 refine ⟨wants_none rfl, ?_⟩
 refine w_call (vs := #[.slice (some ⟨gp, 0, none⟩) m1 m1]) rfl rfl (by kernel_rfl) (chainedP_S (c := m1) w3 HRO.out HM1.out HD.out HC.out (by omega) HT3.out HK.out) fun e w4 h9 => ?_
 obtain ⟨vc, e9, hb9, hc9⟩ := h9
 refine ⟨vc, e9, ?_⟩
 have HE : Hid (Below w.heap.size w w4 ∧ CAt w4 vc cs) := yh ⟨HB3.out.trans (hb9.mono HB3.out.size), by rw [HCS.out]; exact hc9⟩
 clear e9 hb9 hc9
 simp only [Act.put, List.setIfInBounds_toArray, List.set_cons_zero, List.set_cons_succ]
 refine ⟨wants_none rfl, ?_⟩
 refine st_asg rfl ?_
 simp only [Act.eval, Act.put, List.setIfInBounds_toArray, List.set_cons_zero, List.set_cons_succ]
 refine ⟨wants_none rfl, ?_⟩
 refine st_asg rfl ?_
 unfold chainW
 simp only [Act.eval, Act.put, List.setIfInBounds_toArray, List.set_cons_zero, List.set_cons_succ]
 go_wp2_with fail
 go_ret2
 exact ⟨vc, rfl, HE.out⟩
end Go.Proofs.YtmchjmflkaiakaaGreatDoor
