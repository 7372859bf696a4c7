/- Joined texts: StK StM StN. -/
import Derived.Test.YtmchjmflkaiakaaGreatDoorStJ
import Derived.Deep.LoopGhost
import Derived.OwnWalk
set_option maxHeartbeats 4000000
set_option maxRecDepth 20000
namespace Go.Proofs.YtmchjmflkaiakaaGreatDoor
open Go.RowKit
set_option linter.unusedVariables false
set_option linter.unusedSimpArgs false
theorem split_none {K : Nat} {cs : List Nums} {out : List Spn} {lo hi : Rat} {W0 : World} {vc : Value} (HT : Hid (Tab W0)) (HC : Hid (CAt W0 vc cs)) (HNE : Hid (cs ≠ [])) (H2 : Hid (2 ≤ K)) (HK : Hid (K ≤ 1000000000000)) (HZ1 : Hid (ChZ K cs lo)) (HZ2 : Hid (ChZ K cs hi)) (HU : Hid (CtR cs (lo, hi) = 0)) :
  ∀ (l : List Own) (v : Value) (w : World), RowSt W0 l v out w → Calls Tryz.prog 75 #[vc, v, .agg (VC lo hi)] w fun e w' => ∃ v', e = .returned v' ∧ RowSt W0 l v' out w' := by
 intro l v w hRow
 obtain ⟨lr, hrl, hst⟩ := hRow
 have HRL := yh hrl; clear hrl
 have HST := yh hst; clear hst
 go_enter Tryz.func75, Tryz.ntmps75
 go_upto_region 0 with fail
 refine wp_seq_text [] (StR.no HST.out) ?_
 refine bX (VC lo hi) ?_
 intro b5 _ _ hb5
 refine nZ ?_
 refine pU ?_
 refine Seq.done fun wz hws => ?_
 have HS1 := hws.q1
 clear hws HST
 go_upto_region 1 with fail
 refine rgT [] HS1 ?_
 refine pU ?_
 refine lV ?_
 refine cL (countP_q (K := K) HT.out HC.out HNE.out HZ1.out HZ2.out HU.out HK.out) ?_
 refine pU ?_
 refine dnS fun w2 HS2=>?_
 clear HS1
 have HE : Hid (RowSt W0 l v out w2) := yh ⟨lr, HRL.out, HS2.drop⟩
 clear HS2
 go_wp2_with fail
 go_ret
 exact ⟨v, rfl, HE.out⟩
theorem split_one {K : Nat} {cs : List Nums} {out : List Spn} {lo hi : Rat} {W0 : World} {vc : Value} (HT : Hid (Tab W0)) (HC : Hid (CAt W0 vc cs)) (HNE : Hid (cs ≠ [])) (H2 : Hid (2 ≤ K)) (HK : Hid (K ≤ 1000000000000)) (HZ1 : Hid (ChZ K cs lo)) (HZ2 : Hid (ChZ K cs hi)) (HU : Hid (CtR cs (lo, hi) = 1)) (hlen : out.length ≤ 1000) :
  ∀ (l : List Own) (v : Value) (w : World), RowSt W0 l v out w → Calls Tryz.prog 75 #[vc, v, .agg (VC lo hi)] w fun e w' => ∃ v', e = .returned v' ∧ RowSt W0 l v' (out ++ [(lo, hi)]) w' := by
 intro l v w hRow
 obtain ⟨lr, hrl, hst⟩ := hRow
 have HRL := yh hrl; clear hrl
 have HST := yh hst; clear hst
 go_enter Tryz.func75, Tryz.ntmps75
 go_upto_region 0 with fail
 refine wp_seq_text [] (StR.no HST.out) ?_
 refine bX (VC lo hi) ?_
 intro b5 _ _ hb5
 refine nZ ?_
 refine pU ?_
 refine Seq.done fun wz hws => ?_
 have HS1 := hws.q1
 clear hws HST
 go_upto_region 1 with fail
 refine rgT [] HS1 ?_
 refine pU ?_
 refine lV ?_
 refine cL (countP_q (K := K) HT.out HC.out HNE.out HZ1.out HZ2.out HU.out HK.out) ?_
 refine pU ?_
 refine dnS fun _ HS2=>?_
 clear HS1
 go_upto_region 5 with fail
 refine wp_seq_textC 3 [] rfl rfl rfl (StR.no HS2) ?_
 refine pU ?_
 refine lV ?_
 refine Seq.slice (n := 1) (e := 32) (cs := VC lo hi) rfl rfl (fun w => slcS_1 rfl rfl w) ?_
 intro b23 _ _ hb23
 refine nZ ?_
 refine Seq.done fun w3 hws => ?_
 have HROW : Hid (RowSt W0 l v out w3) := yh ⟨lr, HRL.out, hws.st.drop⟩
 have HB9 := yh ((hws.q1 (p := b23)).blk _ List.mem_cons_self).2
 clear hws HS2
 refine ⟨wants_none rfl, ?_⟩
 refine RowSt.append rfl Tryz.underlying58 infoSp HROW.out rfl rfl HB9.out (by omega) ?_
 intro v6 w6 hR6
 have HE := yh hR6
 clear hR6
 simp only [Act.put, List.setIfInBounds_toArray, List.set_cons_zero, List.set_cons_succ]
 refine ⟨wants_none rfl, ?_⟩
 refine st_asg rfl ?_
 unfold chainW
 simp only [Act.eval, Act.put, List.setIfInBounds_toArray, List.set_cons_zero, List.set_cons_succ]
 go_wp2_with fail
 go_ret
 exact ⟨v6, rfl, HE.out⟩
theorem split_two {K : Nat} {cs : List Nums} {out o1 o2 : List Spn} {lo hi m : Rat} {u : Int} {W0 : World} {vc : Value} (HT : Hid (Tab W0)) (HC : Hid (CAt W0 vc cs)) (HNE : Hid (cs ≠ [])) (H2 : Hid (2 ≤ K)) (HK : Hid (K ≤ 1000000000000)) (HZ1 : Hid (ChZ K cs lo)) (HZ2 : Hid (ChZ K cs hi)) (HU : Hid (CtR cs (lo, hi) = u)) (hu0b : (u == 0) = false) (hu1b : (u == 1) = false)
  (HMZ : Hid (MidZ K (lo, hi))) (HM : Hid (midQ (lo, hi) = m)) (HZM : Hid (ChZ K cs m)) (HD : Hid (decide (ev (cs.headD []) m = 0) = false))
  (HIA : Hid (∀ (l : List Own) (v : Value) (w : World), RowSt W0 l v out w → Calls Tryz.prog 75 #[vc, v, .agg (VC lo m)] w fun e w' => ∃ v', e = .returned v' ∧ RowSt W0 l v' o1 w'))
  (HIB : Hid (∀ (l : List Own) (v : Value) (w : World), RowSt W0 l v o1 w → Calls Tryz.prog 75 #[vc, v, .agg (VC m hi)] w fun e w' => ∃ v', e = .returned v' ∧ RowSt W0 l v' o2 w')) :
  ∀ (l : List Own) (v : Value) (w : World), RowSt W0 l v out w → Calls Tryz.prog 75 #[vc, v, .agg (VC lo hi)] w fun e w' => ∃ v', e = .returned v' ∧ RowSt W0 l v' o2 w' := by
 intro l v w hRow
 obtain ⟨lr, hrl, hst⟩ := hRow
 have HRL := yh hrl; clear hrl
 have HST := yh hst; clear hst
 go_enter Tryz.func75, Tryz.ntmps75
 go_upto_region 0 with fail
 refine wp_seq_text [] (StR.no HST.out) ?_
 refine bX (VC lo hi) ?_
 intro b5 _ _ hb5
 refine nZ ?_
 refine pU ?_
 refine Seq.done fun wz hws => ?_
 have HS1 := hws.q1
 clear hws HST
 go_upto_region 1 with fail
 refine rgT [] HS1 ?_
 refine pU ?_
 refine lV ?_
 refine cL (countP_q (K := K) HT.out HC.out HNE.out HZ1.out HZ2.out HU.out HK.out) ?_
 refine pU ?_
 refine dnS fun _ HS2=>?_
 clear HS1
 go_upto_region 2 with fail
 refine rgT [] HS2 ?_
 refine pU ?_
 refine pV (.bool false) (by intro w; go_simp <;> (first | (rw [hu0b]; done) | exact hu0b | omega | exact IntWalk.i64_in _ (by omega) | (go_num; done) | (simp [hu0b]; done))) ?_
 refine pU ?_
 refine dnS fun _ HS3=>?_
 clear HS2
 go_upto_region 4 with fail
 refine rgT [] HS3 ?_
 refine pU ?_
 refine pV (.bool false) (by intro w; go_simp <;> (first | (rw [hu1b]; done) | exact hu1b | omega | exact IntWalk.i64_in _ (by omega) | (go_num; done) | (simp [hu1b]; done))) ?_
 refine pU ?_
 refine dnS fun _ HS4=>?_
 clear HS3
 go_upto_region 6 with fail
 refine rgT [] HS4 ?_
 refine lV ?_
 refine cL (middle_q (K := K) HT.out H2.out HMZ.out HM.out HK.out) ?_
 refine aL3 ?_
 intro b8 _ _ hb8
 refine nZ ?_
 refine sV (RC_one _) ?_
 refine Seq.done fun w5 hws => ?_
 have HS5 := hws.q1
 clear hws HS4
 go_upto_region 7 with fail
 refine rgT [] HS5 ?_
 refine pU ?_
 refine lV ?_
 refine cL (zeroP_q (K := K) HT.out HC.out HNE.out HZM.out HD.out HK.out) ?_
 refine pU ?_
 refine Seq.done fun w6 hws => ?_
 have HS6 : St W0 ((b8, 27, RC m) :: (b5, 32, VC lo hi) :: (lr ++ l)) w6 := hws.st
 clear hws HS5
 have HS7 := yh HS6
 have HB58 : Hid (Blk w6 b5 32 (VC lo hi) ∧ Blk w6 b8 27 (RC m)) := yh ⟨(HS6.blk _ (List.mem_cons_of_mem _ List.mem_cons_self)).2, (HS6.blk _ List.mem_cons_self).2⟩
 have HPRE : Hid (St W0 (lr ++ ((b8, 27, RC m) :: (b5, 32, VC lo hi) :: l)) w6) := yh (HS6.perm (List.perm_append_comm_assoc [_, _] lr l))
 clear HS6 HS7
 go_upto_region 8 with fail
 refine wp_inv_chainO (S := (fun wx => Blk wx b5 32 (VC lo hi) ∧ Blk wx b8 27 (RC m))) 12 7 (fun wx wy => (Blk wx b5 32 (VC lo hi) ∧ Blk wx b8 27 (RC m)) → (Blk wy b5 32 (VC lo hi) ∧ Blk wy b8 27 (RC m))) (fun wx => St W0 (lr ++ ((b8, 27, RC m) :: (b5, 32, VC lo hi) :: l)) wx) (isV (vc) :: isV (vc) :: isV (v) :: isV (.pointer (some ⟨b5, 0, none⟩)) :: isV (.agg (RC lo)) :: isV (.agg (RC m)) :: isV (.agg (VC lo m)) :: (fun u wx => RowSt W0 ((b8, 27, RC m) :: (b5, 32, VC lo hi) :: l) u o1 wx) :: isV (.agg (RC m)) :: isV (.pointer (some ⟨b5, 3, none⟩)) :: isV (.agg (RC hi)) :: isV (.agg (VC m hi)) :: []) rfl (by kernel_rfl) (by kernel_rfl) (by kernel_rfl) (by kernel_rfl) (fun _ _ h9 hb9 => ⟨h9.1.belowB hb9, h9.2.belowB hb9⟩) (fun _ _ h9 hb9 => hb9 h9) (fun _ _ h9 hb9 => h9.next hb9) HB58.out HPRE.out ?plan ?last
 case plan =>
  refine PlanO.val (by decide) (fun a wx hs hf hp => ?_) ?_
  ·exact StepI.mov rfl (wants_none rfl) (hf.keep 0 (by kernel_rfl))
  refine PlanO.val (by decide) (fun a wx hs hf hp => ?_) ?_
  ·exact StepI.mov rfl (wants_none rfl) (hf.keep 0 (by kernel_rfl))
  refine PlanO.val (by decide) (fun a wx hs hf hp => ?_) ?_
  ·exact StepI.mov rfl (wants_none rfl) (hf.keep 1 (by kernel_rfl))
  refine PlanO.val (by decide) (fun a wx hs hf hp => ?_) ?_
  ·exact StepI.fld rfl (wants_none rfl) (hf.keep 5 (by kernel_rfl)) (run_fldS0 _ wx) rfl
  refine PlanO.val (by decide) (fun a wx hs hf hp => ?_) ?_
  ·exact StepI.load rfl (wants_none rfl) (hp 3 34 (by kernel_rfl) rfl) (run_load_part hs.1 (n := 3) (Nat.le_of_ble_eq_true rfl) (by kernel_rfl)) rfl
  refine PlanO.val (by decide) (fun a wx hs hf hp => ?_) ?_
  ·exact StepI.load rfl (wants_none rfl) (hf.keep 8 (by kernel_rfl)) (run_load_whole hs.2 rfl (by kernel_rfl)) rfl
  refine PlanO.val (by decide) (fun a wx hs hf hp => ?_) ?_
  ·have e1 : a.eval (.tmp 35) = .agg (RC lo) := (hp 4 35 (by kernel_rfl) rfl)
   have e2 : a.eval (.tmp 36) = .agg (RC m) := (hp 5 36 (by kernel_rfl) rfl)
   exact StepI.val (wants_none rfl) (bld_Span rfl e1 e2 wx) rfl
  refine PlanO.on rfl (fun _ _ _ h9 hb9 => h9.next hb9) (fun a wx hs hpre hf hp => ?_) ?_
  ·refine ⟨wants_none rfl, w_call rfl (args3 (hp 1 32 (by kernel_rfl) rfl) (hp 2 33 (by kernel_rfl) rfl) (hp 6 37 (by kernel_rfl) rfl)) (by kernel_rfl) (HIA.out _ v wx ⟨lr, HRL.out, hpre⟩) fun e w9 h9 => ?_⟩
   obtain ⟨v9, e9, h9⟩ := h9
   exact ⟨v9, e9, v9, rfl, h9, fun _ => ⟨(h9.st.blk _ (List.mem_cons_of_mem _ List.mem_cons_self)).2, (h9.st.blk _ List.mem_cons_self).2⟩⟩
  refine PlanO.val (by decide) (fun a wx hs hf hp => ?_) ?_
  ·exact StepI.load rfl (wants_none rfl) (hf.keep 8 (by kernel_rfl)) (run_load_whole hs.2 rfl (by kernel_rfl)) rfl
  refine PlanO.val (by decide) (fun a wx hs hf hp => ?_) ?_
  ·exact StepI.fld rfl (wants_none rfl) (hf.keep 5 (by kernel_rfl)) (run_fldS1 _ wx) rfl
  refine PlanO.val (by decide) (fun a wx hs hf hp => ?_) ?_
  ·exact StepI.load rfl (wants_none rfl) (hp 9 40 (by kernel_rfl) rfl) (run_load_part hs.1 (n := 3) (Nat.le_of_ble_eq_true rfl) (by kernel_rfl)) rfl
  refine PlanO.val (by decide) (fun a wx hs hf hp => ?_) ?_
  ·have e1 : a.eval (.tmp 39) = .agg (RC m) := (hp 8 39 (by kernel_rfl) rfl)
   have e2 : a.eval (.tmp 41) = .agg (RC hi) := (hp 10 41 (by kernel_rfl) rfl)
   exact StepI.val (wants_none rfl) (bld_Span rfl e1 e2 wx) rfl
  exact PlanO.nil
 case last =>
  intro a wx hs hf hv
  obtain ⟨v38, e38⟩ : ∃ v38, a.tmps.getD 38 undef = v38 := ⟨_, rfl⟩
  have h38 : RowSt W0 ((b8, 27, RC m) :: (b5, 32, VC lo hi) :: l) v38 o1 wx := by
   have h9 := hv 7 38 (by decide) rfl
   rw [e38] at h9
   exact h9
  have hput := hf.puts ((31, vc) :: (32, vc) :: (33, v) :: (34, .pointer (some ⟨b5, 0, none⟩)) :: (35, .agg (RC lo)) :: (36, .agg (RC m)) :: (37, .agg (VC lo m)) :: (38, v38) :: (39, .agg (RC m)) :: (40, .pointer (some ⟨b5, 3, none⟩)) :: (41, .agg (RC hi)) :: (42, .agg (VC m hi)) :: []) (by kernel_rfl) (List.forall_mem_cons.2 ⟨hv 0 31 (by decide) rfl, (List.forall_mem_cons.2 ⟨hv 1 32 (by decide) rfl, (List.forall_mem_cons.2 ⟨hv 2 33 (by decide) rfl, (List.forall_mem_cons.2 ⟨hv 3 34 (by decide) rfl, (List.forall_mem_cons.2 ⟨hv 4 35 (by decide) rfl, (List.forall_mem_cons.2 ⟨hv 5 36 (by decide) rfl, (List.forall_mem_cons.2 ⟨hv 6 37 (by decide) rfl, (List.forall_mem_cons.2 ⟨e38, (List.forall_mem_cons.2 ⟨hv 8 39 (by decide) rfl, (List.forall_mem_cons.2 ⟨hv 9 40 (by decide) rfl, (List.forall_mem_cons.2 ⟨hv 10 41 (by decide) rfl, (List.forall_mem_cons.2 ⟨hv 11 42 (by decide) rfl, (by intro p hp; cases hp)⟩)⟩)⟩)⟩)⟩)⟩)⟩)⟩)⟩)⟩)⟩)⟩)
  have H38 := yh h38
  clear hf hv e38 hs h38
  subst hput
  simp only [puts, Act.put, List.setIfInBounds_toArray, List.set_cons_zero, List.set_cons_succ]
  refine ⟨wants_none rfl, ?_⟩
  refine w_call (vs := #[vc, v38, .agg (VC m hi)]) rfl rfl (by kernel_rfl) (HIB.out _ v38 wx H38.out) fun e w9 h9 => ?_
  obtain ⟨v9, e9, h9⟩ := h9
  refine ⟨v9, e9, ?_⟩
  have HE : Hid (RowSt W0 l v9 o2 w9) := yh (h9.less ((List.sublist_cons_self _ _).trans (List.sublist_cons_self _ _)))
  clear e9 h9
  simp only [Act.put, List.setIfInBounds_toArray, List.set_cons_zero, List.set_cons_succ]
  refine ⟨wants_none rfl, ?_⟩
  refine st_asg rfl ?_
  unfold chainW
  simp only [Act.eval, Act.put, List.setIfInBounds_toArray, List.set_cons_zero, List.set_cons_succ]
  go_wp2_with fail
  go_ret
  exact ⟨v9, rfl, HE.out⟩
theorem split_S {K : Nat} {cs : List Nums} {out out2 : List Spn} {s : Spn} (hR : SpR K cs out s out2) {W0 : World} {vc : Value} (hT : Tab W0) (hC : CAt W0 vc cs) (hne : cs ≠ []) (h2 : 2 ≤ K) (hk : K ≤ 1000000000000) :
  ∀ (l : List Own) (v : Value) (w : World), RowSt W0 l v out w → Calls Tryz.prog 75 #[vc, v, .agg (VC s.1 s.2)] w fun e w' => ∃ v', e = .returned v' ∧ RowSt W0 l v' out2 w' := by
 induction hR with
 | none h1 h2' h => exact split_none (yh hT) (yh hC) (yh hne) (yh h2) (yh hk) (yh h1) (yh h2') (yh h)
 | one h1 h2' h hl => exact split_one (yh hT) (yh hC) (yh hne) (yh h2) (yh hk) (yh h1) (yh h2') (yh h) hl
 | two h1 h2' h h' hm hz h0 ha hb iha ihb => exact split_two (yh hT) (yh hC) (yh hne) (yh h2) (yh hk) (yh h1) (yh h2') (yh rfl) (by rw [beq_eq_false_iff_ne]; exact h) (by rw [beq_eq_false_iff_ne]; exact h') (yh hm) (yh rfl) (yh hz) (yh (decide_eq_false h0)) (yh iha) (yh ihb)
theorem w_mov {P : Program} {K : Act → World → Prop} {Q : Exit → Act → World → Prop} {o : Oper} {a : Act} {w : World} {x : Operand} (ho : o.op = .move x) (h : K (a.put o.dst (a.eval x)) w) : o.wp P a w K Q := by
 unfold Oper.wp execOp
 simp only [ho]
 exact h
theorem w_ext {P : Program} {K : Act → World → Prop} {Q : Exit → Act → World → Prop} {o : Oper} {a : Act} {w : World} {x : Operand} {i : Nat} {vs : Array Value} {v : Value} (ho : o.op = .extract x i) (hx : a.eval x = .tuple vs) (hv : vs[i]? = some v) (h : K (a.put o.dst v) w) : o.wp P a w K Q := by
 have hr : (execOp a.eval o).run P w = .ok (.value v) w := by
  unfold execOp
  simp only [ho, hx]
  simp [Instr.extract, hv]
 unfold Oper.wp
 rw [hr]
 exact h
theorem ready_S {K n c : Nat} {A : Option Addr} {p : Nums} {cs : List Nums} (w : World) (hA : RAt w A p) (hn : p.length = n) (hR : RdR K p cs) (hT : Tab w) (hk : K ≤ 1000000000000) :
  Calls Tryz.prog 73 #[.slice A n c] w fun e w' => ∃ v, e = .returned (.tuple #[v, .int .i64 0]) ∧ Below w.heap.size w w' ∧ CAt w' v cs := by
 have HA := yh hA; clear hA
 have HN := yh hn
 have hn2 : n ≤ 1000 := by rw [← hn]; exact hR.len
 clear hn
 obtain ⟨o, kn, cs1, hP, hD, hC, hkn, hcs⟩ := hR.run
 have HP := yh hP
 have HD := yh hD
 have HC := yh hC
 have HCS := yh hcs
 have HZP := yh hR.zp
 have HT := yh hT; clear hT
 have HK := yh hk; clear hk
 obtain ⟨t0, ht0⟩ : ∃ t0, trimL p = t0 := ⟨_, rfl⟩
 obtain ⟨m0, hm0⟩ : ∃ m0, t0.length = m0 := ⟨_, rfl⟩
 obtain ⟨m1, hm1⟩ : ∃ m1, o.length = m1 := ⟨_, rfl⟩
 have hm00 : 0 < m0 := by rw [← hm0, ← ht0]; exact List.length_pos_iff.2 hR.ne
 have hm13 : m0 ≤ 13 := by rw [← hm0, ← ht0]; exact hR.small
 have HT0 := yh ht0
 have HM0 := yh hm0
 have HM1 := yh hm1
 clear hP hD hC hcs hR ht0 hm0 hm1
 have hne0 : ¬ (m0 : Int) = 0 := by omega
 have hne0b : ((m0 : Int) == 0) = false := by rw [beq_eq_false_iff_ne]; exact hne0
 have hle13 : ¬ (13 : Int) < (m0 : Int) := by omega
 have HS0 : Hid (St w [] w) := yh St.start
 go_enter Tryz.func73, Tryz.ntmps73
 go_upto_region 1 with fail
 refine wp_seq_text [1000001] (StR.no HS0.out) ?_
 refine pU ?_
 refine Seq.callFresh (n := some m0) (x := (27, RX [] t0)) rfl rfl rfl rfl (by kernel_rfl) (fun w' h' => by have h9 := trimP_S (c := c) w' (HA.out.next h'.st.below) HN.out HZP.out (tabS HT.out h'.st) hn2 HK.out; rw [HT0.out] at h9; exact h9.mono fun e w2 h2 => h2.fresh HM0.out) ?_
 intro gt _ _ hgt
 refine nZ ?_
 refine pU ?_
 refine Seq.done fun wz hws => ?_
 have HS1 := hws.q1
 clear hws HS0
 simp only [mk]
 go_upto_region 2 with fail
 refine rgT [] HS1 ?_
 iterate 2 refine pU ?_
 refine pV (.bool false) (by intro w; go_simp <;> (first | (rw [hne0b]; done) | exact hne0b | omega | exact IntWalk.i64_in _ (by omega) | (go_num; done) | (simp [hne0b]; done))) ?_
 refine pU ?_
 refine dnS fun w2 HS2=>?_
 clear HS1
 go_upto_region 6 with fail
 refine wp_seq_textC 2 [1000001] rfl rfl rfl (StR.no HS2) ?_
 refine pU ?_
 refine Seq.callFresh (n := some m1) (x := (27, RX [] o)) rfl rfl rfl rfl (by kernel_rfl) (fun w' h' => (plainP_S (c := m0) w' (.inr ⟨gt, [], rfl, (h'.st.blk _ List.mem_cons_self).2⟩) HM0.out (by rw [← HT0.out]; exact HP.out) (tabS HT.out h'.st) HK.out).mono fun e w2 h2 => h2.fresh HM1.out) ?_
 intro gp _ _ hgp
 refine nZ ?_
 refine Seq.done fun w3 hws => ?_
 have HRO : Hid (RAt w3 (some ⟨gp, 0, none⟩) o) := yh (.inr ⟨gp, [], rfl, ((hws.q1 (p := gp)).blk _ List.mem_cons_self).2⟩)
 have HB3 := yh hws.st.below
 have HT3 := yh (tabS HT.out hws.st)
 clear hws HS2
 refine ⟨wants_none rfl, ?_⟩
 refine w_call (vs := #[.slice (some ⟨gp, 0, none⟩) m1 m1]) rfl rfl (by kernel_rfl) (chainedP_S (c := m1) w3 HRO.out HM1.out HD.out HC.out (by omega) HT3.out HK.out) fun e w4 h9 => ?_
 obtain ⟨vc, e9, hb9, hc9⟩ := h9
 refine ⟨vc, e9, ?_⟩
 have HE : Hid (Below w.heap.size w w4 ∧ CAt w4 vc cs) := yh ⟨HB3.out.trans (hb9.mono HB3.out.size), by rw [HCS.out]; exact hc9⟩
 clear e9 hb9 hc9
 simp only [Act.put, List.setIfInBounds_toArray, List.set_cons_zero, List.set_cons_succ]
 refine ⟨wants_none rfl, ?_⟩
 refine st_asg rfl ?_
 simp only [Act.eval, Act.put, List.setIfInBounds_toArray, List.set_cons_zero, List.set_cons_succ]
 refine ⟨wants_none rfl, ?_⟩
 refine st_asg rfl ?_
 unfold chainW
 simp only [Act.eval, Act.put, List.setIfInBounds_toArray, List.set_cons_zero, List.set_cons_succ]
 go_wp2_with fail
 go_ret2
 exact ⟨vc, rfl, HE.out⟩
end Go.Proofs.YtmchjmflkaiakaaGreatDoor
