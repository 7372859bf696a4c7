/- Joined texts: StE StF. -/
import Derived.Test.YtmchjmflkaiakaaGreatDoorStD
import Derived.Test.YtmchjmflkaiakaaGreatDoorInvT
import Derived.Test.YtmchjmflkaiakaaGreatDoorGrow
import Derived.Deep.LoopGhost
import Derived.OwnWalk
set_option maxHeartbeats 4000000
set_option maxRecDepth 20000
namespace Go.Proofs.YtmchjmflkaiakaaGreatDoor
open Go.RowKit
set_option linter.unusedVariables false
set_option linter.unusedSimpArgs false
def RowQ (w0 : World) (v : Value) (os : Nums) (w : World) : Prop := Rws w0 [⟨v, 27, 3, os.length, fr os⟩] w
section
variable {w0 w w' : World} {v : Value} {os : Nums}
theorem RowQ.next (h : RowQ w0 v os w) (hb : Below w.heap.size w w') : RowQ w0 v os w' := Rws.next h hb
theorem RowQ.below (h : RowQ w0 v os w) : Below w0.heap.size w0 w := Rws.below h
theorem RowQ.start : RowQ w (.slice none 0 0) [] w := Rws.nil Rws.start _ _
theorem RowQ.at_ (h : RowQ w0 v os w) : ∃ A c, v = .slice A os.length c ∧ RAt w A os := by
 obtain ⟨h1, h2⟩ := h.own _ List.mem_cons_self
 rcases h2 with ⟨hv, hx⟩ | ⟨g', cap', cur, hv, hg, hh, hnc, hm, hs, hc⟩
 ·dsimp only at hv hx
  exact ⟨none, 0, by rw [hx]; exact hv, .inl (List.eq_nil_of_length_eq_zero hx)⟩
 ·dsimp only at h1 hv hg hh hnc hm hs hc
  refine ⟨_, cap', hv, .inr ⟨g', cur.toList.drop (os.length * 3), rfl, ?_⟩⟩
  have : cur = RX (cur.toList.drop (os.length * 3)) os := by
   apply Array.toList_inj.1
   rw [RX_list, ← hc, List.take_append_drop]
  rw [← this]
  exact hh
theorem RowQ.add {x : Rat} {n : Nat} (hn : os.length = n) (h : Rws w0 [⟨v, 27, 3, n + 1, fr os ++ (RC x).toList⟩] w) : RowQ w0 v (os ++ [x]) w := by
 unfold RowQ
 have e : fr (os ++ [x]) = fr os ++ (RC x).toList := by rw [fr_app]; simp [fr, rl]
 rw [e, List.length_append, hn]
 exact h
theorem RowQ.row {n : Nat} (hn : os.length = n) (h : RowQ w0 v os w) : Rws w0 [⟨v, 27, 3, n, fr os⟩] w := by subst hn; exact h
end
theorem St.rebase {W w1 w : World} {l : List Own} (h2 : St w1 l w) (h : Below W.heap.size W w1) : St W l w :=
 ⟨h.trans (h2.below.mono h.size), fun e he => ⟨Nat.le_trans h.size (h2.blk e he).1, (h2.blk e he).2⟩, h2.apart⟩
theorem run_idxR {g n c i : Nat} {z : Int} (hi : i < n) (hz : z = (i : Int)) (w : World) : (Instr.indexAt 55 (.slice (some ⟨g, 0, none⟩) n c) (.int .i64 z)).run Tryz.prog w = .ok (.pointer (some ⟨g, 3 * i, none⟩)) w := run_index (m := 3) (by kernel_rfl) hz hi w
theorem run_loadR {w : World} {g i : Nat} {J : List Value} {p : Nums} (h : Blk w g 27 (RX J p)) (hi : i < p.length) : (loadVar 27 ⟨g, 3 * i, none⟩).run Tryz.prog w = .ok (.agg (RC (rx p i))) w := by
 rw [run_load_part h (RX_room hi) (by kernel_rfl), RX_at hi]
theorem slcQ_1 {o : Oper} {a : Act} {X0 : Operand} {x0 : Rat} (ho : o.op = .buildSlice 55 1 #[(0, X0)]) (h0 : a.eval X0 = .agg (RC x0)) (w : World) :
  (execOp a.eval o).run Tryz.prog w = .ok (.value (.slice (some ⟨w.heap.size, 0, none⟩) 1 1)) (w.alloc (.cells (RC x0) 27)) := by
 unfold RC at h0 ⊢
 unfold execOp
 simp only [ho, List.map_toArray, List.map_cons, List.map_nil, h0]
 go_simp
def isOneQ (x : Rat) : Told := fun u w => ∃ g, u = .slice (some ⟨g, 0, none⟩) 1 1 ∧ Blk w g 27 (RC x)
theorem isOneQ_st {x : Rat} (v : Value) (w w' : World) (h : isOneQ x v w) (hb : Below w.heap.size w w') : isOneQ x v w' := by
 obtain ⟨g, e, h1⟩ := h
 exact ⟨g, e, h1.belowB hb⟩
theorem st_asg {P : Program} {K : Act → World → Prop} {Q : Exit → Act → World → Prop} {o : Oper} {a : Act} {w : World} {x : Operand} (ho : o.op = .assign x) (h : K (a.put o.dst (a.eval x)) w) : o.wp P a w K Q := by
 unfold Oper.wp execOp
 simp only [ho]
 exact h
theorem dv_len : ∀ (p : Nums) (k : Int), (dvL k p).length = p.length
 | [], _ => rfl
 | c :: p, k => by unfold dvL; simp [dv_len p]
theorem dv_rx : ∀ (p : Nums) (k : Int) (j : Nat), j < p.length → rx (dvL k p) j = ((k + (j : Int) : Int) : Rat) * rx p j
 | c :: p, k, 0, _ => by unfold dvL rx; simp
 | c :: p, k, j + 1, h => by
   have := dv_rx p (k + 1) j (by simpa using h)
   unfold dvL
   unfold rx at *
   rw [List.getD_cons_succ, List.getD_cons_succ, this, show k + 1 + (j : Int) = k + ((j + 1 : Nat) : Int) by omega]
theorem tail_rx (p : Nums) (j : Nat) : rx p.tail j = rx p (j + 1) := by
 cases p with
 | nil => simp [rx]
 | cons c p => rfl
theorem deriveP_S {K n c : Nat} {A : Option Addr} {p : Nums} (w : World) (hA : RAt w A p) (hn : p.length = n) (hz : DerZ K p) (hT : Tab w) (hk : K ≤ 1000000000000) :
  Calls Tryz.prog 157 #[.slice A n c] w fun e w' => RNew w (deriveL p) e w' := by
 have HA := yh hA; clear hA
 have HN := yh hn
 have hn2 : n ≤ 1000 := by rw [← hn]; exact hz.len
 clear hn
 have HDZ := yh hz; clear hz
 have HT := yh hT; clear hT
 have HK := yh hk; clear hk
 obtain ⟨D, hD⟩ : ∃ D, dvL 1 p.tail = D := ⟨_, rfl⟩
 have HD := yh hD
 have HDL : Hid (D.length = n - 1) := yh (by rw [← hD, dv_len, List.length_tail, HN.out])
 clear hD
 have HP0 : Hid (RowQ w (.slice none 0 0) (D.take 0) w) := yh RowQ.start
 go_enter Tryz.func157, Tryz.ntmps157
 go_wp2_with fail
 go_loopg [3, 4] n (fun kx s3 s4 wr => ∃ (j : Nat) (A9 : Option Addr) (c9 : Nat), kx = n - j ∧ s3 = .slice A9 j c9 ∧ s4 = .int .i64 ((j : Int) + 1) ∧ j ≤ n - 1 ∧ Hid (RowQ w (.slice A9 j c9) (D.take j) wr))
 case atStart => exact ⟨0, none, 0, rfl, rfl, rfl, Nat.zero_le _, HP0⟩
 case round =>
  clear HP0
  obtain ⟨j, A9, c9, hgk, rfl, rfl, hj, HP⟩ := hrel
  have HGK := yh hgk; clear hgk
  by_cases hc1 : j + 1 < n
  ·have hj1n : j + 1 < n := hc1
   have hlt : (j : Int) + 1 < (n : Int) := by omega
   have HJ1 := yh (show j + 1 < p.length by rw [HN.out]; exact hc1)
   have HJD := yh (show j < D.length by rw [HDL.out]; omega)
   obtain ⟨g0, J, rfl, hB⟩ := HA.out.get HJ1.out
   have HB := yh hB; clear hB
   obtain ⟨x0, hx0⟩ : ∃ x0, (((j : Int) + 1 : Int) : Rat) = x0 := ⟨_, rfl⟩
   have HX0 := yh hx0
   have HX0Z : Hid (Rz K x0) := yh ((Rz.lit hx0 (by omega)).more HDZ.out.two)
   obtain ⟨y0, hy0⟩ : ∃ y0, x0 * rx p (j + 1) = y0 := ⟨_, rfl⟩
   have HY0 := yh hy0
   have HY0D : Hid (rx D j = y0) := yh (by rw [← hy0, ← HD.out, dv_rx _ _ _ (by rw [List.length_tail, HN.out]; omega), tail_rx, ← hx0, Int.add_comm])
   clear hx0 hy0
   have hwi : IntKind.i64.wrap ((j : Int) + 1 + 1) = (j : Int) + 1 + 1 := IntWalk.i64_in _ (by omega)
   go_upto_region 5 with fail
   refine wp_inv_chainJ (S := (RowQ w (.slice A9 j c9) (D.take j))) 9 [isV (.slice A9 j c9), isV (.int .i64 ((j : Int) + 1)), isV (.agg (RC x0)), isV (.slice (some ⟨g0, 0, none⟩) n c), isV (.int .i64 ((j : Int) + 1)), isV (.pointer (some ⟨g0, 3 * (j + 1), none⟩)), isV (.agg (RC (rx p (j + 1)))), isV (.agg (RC y0)), isOneQ y0] rfl (by kernel_rfl) (by kernel_rfl) (by kernel_rfl) (by kernel_rfl) (fun _ _ h9 hb9 => h9.next hb9) HP.out ?plan ?last
   case plan =>
    refine PlanJ.cons (OpJ.mkV fun a wx hs hf hp => ?_) ?_
    ·exact StepI.mov rfl (wants_none rfl) (hf.keep 3 (by kernel_rfl))
    refine PlanJ.cons (OpJ.mkV fun a wx hs hf hp => ?_) ?_
    ·exact StepI.mov rfl (wants_none rfl) (hf.keep 4 (by kernel_rfl))
    refine PlanJ.cons (OpJ.mkV fun a wx hs hf hp => ?_) ?_
    ·exact StepI.callV rfl (wants_none rfl) (args1 (hp 1 12 (by kernel_rfl) rfl)) (by kernel_rfl) (of_q (n := (j : Int) + 1) HT.out (by omega) (by omega) HX0.out wx (St.begin hs.below))
    refine PlanJ.cons (OpJ.mkV fun a wx hs hf hp => ?_) ?_
    ·exact StepI.mov rfl (wants_none rfl) (hf.keep 0 (by kernel_rfl))
    refine PlanJ.cons (OpJ.mkV fun a wx hs hf hp => ?_) ?_
    ·exact StepI.mov rfl (wants_none rfl) (hf.keep 4 (by kernel_rfl))
    refine PlanJ.cons (OpJ.mkV fun a wx hs hf hp => ?_) ?_
    ·exact StepI.idx rfl (wants_none rfl) (hp 3 14 (by kernel_rfl) rfl) (hp 4 15 (by kernel_rfl) rfl) (run_idxR (i := j + 1) hj1n (by omega) wx) rfl
    refine PlanJ.cons (OpJ.mkV fun a wx hs hf hp => ?_) ?_
    ·exact StepI.load rfl (wants_none rfl) (hp 5 16 (by kernel_rfl) rfl) (run_loadR (HB.out.belowB hs.below) HJ1.out) rfl
    refine PlanJ.cons (OpJ.mkV fun a wx hs hf hp => ?_) ?_
    ·exact StepI.callV rfl (wants_none rfl) (args2 (hp 2 13 (by kernel_rfl) rfl) (hp 6 17 (by kernel_rfl) rfl)) (by kernel_rfl) (mul_q (k := K) HT.out HX0Z.out (HDZ.out.zp.at_ HJ1.out) HY0.out (by have := HK.out; omega) wx (St.begin hs.below))
    refine PlanJ.cons (OpJ.mk isOneQ_st fun a wx hs hf hp => ?_) ?_
    ·have e9 : a.eval (.tmp 18) = .agg (RC y0) := (hp 7 18 (by kernel_rfl) rfl)
     exact StepI.new (wants_none rfl) (slcQ_1 rfl e9 wx) ((Below.refl _ _).alloc (Nat.le_refl _) _) ⟨_, rfl, Blk.new _ _ _⟩
    exact PlanJ.nil
   case last =>
    intro a wx hs hf hv
    obtain ⟨g9, e19, hb9⟩ := (show isOneQ y0 (a.tmps.getD 19 undef) wx from hv 8 19 (by decide) rfl)
    have hput := hf.puts [(11, .slice A9 j c9), (12, .int .i64 ((j : Int) + 1)), (13, .agg (RC x0)), (14, .slice (some ⟨g0, 0, none⟩) n c), (15, .int .i64 ((j : Int) + 1)), (16, .pointer (some ⟨g0, 3 * (j + 1), none⟩)), (17, .agg (RC (rx p (j + 1)))), (18, .agg (RC y0)), (19, .slice (some ⟨g9, 0, none⟩) 1 1)] (by kernel_rfl) (List.forall_mem_cons.2 ⟨hv 0 11 (by decide) rfl, (List.forall_mem_cons.2 ⟨hv 1 12 (by decide) rfl, (List.forall_mem_cons.2 ⟨hv 2 13 (by decide) rfl, (List.forall_mem_cons.2 ⟨hv 3 14 (by decide) rfl, (List.forall_mem_cons.2 ⟨hv 4 15 (by decide) rfl, (List.forall_mem_cons.2 ⟨hv 5 16 (by decide) rfl, (List.forall_mem_cons.2 ⟨hv 6 17 (by decide) rfl, (List.forall_mem_cons.2 ⟨hv 7 18 (by decide) rfl, (List.forall_mem_cons.2 ⟨e19, (by intro p hp; cases hp)⟩)⟩)⟩)⟩)⟩)⟩)⟩)⟩)⟩)
    have HO9 := yh (RowQ.row (take_len HDL.out (show j ≤ n - 1 by omega)) hs)
    have HB9 := yh hb9
    clear hf hv e19 hs hb9
    subst hput
    simp only [puts, Act.put, List.setIfInBounds_toArray, List.set_cons_zero, List.set_cons_succ]
    refine ⟨wants_none rfl, ?_⟩
    refine wp_append_row (.tmp 11) (.tmp 19) _ rfl Tryz.underlying55 infoR rfl rfl HO9.out rfl rfl (HB9.out.reads rfl rfl) (fun u hu => RC_one _ u (by simpa using hu)) (by omega) ?_
    intro v6 w6 hR6 hb6
    simp only [Act.put, List.setIfInBounds_toArray, List.set_cons_zero, List.set_cons_succ]
    refine ⟨wants_none rfl, ?_⟩
    refine st_asg rfl ?_
    unfold chainW
    simp only [Act.eval, Act.put, List.setIfInBounds_toArray, List.set_cons_zero, List.set_cons_succ]
    have HR6 : Hid (RowQ w v6 (D.take (j + 1)) w6) := yh (by
     have h9 := RowQ.add (take_len HDL.out (show j ≤ n - 1 by omega)) hR6
     rw [take_succ_rx HJD.out, HY0D.out]
     exact h9)
    clear hR6 hb6 HO9 HB9 HP
    obtain ⟨A10, c10, e10, -⟩ := HR6.out.at_
    rw [take_len HDL.out (by omega)] at e10
    subst e10
    go_wp2_with fail
    go_roundg (n - (j + 1))
    case measure => rw [HGK.out]; omega
    case rel => exact ⟨j + 1, A10, c10, rfl, rfl, by go_num, by omega, HR6⟩
  ·have hge : ¬ (j : Int) + 1 < (n : Int) := by omega
   obtain ⟨A10, c10, e10, hat⟩ := HP.out.at_
   have hDj : D.take j = D := List.take_of_length_le (by rw [HDL.out]; omega)
   have hlj : D.length = j := by rw [HDL.out]; omega
   rw [hDj, hlj] at e10
   cases e10
   have HAT : Hid (RAt wr A9 D) := yh (by rw [hDj] at hat; exact hat)
   have HLJ := yh hlj
   have HS : Hid (St wr [] wr) := yh St.start
   have HBW := yh HP.out.below
   have HTR : Hid (Tab wr) := yh (HT.out.next HP.out.below)
   have HTL : Hid (trimL D = deriveL p) := yh (by rw [← HD.out]; rfl)
   have HDZ2 : Hid (Qz K D) := yh (by rw [← HD.out]; exact HDZ.out.zd)
   obtain ⟨q0, hq0⟩ : ∃ q0, trimL D = q0 := ⟨_, rfl⟩
   obtain ⟨m0, hm0⟩ : ∃ m0, q0.length = m0 := ⟨_, rfl⟩
   have HQ0 := yh hq0
   have HM0 := yh hm0
   clear hDj hlj hat HP hq0 hm0
   go_upto_region 6 with fail
   refine wp_seq_text [1000001] (StR.no HS.out) ?_
   refine pU ?_
   refine Seq.callFresh (n := some m0) (x := (27, RX [] q0)) rfl rfl rfl rfl (by kernel_rfl) (fun w' h' => by have h9 := trimP_S (c := c9) w' (HAT.out.next h'.st.below) HLJ.out HDZ2.out (tabS HTR.out h'.st) (by omega) HK.out; rw [HQ0.out] at h9; exact h9.mono fun e w2 h2 => h2.fresh HM0.out) ?_
   intro gn _ _ hgn
   refine nZ ?_
   refine pU ?_
   refine Seq.done fun wz hws => ?_
   have HE : Hid (RNew w (deriveL p) (.returned (.slice (some ⟨gn, 0, none⟩) m0 m0)) wz) := yh ⟨gn, by rw [← HTL.out, HQ0.out, HM0.out], by rw [← HTL.out, HQ0.out]; exact (hws.q1).rebase HBW.out⟩
   clear hws
   go_wp2_with fail
   go_ret
   exact HE.out
def RIn (W : World) (l : List Own) (A : Option Addr) (p : Nums) : Prop := p = [] ∨ ∃ g J, A = some ⟨g, 0, none⟩ ∧ (Blk W g 27 (RX J p) ∨ (g, 27, RX J p) ∈ l)
theorem RIn.at_ {W w : World} {l : List Own} {A : Option Addr} {p : Nums} (h : RIn W l A p) (hs : St W l w) : RAt w A p := by
 rcases h with h | ⟨g, J, h1, h2 | h2⟩
 ·exact .inl h
 ·exact .inr ⟨g, J, h1, hs.came h2⟩
 ·exact .inr ⟨g, J, h1, (hs.blk _ h2).2⟩
theorem RIn.more {W : World} {l l' : List Own} {A : Option Addr} {p : Nums} (h : RIn W l A p) (hs : ∀ e ∈ l, e ∈ l') : RIn W l' A p := by
 rcases h with h | ⟨g, J, h1, h2 | h2⟩
 ·exact .inl h
 ·exact .inr ⟨g, J, h1, .inl h2⟩
 ·exact .inr ⟨g, J, h1, .inr (hs _ h2)⟩
theorem RIn.of {W : World} {A : Option Addr} {p : Nums} (h : RAt W A p) (l : List Own) : RIn W l A p := by
 rcases h with h | ⟨g, J, h1, h2⟩
 ·exact .inl h
 ·exact .inr ⟨g, J, h1, .inl h2⟩
theorem RIn.own {W : World} {l : List Own} {g : Nat} {J : List Value} {p : Nums} (h : (g, 27, RX J p) ∈ l) : RIn W l (some ⟨g, 0, none⟩) p := .inr ⟨g, J, rfl, .inr h⟩
theorem trim_sub : ∀ (p : Nums), ∀ c ∈ trimL p, c ∈ p
 | [], c, h => h
 | d :: p, c, h => by
   have ih := trim_sub p
   unfold trimL at h
   revert h ih
   cases trimL p with
   | nil =>
     intro ih h
     dsimp only at h
     split at h
     ·cases h
     ·exact List.mem_cons.2 (.inl (List.mem_singleton.1 h))
   | cons x q =>
     intro ih h
     rcases List.mem_cons.1 h with h | h
     ·exact List.mem_cons.2 (.inl h)
     ·exact List.mem_cons_of_mem _ (ih c h)
theorem Qz.trim {K : Nat} {p : Nums} (h : Qz K p) : Qz K (trimL p) := fun c hc => h c (trim_sub p c hc)
theorem trim_ld {p : Nums} (h : trimL p ≠ []) : (trimL p).getLast?.getD 0 ≠ 0 := by
 have := trim_tr p
 cases hq : (trimL p).getLast? with
 | none => rw [List.getLast?_eq_none_iff] at hq; exact absurd hq h
 | some c => exact this c hq
theorem DvR.len {K n : Nat} {q by1 rest1 by2 rest2 : Nums} (h : DvR K q n by1 rest1 by2 rest2) : rest2.length < q.length ∧ by2.length = by1.length := by
 induction h with
 | stop h1 h2 => exact ⟨h2, rfl⟩
 | step h1 h2 h3 h4 h5 h6 h ih => exact ⟨ih.1, by rw [ih.2, List.length_set]⟩
theorem DivR.rest_lt {K : Nat} {p q by2 rest2 : Nums} (h : DivR K p q by2 rest2) : rest2.length < q.length := by
 obtain ⟨n, hn⟩ := h.run
 exact hn.len.1
theorem DivR.by_le {K : Nat} {p q by2 rest2 : Nums} (h : DivR K p q by2 rest2) : by2.length ≤ p.length := by
 obtain ⟨n, hn⟩ := h.run
 rw [hn.len.2, zeros_len]
 have := trim_len p
 have : 0 < q.length := List.length_pos_iff.2 h.ne
 omega
theorem plainP_S {K n c : Nat} {A : Option Addr} {p o : Nums} (w : World) (hA : RAt w A p) (hn : p.length = n) (hP : PlR K p o) (hT : Tab w) (hk : K ≤ 1000000000000) :
  Calls Tryz.prog 122 #[.slice A n c] w fun e w' => RNew w o e w' := by
 have HA := yh hA; clear hA
 have HN := yh hn
 have hn2 : n ≤ 1000 := by rw [← hn]; exact hP.dz.len
 clear hn
 have HDZ := yh hP.dz
 obtain ⟨kn, ga, by0, rs0, hg, hd, hb, ho⟩ := hP.run
 have HG := yh hg
 have HDV := yh hd
 have HBZ := yh hb
 have HO := yh ho
 clear hg hd hb ho hP
 have HT := yh hT; clear hT
 have HK := yh hk; clear hk
 obtain ⟨d0, hd0⟩ : ∃ d0, deriveL p = d0 := ⟨_, rfl⟩
 obtain ⟨m0, hm0⟩ : ∃ m0, d0.length = m0 := ⟨_, rfl⟩
 have hm01 : m0 ≤ 1000 := by
  rw [← hm0, ← hd0]
  have h1 := trim_len (dvL 1 p.tail)
  rw [dv_len, List.length_tail, HN.out] at h1
  unfold deriveL
  omega
 have HD0 := yh hd0
 have HM0 := yh hm0
 clear hd0 hm0
 have HS0 : Hid (St w [] w) := yh St.start
 go_enter Tryz.func122, Tryz.ntmps122
 go_upto_region 1 with fail
 refine wp_seq_text [1000002] (StR.no HS0.out) ?_
 iterate 2 refine pU ?_
 refine Seq.callFresh (n := some m0) (x := (27, RX [] d0)) rfl rfl rfl rfl (by kernel_rfl) (fun w' h' => by have h9 := deriveP_S (c := c) w' (HA.out.next h'.st.below) HN.out HDZ.out (tabS HT.out h'.st) HK.out; rw [HD0.out] at h9; exact h9.mono fun e w2 h2 => h2.fresh HM0.out) ?_
 intro gd _ _ hgd
 refine nZ ?_
 iterate 2 refine pU ?_
 refine Seq.done fun wz hws => ?_
 have HS1 := yh (hws.q1)
 clear hws HS0
 go_wp2_with fail
 go_loopg [3, 4] kn (fun kx s3 s4 wr => ∃ (a b : Nums) (Aa Ab : Option Addr) (na ca nb cb : Nat) (bl : List Own), s3 = .slice Aa na ca ∧ s4 = .slice Ab nb cb ∧ na ≤ 1000 ∧ nb ≤ 1000 ∧ Hid (a.length = na) ∧ Hid (b.length = nb) ∧ Hid (RIn w bl Aa a) ∧ Hid (RIn w bl Ab b) ∧ Hid (GcR K kx a b ga) ∧ Hid (St w bl wr))
 case atStart => exact ⟨p, d0, A, _, n, c, m0, m0, _, rfl, rfl, hn2, hm01, HN, HM0, yh (RIn.of HA.out _), yh (RIn.own List.mem_cons_self), yh (by rw [← HD0.out]; exact HG.out), HS1⟩
 case round =>
  clear HS1 HG
  obtain ⟨a, b, Aa, Ab, na, ca, nb, cb, bl, rfl, rfl, hna, hnb, HLa, HLb, HIa, HIb, HRUN, HS⟩ := hrel
  have hcase := HRUN.out
  clear HRUN
  cases hcase with
  | stop =>
    have hnb0 : nb = 0 := by rw [← HLb.out]; rfl
    subst hnb0
    have hby : by0.length ≤ n := by rw [← HN.out]; exact HDV.out.by_le
    have HBL := yh (rfl : by0.length = by0.length)
    obtain ⟨n1, hn1⟩ : ∃ n1, by0.length = n1 := ⟨_, rfl⟩
    obtain ⟨t0, ht0⟩ : ∃ t0, trimL by0 = t0 := ⟨_, rfl⟩
    obtain ⟨n2, hn2'⟩ : ∃ n2, t0.length = n2 := ⟨_, rfl⟩
    obtain ⟨n3, hn3⟩ : ∃ n3, o.length = n3 := ⟨_, rfl⟩
    have hn12 : n2 ≤ n1 := by rw [← hn2', ← ht0, ← hn1]; exact trim_len by0
    have hn1n : n1 ≤ n := by rw [← hn1]; exact hby
    have HN1 := yh hn1
    have HT0 := yh ht0
    have HN2 := yh hn2'
    have HN3 := yh hn3
    clear hn1 ht0 hn2' hn3 hby HBL
    go_upto_region 5 with fail
    refine wp_seq_text [3000000] (StR.no HS.out) ?_
    iterate 2 refine pU ?_
    refine Seq.callTwo (n1 := n1) (n2 := rs0.length) (T := 27) (c1 := RX [] by0) (c2 := RX [] rs0) rfl rfl rfl rfl (by kernel_rfl) (fun w' h' => by have h9 := divideP_S (c := c) (c2 := ca) w' (HA.out.next h'.st.below) (HIa.out.at_ h'.st) HN.out HLa.out HDV.out (tabS HT.out h'.st) hn2 hna HK.out; rw [HN1.out] at h9; exact h9) ?_
    intro g1 g2 ne_g1_g2
    have ne_g2_g1 := Ne.symm ne_g1_g2
    refine nZ ?_
    iterate 5 refine pU ?_
    refine dn1 g1 fun w2 HS2=>?_
    clear HS
    go_upto_region 6 with fail
    refine rgT [1000001, 1000002] HS2 ?_
    refine pU ?_
    refine Seq.callFresh (n := some n2) (x := (27, RX [] t0)) rfl rfl rfl rfl (by kernel_rfl) (fun w' h' => by have h9 := trimP_S (c := n1) w' (.inr ⟨g1, [], rfl, (h'.st.blk _ List.mem_cons_self).2⟩) HN1.out HBZ.out (tabS HT.out h'.st) (by omega) HK.out; rw [HT0.out] at h9; exact h9.mono fun e w2 h2 => h2.fresh HN2.out) ?_
    intro gt _ _ hgt
    refine nZ ?_
    refine Seq.callFresh (n := some n3) (x := (27, RX [] o)) rfl rfl rfl rfl (by kernel_rfl) (fun w' h' => by have h9 := scaledP_S (c := n2) w' (.inr ⟨gt, [], rfl, (h'.reg gt _ _ (by repeat first|exact rS|refine rN ‹_› ?_)).2.2⟩) HN2.out (by rw [← HT0.out]; exact HBZ.out.trim) (by rw [← HT0.out]; exact trim_ld) (tabS HT.out h'.st) (by omega) HK.out; rw [← HT0.out, ← HO.out] at h9; exact h9.mono fun e w2 h2 => h2.fresh HN3.out) ?_
    intro gf _ _ hgf
    refine nZ ?_
    refine pU ?_
    refine Seq.done fun w3 hws => ?_
    have HE : Hid (RNew w o (.returned (.slice (some ⟨gf, 0, none⟩) n3 n3)) w3) := yh ⟨gf, by rw [HN3.out], St.sub (hws.q1 (p := gf)) (List.cons_sublist_cons.2 (List.nil_sublist _))⟩
    clear hws HS2
    go_wp2_with fail
    go_ret
    exact HE.out
  | @step kn2 _ _ by1 rest1 _ h0 h1 h2 =>
    have HDV1 := yh h1
    have HRUN : Hid (GcR K kn2 (scaledL b) rest1 ga) := yh h2
    have hnb0 : 0 < nb := by rw [← HLb.out]; exact List.length_pos_iff.2 h0
    have hnbI : (0 : Int) < (nb : Int) := by omega
    obtain ⟨n1, hn1⟩ : ∃ n1, by1.length = n1 := ⟨_, rfl⟩
    obtain ⟨n2, hn2'⟩ : ∃ n2, rest1.length = n2 := ⟨_, rfl⟩
    have hn2b : n2 ≤ nb := by have := h1.rest_lt; rw [← hn2', ← HLb.out]; omega
    have HN1 := yh hn1
    have HN2 := yh hn2'
    have HBQ := yh h1.zq
    have HBD := yh (fun (_ : b ≠ []) => h1.ld)
    have HSL : Hid ((scaledL b).length = nb) := yh (by rw [scaled_len]; exact HLb.out)
    clear h0 h1 h2 hn1 hn2'
    go_upto_region 3 with fail
    refine wp_seq_text [3000000] (StR.no HS.out) ?_
    iterate 2 refine pU ?_
    refine Seq.callTwo (n1 := n1) (n2 := n2) (T := 27) (c1 := RX [] by1) (c2 := RX [] rest1) rfl rfl rfl rfl (by kernel_rfl) (fun w' h' => by have h9 := divideP_S (c := ca) (c2 := cb) w' (HIa.out.at_ h'.st) (HIb.out.at_ h'.st) HLa.out HLb.out HDV1.out (tabS HT.out h'.st) hna hnb HK.out; rw [HN1.out, HN2.out] at h9; exact h9) ?_
    intro g1 g2 ne_g1_g2
    have ne_g2_g1 := Ne.symm ne_g1_g2
    refine nZ ?_
    iterate 5 refine pU ?_
    refine dn1 g2 fun w2 HS2=>?_
    have HIb2 : Hid (RIn w ((g2, 27, RX [] rest1) :: bl) Ab b) := yh (HIb.out.more fun e he => List.mem_cons_of_mem _ he)
    clear HIa HIb HS
    go_upto_region 4 with fail
    refine rgT [1000001] HS2 ?_
    refine pU ?_
    refine Seq.callFresh (n := some nb) (x := (27, RX [] (scaledL b))) rfl rfl rfl rfl (by kernel_rfl) (fun w' h' => (scaledP_S (c := cb) w' (HIb2.out.at_ h'.st) HLb.out HBQ.out HBD.out (tabS HT.out h'.st) hnb HK.out).mono fun e w2 h2 => h2.fresh HSL.out) ?_
    intro g3 _ _ hg3
    refine nZ ?_
    iterate 3 refine pU ?_
    refine dh1 g3 fun _ HS3=>?_
    clear HS2
    go_wp2_with fail
    go_roundg kn2
    case measure => exact Nat.lt_succ_self _
    case rel => exact ⟨scaledL b, rest1, _, _, nb, nb, n2, n2, _, rfl, rfl, hnb, by omega, HSL, HN2, yh (RIn.own List.mem_cons_self), yh (RIn.own (List.mem_cons_of_mem _ List.mem_cons_self)), HRUN, HS3⟩
end Go.Proofs.YtmchjmflkaiakaaGreatDoor
