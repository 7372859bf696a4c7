/- Joined texts: StO StP StQ. -/
import Derived.Test.YtmchjmflkaiakaaGreatDoorStK
import Derived.Deep.LoopGhost
import Derived.OwnWalk
import Derived.Test.YtmchjmflkaiakaaGreatDoorSp3
set_option maxHeartbeats 4000000
set_option maxRecDepth 20000
namespace Go.Proofs.YtmchjmflkaiakaaGreatDoor
open Go.RowKit
set_option linter.unusedVariables false
set_option linter.unusedSimpArgs false
def SAt (w : World) (v : Value) (l : List Spn) : Prop := ∃ A c, v = .slice A l.length c ∧ (l = [] ∨ ∃ g J, A = some ⟨g, 0, none⟩ ∧ Blk w g 32 (PX J l))
theorem SAt.next {w w' : World} {v : Value} {l : List Spn} (h : SAt w v l) (hb : Below w.heap.size w w') : SAt w' v l := by
 obtain ⟨A, c, h1, h2⟩ := h
 refine ⟨A, c, h1, ?_⟩
 rcases h2 with h2 | ⟨g, J, h2, h3⟩
 ·exact .inl h2
 ·exact .inr ⟨g, J, h2, h3.belowB hb⟩
theorem sumA_snoc (x : Rat) : ∀ p : Nums, sumA (p ++ [x]) = sumA p + absQ x
 | [] => by show absQ' x + 0 = 0 + absQ x; have : absQ' x = absQ x := rfl; grind
 | c :: p => by
   have := sumA_snoc x p
   show absQ' c + sumA (p ++ [x]) = absQ' c + sumA p + absQ x
   rw [this]; grind
theorem FxR.len {K i : Nat} {cs : List Nums} {l l2 : List Spn} (h : FxR K cs i l l2) : l2.length = l.length := by
 induction h with
 | stop h => rfl
 | step h ha hb hp hr ih => rw [ih, List.length_set, List.length_set]
theorem sub_extract {c d : Array Value} {f n k m : Nat} (h : c.extract f (f + n) = d) (hm : k + m ≤ n) : c.extract (f + k) (f + k + m) = d.extract k (k + m) := by
 rw [← h, Array.extract_extract]
 congr 1
 omega
theorem PX_lo {J : List Value} {l : Pts} {i : Nat} (h : i < l.length) : (PX J l).extract (6 * i) (6 * i + 3) = RC (px l i) := by
 have := sub_extract (k := 0) (m := 3) (PX_at (J := J) h) (by omega)
 exact this
theorem PX_hi {J : List Value} {l : Pts} {i : Nat} (h : i < l.length) : (PX J l).extract (6 * i + 3) (6 * i + 3 + 3) = RC (py l i) := sub_extract (k := 3) (m := 3) (PX_at (J := J) h) (by omega)
theorem set2_px {l : Pts} {i : Nat} {a b : P2} (h : i + 1 < l.length) : ((l.set i a).set (i + 1) b).length = l.length ∧ px ((l.set i a).set (i + 1) b) i = a.1 ∧ py ((l.set i a).set (i + 1) b) i = a.2 ∧ px ((l.set i a).set (i + 1) b) (i + 1) = b.1 ∧ py ((l.set i a).set (i + 1) b) (i + 1) = b.2 := by
 have h1 : i + 1 < (l.set i a).length := by rw [List.length_set]; exact h
 refine ⟨by rw [List.length_set, List.length_set], ?_, ?_, ?_, ?_⟩
 ·rw [px_set h1, if_neg (by omega), px_set (by omega), if_pos rfl]
 ·rw [py_set h1, if_neg (by omega), py_set (by omega), if_pos rfl]
 ·rw [px_set h1, if_pos rfl]
 ·rw [py_set h1, if_pos rfl]
theorem set2_set2 {l : Pts} {i : Nat} {a b a' b' : P2} : ((((l.set i a).set (i + 1) b).set i a').set (i + 1) b') = (l.set i a').set (i + 1) b' := by
 apply List.ext_getElem?
 intro j
 simp only [List.getElem?_set, List.length_set]
 by_cases h1 : i + 1 = j
 ·simp [h1]
 ·by_cases h2 : i = j <;> simp [h1, h2]
theorem roots_S {K n c : Nat} {A : Option Addr} {p : Nums} {cs : List Nums} {l2 : List Spn} (w : World) (hA : RAt w A p) (hn : p.length = n) (hR : RtR K p cs l2) (hT : Tab w) (hk : K ≤ 1000000000000) :
  Calls Tryz.prog 26 #[.slice A n c] w fun e w' => ∃ v, e = .returned (.tuple #[v, .int .i64 0]) ∧ Below w.heap.size w w' ∧ SAt w' v l2 := by
 have HA := yh hA; clear hA
 have HN := yh hn; clear hn
 have HRD := yh hR.rd
 have H2 := yh hR.two
 obtain ⟨q0, hq0⟩ : ∃ q0, cs.headD [] = q0 := ⟨_, rfl⟩
 have HQZ : Hid (∀ c ∈ q0, Rz K c) := yh (by rw [← hq0]; exact hR.ms)
 have HMZ : Hid (∀ i, Rz K (1 + sumA (q0.take i))) := yh (by rw [← hq0]; exact hR.mz)
 obtain ⟨out, hsp, hfx, hol⟩ := hR.run
 rw [hq0] at hsp
 have HSP := yh hsp
 have HFX := yh hfx
 have HOL := yh hol
 have HL2 : Hid (l2.length = out.length) := yh hfx.len
 have HNE : Hid (cs ≠ []) := yh (by obtain ⟨o, kn, cs1, _, _, _, _, e⟩ := hR.rd.run; rw [e]; exact List.cons_ne_nil _ _)
 have HQ0 := yh hq0
 have HQL : Hid (q0.length ≤ 1000) := yh (by
  obtain ⟨o, kn, cs1, _, hd, _, _, e⟩ := hR.rd.run
  rw [← hq0, e]; exact hd.len)
 clear hq0 hsp hfx hol hR
 have HT := yh hT; clear hT
 have HK := yh hk; clear hk
 have HS0 : Hid (St w [] w) := yh St.start
 go_enter Tryz.func26, Tryz.ntmps26
 go_upto_region 1 with fail
 refine wp_seq_textC 1 [] rfl rfl rfl (StR.no HS0.out) ?_
 refine pU ?_
 refine dnH fun w1 HST1=>?_
 clear HS0
 refine ⟨wants_none rfl, ?_⟩
 refine w_call (vs := #[.slice A n c]) rfl rfl (by kernel_rfl) (ready_S (c := c) w1 (HA.out.next HST1.out.below) HN.out HRD.out (tabS HT.out HST1.out) HK.out) fun e w2 h9 => ?_
 obtain ⟨vc, e9, hb9, hc9⟩ := h9
 refine ⟨_, e9, ?_⟩
 have HBW : Hid (Below w.heap.size w w2) := yh (HST1.out.below.trans (hb9.mono HST1.out.below.size))
 have HC := yh hc9
 have HTW : Hid (Tab w2) := yh (HT.out.next HBW.out)
 clear e9 hb9 hc9 HST1 HT
 simp only [Act.put, List.setIfInBounds_toArray, List.set_cons_zero, List.set_cons_succ]
 refine ⟨wants_none rfl, w_mov rfl ?_⟩
 simp only [Act.eval, Act.put, List.setIfInBounds_toArray, List.set_cons_zero, List.set_cons_succ]
 refine ⟨wants_none rfl, w_ext (vs := #[vc, .int .i64 0]) rfl rfl rfl ?_⟩
 simp only [Act.eval, Act.put, List.setIfInBounds_toArray, List.set_cons_zero, List.set_cons_succ]
 refine ⟨wants_none rfl, w_ext (vs := #[vc, .int .i64 0]) rfl rfl rfl ?_⟩
 simp only [Act.eval, Act.put, List.setIfInBounds_toArray, List.set_cons_zero, List.set_cons_succ]
 refine ⟨wants_none rfl, st_asg rfl ?_⟩
 simp only [Act.eval, Act.put, List.setIfInBounds_toArray, List.set_cons_zero, List.set_cons_succ]
 refine ⟨wants_none rfl, st_asg rfl ?_⟩
 unfold chainW
 simp only [Act.eval, Act.put, List.setIfInBounds_toArray, List.set_cons_zero, List.set_cons_succ]
 have HS2 : Hid (St w2 [] w2) := yh St.start
 obtain ⟨gch, capc, vsc, Jc, hvc, hBc, hGc⟩ := HC.out.open_
 have hp1 : cs[0]? = some q0 := by
  have h1 := HNE.out
  have h2 := HQ0.out
  cases cs with
  | nil => exact absurd rfl h1
  | cons c cs => simp at h2 ⊢; exact h2
 obtain ⟨A0, c0, hv0, hat0⟩ := hGc 0 q0 hp1
 have HV0 := yh hv0
 have HAT0 := yh hat0
 have HBC := yh hBc
 obtain ⟨ncs, hncs⟩ : ∃ ncs, cs.length = ncs := ⟨_, rfl⟩
 have hn0 : 0 < ncs := by rw [← hncs]; exact List.length_pos_iff.2 HNE.out
 rw [hncs] at hvc
 subst hvc
 obtain ⟨pl, hpl⟩ : ∃ pl, q0.length = pl := ⟨_, rfl⟩
 have HPL := yh hpl
 have hpl2 : pl ≤ 1000 := by rw [← hpl]; exact HQL.out
 rw [hpl] at HV0
 clear hv0 hat0 hGc hBc hp1 hncs hpl HQL HRD
 go_upto_region 4 with fail
 refine wp_seq_text [] (StR.no HS2.out) ?_
 refine cX rfl rfl (of_q (n := 1) (z := 1) HTW.out (by omega) (by omega) (by simp)) ?_
 refine aL3 ?_
 intro b6 _ _ hb6
 refine nZ ?_
 refine sV (RC_one _) ?_
 refine Seq.done fun w3 hws => ?_
 have HS3 := hws.q1
 clear hws HS2
 go_upto_region 5 with fail
 refine rgT [] HS3 ?_
 refine pU ?_
 refine iX 1 0 hn0 ?_
 refine Seq.loadCellF rfl rfl rfl rfl HBC.out (v := .slice A0 pl c0) HV0.out (by kernel_rfl) rfl (nZ ?_)
 iterate 2 refine pU ?_
 refine Seq.done fun w4 hws => ?_
 have HS4 : Hid (St w2 [(b6, 27, RC (1 + sumA (q0.take 0)))] w4) := yh (by
  have e : 1 + sumA (q0.take 0) = 1 := by show (1 : Rat) + 0 = 1; grind
  rw [e]; exact hws.st)
 clear hws HS3
 go_wp2_with fail
 go_loopg [24] pl (fun kx s24 wr => ∃ i : Nat, kx = pl - i ∧ s24 = .int .i64 (i : Int) ∧ i ≤ pl ∧ Hid (St w2 [(b6, 27, RC (1 + sumA (q0.take i)))] wr))
 case atStart => exact ⟨0, rfl, rfl, Nat.zero_le _, HS4⟩
 case round =>
  clear HS4
  obtain ⟨i, hgk2, rfl, hile, HS5⟩ := hrel
  have HGK2 := yh hgk2; clear hgk2
  by_cases hin : i < pl
  ·have HI := yh (show i < q0.length by rw [HPL.out]; omega)
   obtain ⟨g0, J, rfl, hB⟩ := HAT0.out.get HI.out
   have HB := yh hB; clear hB
   have HXZ : Hid (Rz K (rx q0 i)) := yh (HQZ.out _ (by rw [← rx_get HI.out]; exact List.getElem_mem _))
   have HV : Hid (1 + sumA (q0.take i) + absQ (rx q0 i) = 1 + sumA (q0.take (i + 1))) := yh (by rw [take_succ_rx HI.out, sumA_snoc]; grind)
   have hwi : IntKind.i64.wrap ((i : Int) + 1) = (i : Int) + 1 := IntWalk.i64_in _ (by omega)
   go_upto_region 7 with fail
   refine wp_seq_text [] (StR.no HS5.out) ?_
   refine iX 3 i hin ?_
   refine lF HB.out (RC (rx q0 i)) (RX_room HI.out) (RX_at HI.out) ?_
   refine aL3 ?_
   intro b8 _ _ hb8
   refine nZ ?_
   refine sV (RC_one _) ?_
   refine Seq.done fun w5 hws => ?_
   have HS6 := hws.q1
   clear hws HS5
   have HS7 := yh (StR.move (StR.no (St.perm HS6 (List.Perm.swap _ _ _))))
   clear HS6
   go_upto_region 8 with fail
   refine wS [0] (Reg.fin.put Reg.fin_no _ _) HS7.out ?_
   refine gV ?_
   refine lV ?_
   refine cX rfl rfl (abs_q (k := K) HTW.out HXZ.out rfl (by have := HK.out; omega)) ?_
   refine cX rfl rfl (add_q (k := K) HTW.out (HMZ.out i) HXZ.out.abs HV.out (by have := HK.out; omega)) ?_
   refine sV (RC_one _) ?_
   refine Seq.done fun w6 hws => ?_
   have HS8 : Hid (St w2 [(b6, 27, RC (1 + sumA (q0.take (i + 1))))] w6) := yh (St.sub (hws.q1) (List.cons_sublist_cons.2 (List.nil_sublist _)))
   clear hws HS7
   go_wp2_with fail
   go_roundg (pl - (i + 1))
   case measure => rw [HGK2.out]; omega
   case rel => exact ⟨i + 1, rfl, by go_num, by omega, HS8⟩
  ·have HS6 : Hid (St w2 [(b6, 27, RC (1 + sumA q0))] wr) := yh (by
    have h9 := HS5.out
    rw [List.take_of_length_le (by rw [HPL.out]; omega)] at h9
    exact h9)
   have HMM : Hid (Rz K (1 + sumA q0)) := yh (by
    have h9 := HMZ.out pl
    rw [List.take_of_length_le (by rw [HPL.out]; exact Nat.le_refl _)] at h9
    exact h9)
   obtain ⟨M, hM⟩ : ∃ M, 1 + sumA q0 = M := ⟨_, rfl⟩
   rw [hM] at HS6 HMM HSP
   clear HS5 hM HMZ HQZ
   go_upto_region 10 with fail
   refine wp_inv_chainJ (S := (St w2 [(b6, 27, RC M)])) 5 [isV (.slice (some ⟨gch, 0, none⟩) ncs capc), isV (.agg (RC M)), isV (.agg (RC (-M))), isV (.agg (RC M)), isV (.agg (VC (-M) M))] rfl (by kernel_rfl) (by kernel_rfl) (by kernel_rfl) (by kernel_rfl) (fun _ _ h9 hb9 => h9.next hb9) HS6.out ?plan ?last
   case plan =>
    refine PlanJ.cons (OpJ.mkV fun a wx hs hf hp => ?_) ?_
    ·exact StepI.mov rfl (wants_none rfl) (hf.keep 4 (by kernel_rfl))
    refine PlanJ.cons (OpJ.mkV fun a wx hs hf hp => ?_) ?_
    ·exact StepI.load rfl (wants_none rfl) (hf.keep 6 (by kernel_rfl)) (run_load_whole (hs.blk _ List.mem_cons_self).2 rfl (by kernel_rfl)) rfl
    refine PlanJ.cons (OpJ.mkV fun a wx hs hf hp => ?_) ?_
    ·exact StepI.callV rfl (wants_none rfl) (args1 (hp 1 34 (by kernel_rfl) rfl)) (by kernel_rfl) (neg_q (k := K) HTW.out HMM.out rfl (by have := HK.out; omega) wx hs)
    refine PlanJ.cons (OpJ.mkV fun a wx hs hf hp => ?_) ?_
    ·exact StepI.load rfl (wants_none rfl) (hf.keep 6 (by kernel_rfl)) (run_load_whole (hs.blk _ List.mem_cons_self).2 rfl (by kernel_rfl)) rfl
    refine PlanJ.cons (OpJ.mkV fun a wx hs hf hp => ?_) ?_
    ·have e1 : a.eval (.tmp 35) = .agg (RC (-M)) := (hp 2 35 (by kernel_rfl) rfl)
     have e2 : a.eval (.tmp 36) = .agg (RC M) := (hp 3 36 (by kernel_rfl) rfl)
     exact StepI.val (wants_none rfl) (bld_Span rfl e1 e2 wx) rfl
    exact PlanJ.nil
   case last =>
    intro a wx hs hf hv
    have hput := hf.puts [(33, .slice (some ⟨gch, 0, none⟩) ncs capc), (34, .agg (RC M)), (35, .agg (RC (-M))), (36, .agg (RC M)), (37, .agg (VC (-M) M))] (by kernel_rfl) (List.forall_mem_cons.2 ⟨hv 0 33 (by decide) rfl, (List.forall_mem_cons.2 ⟨hv 1 34 (by decide) rfl, (List.forall_mem_cons.2 ⟨hv 2 35 (by decide) rfl, (List.forall_mem_cons.2 ⟨hv 3 36 (by decide) rfl, (List.forall_mem_cons.2 ⟨hv 4 37 (by decide) rfl, (by intro p hp; cases hp)⟩)⟩)⟩)⟩)⟩)
    have HSX := yh hs.drop
    clear hf hv hs HS6
    subst hput
    simp only [puts, Act.put, List.setIfInBounds_toArray, List.set_cons_zero, List.set_cons_succ]
    refine ⟨wants_none rfl, ?_⟩
    refine w_call (vs := #[.slice (some ⟨gch, 0, none⟩) ncs capc, .slice none 0 0, .agg (VC (-M) M)]) rfl rfl (by kernel_rfl) (split_S HSP.out HTW.out HC.out HNE.out H2.out HK.out [] (.slice none 0 0) wx ⟨[], .inl ⟨rfl, rfl, rfl⟩, HSX.out⟩) fun e w9 h9 => ?_
    obtain ⟨v9, e9, h9⟩ := h9
    refine ⟨v9, e9, ?_⟩
    have HROW := yh h9
    clear e9 h9 HSX
    simp only [Act.put, List.setIfInBounds_toArray, List.set_cons_zero, List.set_cons_succ]
    refine ⟨wants_none rfl, st_asg rfl ?_⟩
    unfold chainW
    simp only [Act.eval, Act.put, List.setIfInBounds_toArray, List.set_cons_zero, List.set_cons_succ]
    obtain ⟨lr, hrl, hst⟩ := HROW.out
    rcases hrl with ⟨rfl, ho, rfl⟩ | ⟨g, cap, J, rfl, rfl, hpos, hoc, hcm, hsz⟩
    ·have HE : Hid (Below w.heap.size w w9 ∧ SAt w9 (.slice none 0 0) l2) := yh (by
      have hl2 : l2 = [] := List.eq_nil_of_length_eq_zero (by rw [HL2.out, ho]; rfl)
      exact ⟨HBW.out.trans (hst.below.mono HBW.out.size), none, 0, by rw [hl2]; rfl, .inl hl2⟩)
     clear hst ho HROW
     go_wp2_with fail
     go_loopg [10] 1 (fun kx s10 wr => s10 = .int .i64 1 ∧ wr = w9)
     case atStart => exact ⟨rfl, rfl⟩
     case round =>
      obtain ⟨rfl, rfl⟩ := hrel
      go_wp2_with fail
      go_ret2
      exact ⟨_, rfl, HE.out⟩
    ·obtain ⟨no, hno⟩ : ∃ no, out.length = no := ⟨_, rfl⟩
     rw [hno] at hpos hoc ⊢
     have hno1 : no ≤ 1000 := by rw [← hno]; exact HOL.out
     have HNO := yh hno
     have HSQ := yh hst
     have HSZ := yh hsz
     clear hst hsz hno HROW
     go_wp2_with fail
     go_loopg [10] no (fun kx s10 wr => ∃ (i : Nat) (l : List Spn), kx = no - i ∧ s10 = .int .i64 ((i : Int) + 1) ∧ i + 1 ≤ no ∧ Hid (l.length = no) ∧ Hid (FxR K cs (i + 1) l l2) ∧ Hid (St w2 [(g, 32, PX J l)] wr))
     case atStart => exact ⟨0, out, rfl, rfl, hpos, HNO, HFX, HSQ⟩
     case round =>
      clear HSQ HFX
      obtain ⟨i, l, hgk3, rfl, hile3, HLN, HFX, HS9⟩ := hrel
      have HGK3 := yh hgk3; clear hgk3
      by_cases hin3 : i + 1 < no
      ·have hltI : (i : Int) + 1 < (no : Int) := by omega
       obtain ⟨n1, a1, b1, a2, b2, hp, hr, hla, hlb⟩ : ∃ (n1 : Nat) (a1 b1 a2 b2 : Spn), PtR K cs n1 a1 b1 a2 b2 ∧ FxR K cs (i + 2) ((l.set i a2).set (i + 1) b2) l2 ∧ l[i]? = some a1 ∧ l[i + 1]? = some b1 := by
        have hcase := HFX.out
        cases hcase with
        | stop h => have := HLN.out; omega
        | step h ha hb hp hr => exact ⟨_, _, _, _, _, hp, hr, ha, hb⟩
       have HFR := yh hr
       have HPT := yh hp
       have HI1 := yh (show i + 1 < l.length by rw [HLN.out]; exact hin3)
       have HSA : Hid (St w2 [(g, 32, PX J ((l.set i a1).set (i + 1) b1))] wr) := yh (by
        have e1 : l.set i a1 = l := by
         apply List.ext_getElem?
         intro j
         rw [List.getElem?_set]
         by_cases h1 : i = j
         ·subst h1; rw [if_pos rfl, if_pos (by have := HI1.out; omega), hla]
         ·rw [if_neg h1]
        have e2 : l.set (i + 1) b1 = l := by
         apply List.ext_getElem?
         intro j
         rw [List.getElem?_set]
         by_cases h1 : i + 1 = j
         ·subst h1; rw [if_pos rfl, if_pos HI1.out, hlb]
         ·rw [if_neg h1]
        rw [e1, e2]; exact HS9.out)
       have hw0 : IntKind.i64.wrap ((i : Int) + 1 - 1) = (i : Int) := by rw [show (i : Int) + 1 - 1 = (i : Int) by omega]; exact IntWalk.i64_in _ (by omega)
       have hwi3 : IntKind.i64.wrap ((i : Int) + 1 + 1) = (i : Int) + 1 + 1 := IntWalk.i64_in _ (by omega)
       have hi0n : i < no := by omega
       have HW0 := yh hw0
       have HWI3 := yh hwi3
       clear hp hr hla hlb HFX HS9
       go_wp2_with fail
       go_loopg [57] n1 (fun kx s57 wq => ∃ (a b : Spn), Hid (PtR K cs kx a b a2 b2) ∧ Hid (St w2 [(g, 32, PX J ((l.set i a).set (i + 1) b))] wq))
       case atStart => exact ⟨a1, b1, HPT, HSA⟩
       case round =>
        clear HPT HSA
        obtain ⟨a, b, HPT, HSA⟩ := hrel
        have HSE := yh (set2_px (a := a) (b := b) HI1.out)
        obtain ⟨lx, hlx⟩ : ∃ lx, (l.set i a).set (i + 1) b = lx := ⟨_, rfl⟩
        have HLX := yh hlx
        rw [hlx] at HSE HSA
        clear hlx
        have HX0 := yh (show i < lx.length by rw [HSE.out.1, HLN.out]; exact hi0n)
        have HX1 := yh (show i + 1 < lx.length by rw [HSE.out.1, HLN.out]; exact hin3)
        have HXA : Hid ((PX J lx).extract (6 * i + 3) (6 * i + 3 + 3) = RC a.2) := yh (by rw [PX_hi HX0.out, HSE.out.2.2.1])
        have HXB : Hid ((PX J lx).extract (6 * (i + 1)) (6 * (i + 1) + 3) = RC b.1) := yh (by rw [PX_lo HX1.out, HSE.out.2.2.2.1])
        have HR0 : Hid (6 * i + 3 + 3 ≤ (PX J lx).size) := yh (PX_room HX0.out)
        have HR1 : Hid (6 * (i + 1) + 3 ≤ (PX J lx).size) := yh (Nat.le_trans (by omega) (PX_room HX1.out))
        have hw0 : IntKind.i64.wrap ((i : Int) + 1 - 1) = (i : Int) := HW0.out
        have hcase := HPT.out
        clear HPT
        cases hcase with
        | stop h1 h2 h =>
          have HZA := yh h1
          have HZB := yh h2
          have HV : Hid (cmpQ a2.2 b2.1 = -1) := yh (by unfold cmpQ; rw [if_pos h])
          clear h1 h2 h
          go_upto_region 14 with fail
          refine wS [] Reg.fin_no (StR.no HSA.out) ?_
          iterate 2 refine pU ?_
          refine pV (.int .i64 (i : Int)) (by intro w; go_simp <;> (first | (rw [hw0]; done) | exact hw0 | omega | exact IntWalk.i64_in _ (by omega) | (go_num; done) | (simp [hw0]; done))) ?_
          refine iX 6 i hi0n ?_
          refine pV (.pointer (some ⟨g, 6 * i + 3, none⟩)) (by intro w; go_simp; try rfl) ?_
          refine Seq.loadAt rfl rfl rfl rfl (by repeat first|exact mC|apply mT) (n := 3) (cs' := RC a2.2) HR0.out (by kernel_rfl) HXA.out (nZ ?_)
          iterate 2 refine pU ?_
          refine Seq.index (m := 6) (i + 1) rfl rfl rfl rfl rfl (by kernel_rfl) (by omega) hin3 (nZ ?_)
          refine pV (.pointer (some ⟨g, 6 * (i + 1), none⟩)) (by intro w; go_simp; try rfl) ?_
          refine Seq.loadAt rfl rfl rfl rfl (by repeat first|exact mC|apply mT) (n := 3) (cs' := RC b2.1) HR1.out (by kernel_rfl) HXB.out (nZ ?_)
          refine cX rfl rfl (cmp_q (k := K) HTW.out HZA.out HZB.out HV.out (by have := HK.out; omega)) ?_
          refine pU ?_
          refine dnH fun wq2 HSB=>?_
          clear HSA hw0
          have HFR2 : Hid (FxR K cs (i + 1 + 1) lx l2) := yh (by rw [← HLX.out]; exact HFR.out)
          have HLN2 : Hid (lx.length = no) := yh (by rw [HSE.out.1]; exact HLN.out)
          have hwi3 : IntKind.i64.wrap ((i : Int) + 1 + 1) = (i : Int) + 1 + 1 := HWI3.out
          go_wp2_with fail
          go_roundg (no - (i + 1))
          case measure => rw [HGK3.out]; omega
          case rel => exact ⟨i + 1, lx, rfl, by go_num, by omega, HLN2, HFR2, HSB⟩
        | @step n2 a b _ _ h1 h2 h ha hb hr =>
          have HZA := yh h1
          have HZB := yh h2
          obtain ⟨v, hv⟩ : ∃ v, cmpQ a.2 b.1 = v := ⟨_, rfl⟩
          have HV := yh hv
          have hv0 : (0 : Int) ≤ v := by rw [← hv]; unfold cmpQ; split; · exfalso; grind
                                         split <;> omega
          have hvd : decide (v ≥ 0) = true := decide_eq_true hv0
          have hvd2 : decide (0 ≤ v) = true := decide_eq_true hv0
          have HHA := yh ha
          have HHB := yh hb
          obtain ⟨za, hza⟩ : ∃ za, halveL cs a = za := ⟨_, rfl⟩
          obtain ⟨zb, hzb⟩ : ∃ zb, halveL cs b = zb := ⟨_, rfl⟩
          have HRR : Hid (PtR K cs n2 za zb a2 b2) := yh (by rw [← hza, ← hzb]; exact hr)
          have HHZA : Hid (halveL cs (a.1, a.2) = (za.1, za.2)) := yh hza
          have HHZB : Hid (halveL cs (b.1, b.2) = (zb.1, zb.2)) := yh hzb
          have HXAA : Hid ((PX J lx).extract (6 * i) (6 * i + 6) = VC a.1 a.2) := yh (by rw [PX_at HX0.out, HSE.out.2.1, HSE.out.2.2.1])
          have HXBB : Hid ((PX J lx).extract (6 * (i + 1)) (6 * (i + 1) + 6) = VC b.1 b.2) := yh (by rw [PX_at HX1.out, HSE.out.2.2.2.1, HSE.out.2.2.2.2])
          have HX2 := yh (show i + 1 < (lx.set i (za.1, za.2)).length by rw [List.length_set]; exact HX1.out)
          clear h1 h2 h ha hb hr hza hzb hv
          go_upto_region 14 with fail
          refine wS [] Reg.fin_no (StR.no HSA.out) ?_
          iterate 2 refine pU ?_
          refine pV (.int .i64 (i : Int)) (by intro w; go_simp <;> (first | (rw [hw0]; done) | exact hw0 | omega | exact IntWalk.i64_in _ (by omega) | (go_num; done) | (simp [hw0]; done))) ?_
          refine iX 6 i hi0n ?_
          refine pV (.pointer (some ⟨g, 6 * i + 3, none⟩)) (by intro w; go_simp; try rfl) ?_
          refine Seq.loadAt rfl rfl rfl rfl (by repeat first|exact mC|apply mT) (n := 3) (cs' := RC a.2) HR0.out (by kernel_rfl) HXA.out (nZ ?_)
          iterate 2 refine pU ?_
          refine Seq.index (m := 6) (i + 1) rfl rfl rfl rfl rfl (by kernel_rfl) (by omega) hin3 (nZ ?_)
          refine pV (.pointer (some ⟨g, 6 * (i + 1), none⟩)) (by intro w; go_simp; try rfl) ?_
          refine Seq.loadAt rfl rfl rfl rfl (by repeat first|exact mC|apply mT) (n := 3) (cs' := RC b.1) HR1.out (by kernel_rfl) HXB.out (nZ ?_)
          refine cX rfl rfl (cmp_q (k := K) HTW.out HZA.out HZB.out HV.out (by have := HK.out; omega)) ?_
          refine pV (.bool true) (by intro w; go_simp <;> (first | (rw [hvd]; done) | exact hvd | omega | exact IntWalk.i64_in _ (by omega) | (go_num; done) | (simp [hvd]; done))) ?_
          refine Seq.done fun wq2 hws => ?_
          have HSB := yh (StR.move (StR.no hws.st))
          clear hws HSA
          go_upto_region 15 with fail
          refine wS [20, 32] (Reg.fin.put Reg.fin_no _ _) HSB.out ?_
          iterate 2 refine pU ?_
          refine pV (.int .i64 (i : Int)) (by intro w; go_simp <;> (first | (rw [hw0]; done) | exact hw0 | omega | exact IntWalk.i64_in _ (by omega) | (go_num; done) | (simp [hw0]; done))) ?_
          iterate 5 refine pU ?_
          refine pV (.int .i64 (i : Int)) (by intro w; go_simp <;> (first | (rw [hw0]; done) | exact hw0 | omega | exact IntWalk.i64_in _ (by omega) | (go_num; done) | (simp [hw0]; done))) ?_
          refine iX 6 i hi0n ?_
          refine Seq.getAt rfl rfl rfl rfl (by repeat first|exact rS|refine rN ‹_› ?_) (n := 6) (cs' := VC a.1 a.2) (PX_room HX0.out) (by kernel_rfl) HXAA.out (nZ ?_)
          refine cL (halve_q (K := K) HTW.out HC.out HNE.out H2.out HHA.out HHZA.out HK.out) ?_
          iterate 3 refine pU ?_
          refine Seq.index (m := 6) (i + 1) rfl rfl rfl rfl rfl (by kernel_rfl) (by omega) hin3 (nZ ?_)
          refine Seq.getAt rfl rfl rfl rfl (by repeat first|exact rS|refine rN ‹_› ?_) (n := 6) (cs' := VC b.1 b.2) (PX_room HX1.out) (by kernel_rfl) HXBB.out (nZ ?_)
          refine cL (halve_q (K := K) HTW.out HC.out HNE.out H2.out HHB.out HHZB.out HK.out) ?_
          refine iX 6 i hi0n ?_
          refine Seq.storeAt (v := .agg (VC za.1 za.2)) rfl rfl rfl rfl rfl (by repeat first|exact rS|refine rN ‹_› ?_) (PX_room HX0.out) (by show _ = some 6; kernel_rfl) (VC_one _ _) (cs' := PX J (lx.set i (za.1, za.2))) (PX_put HX0.out) (nZ ?_)
          refine Seq.index (m := 6) (i + 1) rfl rfl rfl rfl rfl (by kernel_rfl) (by omega) hin3 (nZ ?_)
          refine Seq.storeAt (v := .agg (VC zb.1 zb.2)) rfl rfl rfl rfl rfl (by repeat first|exact rS|refine rN ‹_› ?_) (PX_room HX2.out) (by show _ = some 6; kernel_rfl) (VC_one _ _) (cs' := PX J ((lx.set i (za.1, za.2)).set (i + 1) (zb.1, zb.2))) (PX_put HX2.out) (nZ ?_)
          refine Seq.done fun wq3 hws => ?_
          have HSC : Hid (St w2 [(g, 32, PX J ((l.set i za).set (i + 1) zb))] wq3) := yh (by
           rw [← set2_set2 (a := a) (b := b), HLX.out]
           exact hws.q1)
          clear hws HSB hvd hvd2 hw0
          go_wp2_with fail
          go_roundg n2
          case measure => exact Nat.lt_succ_self _
          case rel => exact ⟨za, zb, HRR, HSC⟩
      ·have hge : ¬ (i : Int) + 1 < (no : Int) := by omega
       have HE : Hid (Below w.heap.size w wr ∧ SAt wr (.slice (some ⟨g, 0, none⟩) no cap) l2) := yh (by
        have hcase := HFX.out
        cases hcase with
        | stop h => exact ⟨HBW.out.trans (HS9.out.below.mono HBW.out.size), _, cap, by rw [HLN.out], .inr ⟨g, J, rfl, (HS9.out.blk _ List.mem_cons_self).2⟩⟩
        | step h ha hb hp hr => have := HLN.out; omega)
       clear HS9
       go_wp2_with fail
       go_ret2
       exact ⟨_, rfl, HE.out⟩
def rzB (q : Rat) : Bool := decide (q.num.natAbs < 4294967296) && decide (q.den < 4294967296)
theorem rzB_ok {q : Rat} (h : rzB q = true) : Rz 4 q := by
 unfold rzB at h
 rw [Bool.and_eq_true] at h
 exact ⟨bstr_length_le.2 (by have := of_decide_eq_true h.1; omega), bstr_length_le.2 (by have := of_decide_eq_true h.2; omega)⟩
theorem qzB_ok {p : Nums} (h : p.all rzB = true) : Qz 4 p := fun c hc => rzB_ok (List.all_eq_true.1 h c hc)
def evzB : Nums → Rat → Bool
 | [], _ => true
 | c :: p, x => evzB p x && rzB (ev p x) && rzB (ev p x * x) && rzB c
theorem evzB_ok : ∀ {p : Nums} {x : Rat}, evzB p x = true → EvZ 4 p x
 | [], x, _ => trivial
 | c :: p, x, h => by
   unfold evzB at h
   simp only [Bool.and_eq_true] at h
   exact ⟨evzB_ok h.1.1.1, rzB_ok h.1.1.2, rzB_ok h.1.2, rzB_ok h.2⟩
def chzB (cs : List Nums) (x : Rat) : Bool := rzB x && decide (cs.length ≤ 1000) && cs.all fun p => decide (p.length ≤ 1000) && evzB p x && rzB (ev p x)
theorem chzB_ok {cs : List Nums} {x : Rat} (h : chzB cs x = true) : ChZ 4 cs x := by
 unfold chzB at h
 simp only [Bool.and_eq_true] at h
 refine ⟨rzB_ok h.1.1, of_decide_eq_true h.1.2, fun p hp => ?_⟩
 have h2 := List.all_eq_true.1 h.2 p hp
 simp only [Bool.and_eq_true] at h2
 exact ⟨of_decide_eq_true h2.1.1, evzB_ok h2.1.2, rzB_ok h2.2⟩
def divB (q : Nums) : Nat → Nums → Nums → Option (Nums × Nums)
 | 0, _, _ => none
 | n + 1, by_, rest =>
   if rest.all rzB then
    if decide (rest.length < q.length) = true then some (by_, rest)
    else if rzB (leadB rest q) && (q.all fun c => rzB (leadB rest q * c)) && (subL (leadB rest q) (rest.length - q.length) rest q).all rzB then
     divB q n (by_.set (rest.length - q.length) (leadB rest q)) (trimL (subL (leadB rest q) (rest.length - q.length) rest q))
    else none
   else none
theorem divB_ok {q : Nums} : ∀ {n : Nat} {by_ rest by2 rest2 : Nums}, divB q n by_ rest = some (by2, rest2) → ∃ k, DvR 4 q k by_ rest by2 rest2
 | 0, _, _, _, _, h => by cases h
 | n + 1, by_, rest, by2, rest2, h => by
   unfold divB at h
   split at h
   ·rename_i h1
    split at h
    ·rename_i h2
     injection h with h
     injection h with h3 h4
     subst h3 h4
     exact ⟨0, .stop (qzB_ok h1) (of_decide_eq_true h2)⟩
    ·rename_i h2
     split at h
     ·rename_i h3
      simp only [Bool.and_eq_true] at h3
      obtain ⟨k, hk⟩ := divB_ok h
      refine ⟨k + 1, .step (qzB_ok h1) ?_ rfl (rzB_ok h3.1.1) (fun c hc => rzB_ok (List.all_eq_true.1 h3.1.2 c hc)) (qzB_ok h3.2) hk⟩
      rcases Nat.lt_or_ge rest.length q.length with h4 | h4
      ·exact absurd (decide_eq_true h4) h2
      ·exact h4
     ·cases h
   ·cases h
theorem divR_of {p q by2 rest2 : Nums} (h1 : p.all rzB = true) (h2 : q.all rzB = true) (h3 : q ≠ []) (h4 : q.getLast?.getD 0 ≠ 0) (h : divB q 20 (zerosL ((trimL p).length + 1 - q.length)) (trimL p) = some (by2, rest2)) : DivR 4 p q by2 rest2 :=
 ⟨qzB_ok h1, qzB_ok h2, h3, h4, divB_ok h⟩
def cs0 : List Nums := [[1, 0, -1], [0, -1], [-1]]
theorem dq1 : DivR 4 [-1, 0, 1] [0, 2] [0, 1 / 2] [-1] := divR_of rfl rfl (List.cons_ne_nil _ _) (by decide) (by decide +kernel)
theorem dq2 : DivR 4 [0, 1] [-1] [0, -1] [] := divR_of rfl rfl (List.cons_ne_nil _ _) (by decide) (by decide +kernel)
theorem dq3 : DivR 4 [-1, 0, 1] [-1] [1, 0, -1] [] := divR_of rfl rfl (List.cons_ne_nil _ _) (by decide) (by decide +kernel)
theorem dq4 : DivR 4 [1, 0, -1] [0, -1] [0, 1] [1] := divR_of rfl rfl (List.cons_ne_nil _ _) (by decide) (by decide +kernel)
theorem dq5 : DivR 4 [0, -1] [-1] [0, 1] [] := divR_of rfl rfl (List.cons_ne_nil _ _) (by decide) (by decide +kernel)
theorem stder1 : deriveL [-1, 0, 1] = [0, 2] := by decide +kernel
theorem stder2 : deriveL [1, 0, -1] = [0, -2] := by decide +kernel
theorem stsc1 : scaledL [0, 2] = [0, 1] := by decide +kernel
theorem stsc2 : scaledL [-1] = [-1] := by decide +kernel
theorem stsc3 : scaledL [0, -2] = [0, -1] := by decide +kernel
theorem stsc4 : scaledL (trimL [1, 0, -1]) = [1, 0, -1] := by decide +kernel
theorem stng1 : negL [1] = [-1] := by decide +kernel
theorem stng2 : negL [] = [] := rfl
theorem sttr1 : trimL [-1, 0, 1] = [-1, 0, 1] := by decide +kernel
theorem stpl1 : PlR 4 [-1, 0, 1] [1, 0, -1] := by
 refine ⟨⟨by omega, qzB_ok rfl, by decide, qzB_ok (by decide +kernel)⟩, 2, [-1], [1, 0, -1], [], ?_, dq3, qzB_ok rfl, stsc4.symm⟩
 rw [stder1]
 refine .step (List.cons_ne_nil _ _) dq1 ?_
 rw [stsc1]
 refine .step (List.cons_ne_nil _ _) dq2 ?_
 rw [stsc2]
 exact .stop
theorem stch1 : ChR 4 2 [1, 0, -1] (deriveL [1, 0, -1]) [[0, -1], [-1]] := by
 rw [stder2]
 have h := ChR.step (K := 4) (n := 1) (prev := [1, 0, -1]) (q := [0, -2]) (by_ := [0, 1]) (rest := [1]) (cs := [[-1]]) (List.cons_ne_nil _ _) (qzB_ok rfl) (by decide) (by rw [stsc3]; exact dq4) (qzB_ok rfl) (by
  rw [stsc3, stng1]
  have h := ChR.step (K := 4) (n := 0) (prev := [0, -1]) (q := [-1]) (by_ := [0, 1]) (rest := []) (cs := []) (List.cons_ne_nil _ _) (qzB_ok rfl) (by decide) (by rw [stsc2]; exact dq5) (qzB_ok rfl) (by rw [stng2]; exact .stop)
  rw [stsc2] at h
  exact h)
 rw [stsc3] at h
 exact h
theorem mdB {s : Spn} (h : (rzB s.1 && rzB s.2 && rzB (s.1 + s.2) && rzB (midQ s)) = true) : MidZ 4 s := by
 simp only [Bool.and_eq_true] at h
 exact ⟨rzB_ok h.1.1.1, rzB_ok h.1.1.2, rzB_ok h.1.2, rzB_ok h.2⟩
theorem hvB {s : Spn} (h : ((rzB s.1 && rzB s.2 && rzB (s.1 + s.2) && rzB (midQ s)) && chzB cs0 s.1 && chzB cs0 (midQ s)) = true) : HvZ 4 cs0 s := by
 simp only [Bool.and_eq_true] at h
 exact ⟨mdB (by simp only [Bool.and_eq_true]; exact h.1.1), chzB_ok h.1.2, chzB_ok h.2⟩
theorem stsp1 : SpR 4 cs0 [] (-3, 3) [(-3, 0), (0, 3)] := by
 have hm : midQ (-3, 3) = 0 := by decide +kernel
 refine SpR.two (o1 := [(-3, 0)]) (chzB_ok (by decide +kernel)) (chzB_ok (by decide +kernel)) (by decide +kernel) (by decide +kernel) (mdB (by decide +kernel)) (by rw [hm]; exact chzB_ok (by decide +kernel)) (by decide +kernel) ?_ ?_
 ·rw [hm]
  exact SpR.one (out := []) (s := (-3, 0)) (chzB_ok (by decide +kernel)) (chzB_ok (by decide +kernel)) (by decide +kernel) (by decide)
 ·rw [hm]
  exact SpR.one (out := [(-3, 0)]) (s := (0, 3)) (chzB_ok (by decide +kernel)) (chzB_ok (by decide +kernel)) (by decide +kernel) (by decide)
theorem hvq1 : halveL cs0 (-3, 0) = (-3 / 2, 0) := by decide +kernel
theorem hvq2 : halveL cs0 (0, 3) = (0, 3 / 2) := by decide +kernel
theorem hvq3 : halveL cs0 (-3 / 2, 0) = (-3 / 2, -3 / 4) := by decide +kernel
theorem hvq4 : halveL cs0 (0, 3 / 2) = (3 / 4, 3 / 2) := by decide +kernel
theorem stpt1 : PtR 4 cs0 2 (-3, 0) (0, 3) (-3 / 2, -3 / 4) (3 / 4, 3 / 2) := by
 refine .step (rzB_ok (by decide +kernel)) (rzB_ok (by decide +kernel)) (by decide +kernel) (hvB (by decide +kernel)) (hvB (by decide +kernel)) ?_
 rw [hvq1, hvq2]
 refine .step (rzB_ok (by decide +kernel)) (rzB_ok (by decide +kernel)) (by decide +kernel) (hvB (by decide +kernel)) (hvB (by decide +kernel)) ?_
 rw [hvq3, hvq4]
 exact .stop (rzB_ok (by decide +kernel)) (rzB_ok (by decide +kernel)) (by decide +kernel)
theorem stmost1 : 1 + sumA ([1, 0, -1] : Nums) = 3 := by decide +kernel
theorem roots_one : RtR 4 [-1, 0, 1] cs0 [(-3 / 2, -3 / 4), (3 / 4, 3 / 2)] := by
 refine ⟨by omega, ⟨qzB_ok rfl, by decide, by rw [sttr1]; exact List.cons_ne_nil _ _, by rw [sttr1]; decide, [1, 0, -1], 2, [[0, -1], [-1]], by rw [sttr1]; exact stpl1, ⟨by omega, qzB_ok rfl, by decide, qzB_ok (by decide +kernel)⟩, stch1, by omega, rfl⟩, qzB_ok (show ([1, 0, -1] : Nums).all rzB = true from rfl), fun i => ?_, [(-3, 0), (0, 3)], ?_, ?_, by decide⟩
 ·show Rz 4 (1 + sumA (([1, 0, -1] : Nums).take i))
  match i with
  | 0 => exact rzB_ok (by decide +kernel)
  | 1 => exact rzB_ok (by decide +kernel)
  | 2 => exact rzB_ok (by decide +kernel)
  | i + 3 => exact rzB_ok (by rw [List.take_of_length_le (by show 3 ≤ i + 3; omega)]; decide +kernel)
 ·show SpR 4 cs0 [] (-(1 + sumA ([1, 0, -1] : Nums)), 1 + sumA ([1, 0, -1] : Nums)) _
  rw [stmost1]
  exact stsp1
 ·exact FxR.step (i := 0) (n := 2) (a := (-3, 0)) (b := (0, 3)) (a2 := (-3 / 2, -3 / 4)) (b2 := (3 / 4, 3 / 2)) (by decide) rfl rfl stpt1 (.stop (by decide))
theorem slcQ_3 {o : Oper} {a : Act} {X0 X1 X2 : Operand} {x0 x1 x2 : Rat} (ho : o.op = .buildSlice 55 3 #[(0, X0), (1, X1), (2, X2)]) (h0 : a.eval X0 = .agg (RC x0)) (h1 : a.eval X1 = .agg (RC x1)) (h2 : a.eval X2 = .agg (RC x2)) (w : World) :
  (execOp a.eval o).run Tryz.prog w = .ok (.value (.slice (some ⟨w.heap.size, 0, none⟩) 3 3)) (w.alloc (.cells (RX [] [x0, x1, x2]) 27)) := by
 have e : RX [] [x0, x1, x2] = #[.bool (decide (x0.num < 0)), .string (S x0.num.natAbs), .string (S x0.den), .bool (decide (x1.num < 0)), .string (S x1.num.natAbs), .string (S x1.den), .bool (decide (x2.num < 0)), .string (S x2.num.natAbs), .string (S x2.den)] := rfl
 rw [e]
 unfold RC at h0 h1 h2
 unfold execOp
 simp only [ho, List.map_toArray, List.map_cons, List.map_nil, h0, h1, h2]
 go_simp
theorem sturmBegun_q {W : World} {l : List Own} (hT : Tab W) (w : World) (h : St W l w) : Rt 10 #[] w (.bool true) := by
 have HT := yh (tabS hT h); clear hT h
 have HS0 : Hid (St w [] w) := yh St.start
 go_enter Tryz.func10, Tryz.ntmps10
 go_upto_region 1 with fail
 refine wp_seq_textC 4 [] rfl rfl rfl (StR.no HS0.out) ?_
 refine cX rfl rfl (num_q (m := -1) (n := 1) (z0 := -1) HT.out (by decide) (by decide) (by decide) (by decide +kernel)) ?_
 refine cX rfl rfl (num_q (m := 0) (n := 1) (z0 := 0) HT.out (by decide) (by decide) (by decide) (by decide +kernel)) ?_
 refine cX rfl rfl (num_q (m := 1) (n := 1) (z0 := 1) HT.out (by decide) (by decide) (by decide) (by decide +kernel)) ?_
 refine Seq.slice (n := 3) (e := 27) (cs := RX [] [-1, 0, 1]) rfl rfl (fun w => slcQ_3 rfl rfl rfl rfl w) ?_
 intro gl _ _ hgl
 refine nZ ?_
 refine Seq.done fun w1 hws => ?_
 have HBR : Hid (RAt w1 (some ⟨gl, 0, none⟩) [-1, 0, 1]) := yh (.inr ⟨gl, [], rfl, ((hws.q1 (p := gl)).blk _ List.mem_cons_self).2⟩)
 have HST1 := yh hws.st
 clear hws HS0
 refine ⟨wants_none rfl, ?_⟩
 refine w_call (vs := #[.slice (some ⟨gl, 0, none⟩) 3 3]) rfl rfl (by kernel_rfl) (roots_S (c := 3) w1 HBR.out rfl roots_one (tabS HT.out HST1.out) (by omega)) fun e w2 h9 => ?_
 obtain ⟨v9, e9, hb9, A9, c9, hv9, -⟩ := h9
 refine ⟨_, e9, ?_⟩
 have HS2 : Hid (St w [] w2) := yh (St.begin (HST1.out.below.trans (hb9.mono HST1.out.below.size)))
 have hv9' : v9 = .slice A9 2 c9 := hv9
 subst hv9'
 clear e9 hb9 hv9 HST1
 simp only [Act.put, List.setIfInBounds_toArray, List.set_cons_zero, List.set_cons_succ]
 refine ⟨wants_none rfl, w_mov rfl ?_⟩
 simp only [Act.eval, Act.put, List.setIfInBounds_toArray, List.set_cons_zero, List.set_cons_succ]
 refine ⟨wants_none rfl, w_ext (vs := #[.slice A9 2 c9, .int .i64 0]) rfl rfl rfl ?_⟩
 simp only [Act.eval, Act.put, List.setIfInBounds_toArray, List.set_cons_zero, List.set_cons_succ]
 refine ⟨wants_none rfl, w_ext (vs := #[.slice A9 2 c9, .int .i64 0]) rfl rfl rfl ?_⟩
 simp only [Act.eval, Act.put, List.setIfInBounds_toArray, List.set_cons_zero, List.set_cons_succ]
 refine ⟨wants_none rfl, st_asg rfl ?_⟩
 simp only [Act.eval, Act.put, List.setIfInBounds_toArray, List.set_cons_zero, List.set_cons_succ]
 refine ⟨wants_none rfl, st_asg rfl ?_⟩
 unfold chainW
 simp only [Act.eval, Act.put, List.setIfInBounds_toArray, List.set_cons_zero, List.set_cons_succ]
 go_upto_region 2 with fail
 refine wp_seq_text [] (StR.no HS2.out) ?_
 refine cL (sbegun_q HT.out) ?_
 iterate 10 refine pU ?_
 refine dnH fun _ HS3=>?_
 clear HS2
 go_wp2_with fail
 go_ret
 exact ⟨rfl, HS3.out.below⟩
end Go.Proofs.YtmchjmflkaiakaaGreatDoor
