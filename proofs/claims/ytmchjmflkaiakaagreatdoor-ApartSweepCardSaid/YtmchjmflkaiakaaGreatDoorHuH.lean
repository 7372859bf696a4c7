/- poly.Hull (printed by hullg.py). -/
import Derived.Test.YtmchjmflkaiakaaGreatDoorHuD
import Derived.Test.YtmchjmflkaiakaaGreatDoorHuF
import Derived.Test.YtmchjmflkaiakaaGreatDoorPo6
import Derived.Test.YtmchjmflkaiakaaGreatDoorRwC
import Derived.Deep.LoopGhost
import Derived.OwnWalk
set_option maxHeartbeats 8000000
set_option maxRecDepth 20000
namespace Go.Proofs.YtmchjmflkaiakaaGreatDoor
open Go.RowKit
set_option linter.unusedVariables false
set_option linter.unusedSimpArgs false
variable {W : World} {l : List Own}
theorem rawZ : RawT 2 0 false ⟨false, ⟨#[]⟩, ⟨#[]⟩⟩ := ⟨.inr ⟨rfl, rfl, .inl rfl⟩, Rz.zero2, Nat.zero_le _, Nat.zero_le _⟩
theorem addz_q {k : Nat} {x : Rat} (hT : Tab W) (h1 : Rz k x) (hk0 : 2 ≤ k) (hk : k ≤ 1000000000000) (w : World) (h : St W l w) : Rt 49 #[.agg (RC x), .agg #[.bool false, .string ⟨#[]⟩, .string ⟨#[]⟩]] w (.agg (RC x)) := add_w (t1 := rt x) (t2 := ⟨false, ⟨#[]⟩, ⟨#[]⟩⟩) hT (RawT.rc h1) (rawZ.more hk0) (Rat.add_zero x) (by omega) w h
theorem vaddz_q {k : Nat} {a1 a2 : Rat} (hT : Tab W) (Za1 : Rz k a1) (Za2 : Rz k a2) (hk0 : 2 ≤ k) (hk : k ≤ 1000000000000) (w : World) (h : St W l w) : Rt 24 #[.agg (VC a1 a2), .agg (#[.bool false, .string ⟨#[]⟩, .string ⟨#[]⟩, .bool false, .string ⟨#[]⟩, .string ⟨#[]⟩])] w (.agg (VC a1 a2)) := by
 have HT := yh (tabS hT h); clear hT h
 have Z_a1 := yh Za1; clear Za1
 have Z_a2 := yh Za2; clear Za2
 go_enter Tryz.func24, Tryz.ntmps24
 have HS : St w [] w := St.start
 go_upto_region 0 with fail
 refine rgT [] HS ?_
 refine bX (VC a1 a2) ?_
 intro bk2 _ _ y2
 refine nZ ?_
 refine bX (#[.bool false, .string ⟨#[]⟩, .string ⟨#[]⟩, .bool false, .string ⟨#[]⟩, .string ⟨#[]⟩]) ?_
 intro bk3 _ _ y3
 obtain ⟨_, _, y3⟩ := Reg.ne2 y3
 refine nZ ?_
 refine aL6 ?_
 intro bk4 _ _ y4
 obtain ⟨_, _, y4⟩ := Reg.ne2 y4
 obtain ⟨_, _, y4⟩ := Reg.ne2 y4
 refine nZ ?_
 refine dn3 bk2 bk3 bk4 fun _ HS1=>?_
 clear HS
 go_upto_region 1 with fail
 have HPbk4 := HS1.p2
 refine wS [] (Reg.fin.put Reg.fin_no _ _) (StR.move (StR.no HPbk4)) ?_
 refine pU ?_
 refine lA (RC a1) ?_
 refine pU ?_
 refine lA (#[.bool false, .string ⟨#[]⟩, .string ⟨#[]⟩]) ?_
 refine cL (addz_q (k := k) HT.out Z_a1.out hk0 hk) ?_
 refine pU ?_
 refine lA (RC a2) ?_
 refine pU ?_
 refine lA (#[.bool false, .string ⟨#[]⟩, .string ⟨#[]⟩]) ?_
 refine cL (addz_q (k := k) HT.out Z_a2.out hk0 hk) ?_
 refine pV (.agg (VC a1 a2)) (fun w => bld_Vec rfl rfl rfl w) ?_
 refine sV (VC_one _ _) ?_
 refine dn1 bk4 fun _ HS2=>?_
 clear HS1 HPbk4
 go_wp2_with fail
 exact rO HS2 ⟨rfl, HS2.below⟩
theorem CH.ofSt {w0 w : World} {g cp : Nat} {J : List Value} {ps : Pts} {l : List Own} (h : St w0 ((g, 29, PX J ps) :: l) w) (hc : (PX J ps).size = cp * 6) (hm : cp ≤ maxLen) : CH w0 (.slice none 0 0) [] g cp J ps w := by
 have hb := h.blk _ List.mem_cons_self
 refine ⟨h.below, fun r hr => ?_, ?_⟩
 ·rcases List.mem_cons.1 hr with rfl | hr
  ·exact ⟨by simp [fl], .inl ⟨rfl, rfl⟩⟩
  ·rw [List.mem_singleton] at hr
   subst hr
   refine ⟨by dsimp only; rw [Array.length_toList, hc], .inr ⟨g, cp, PX J ps, rfl, hb.1, hb.2, Nat.le_refl _, hm, hc, ?_⟩⟩
   dsimp only
   rw [List.take_of_length_le (by rw [Array.length_toList, hc]; exact Nat.le_refl _)]
 ·exact List.pairwise_cons.2 ⟨fun _ _ => .inl rfl, List.pairwise_cons.2 ⟨fun _ hq => (by cases hq), List.Pairwise.nil⟩⟩
theorem CH.st {w0 w : World} {v : Value} {os : Pts} {gp cp : Nat} {J : List Value} {ps : Pts} (h : CH w0 v os gp cp J ps w) : ∃ l, St w0 ((gp, 29, PX J ps) :: l) w ∧ ∀ ps' w', ps'.length = ps.length → St w0 ((gp, 29, PX J ps') :: l) w' → CH w0 v os gp cp J ps' w' := by
 obtain ⟨h1, h2⟩ := h.own _ List.mem_cons_self
 obtain ⟨p1, p2⟩ := h.own _ (List.mem_cons_of_mem _ List.mem_cons_self)
 rcases p2 with ⟨hv, _⟩ | ⟨g2, cp2, cur2, hv2, hg2, hh2, hnc2, hm2, hs2, hc2⟩
 ·cases hv
 ·dsimp only at p1 hv2 hg2 hh2 hnc2 hm2 hs2 hc2
  cases hv2
  have e2 : cur2 = PX J ps := by
   apply Array.toList_inj.1
   rw [← hc2, List.take_of_length_le (by rw [Array.length_toList, hs2]; exact Nat.le_refl _)]
  subst e2
  have hsz : ∀ ps' : Pts, ps'.length = ps.length → (PX J ps').size = cp * 6 := fun ps' e => by rw [PX_size, e, ← PX_size]; exact hs2
  rcases h2 with ⟨hv, hx⟩ | ⟨g1, cp1, cur1, hv, hg, hh, hnc, hm, hs, hc⟩
  ·dsimp only at hv hx
   have ho : os = [] := List.eq_nil_of_length_eq_zero hx
   subst hv; subst ho
   exact ⟨[], ⟨h.below, fun e he => by rw [List.mem_singleton] at he; subst he; exact ⟨hg2, hh2⟩, List.pairwise_singleton _ _⟩, fun ps' w' e hst => CH.ofSt hst (hsz ps' e) hm2⟩
  ·dsimp only at h1 hv hg hh hnc hm hs hc
   subst hv
   have hne : gp ≠ g1 := by
    have := (List.pairwise_cons.1 h.apart).1 _ List.mem_cons_self
    rcases this with h9 | h9
    ·cases h9
    ·intro e; subst e; exact h9 rfl
   refine ⟨[(g1, 29, cur1)], ⟨h.below, fun e he => ?_, ?_⟩, fun ps' w' e hst => ?_⟩
   ·rcases List.mem_cons.1 he with rfl | he
    ·exact ⟨hg2, hh2⟩
    ·rw [List.mem_singleton] at he; subst he; exact ⟨hg, hh⟩
   ·exact List.pairwise_cons.2 ⟨fun q hq => by rw [List.mem_singleton] at hq; subst hq; exact hne, List.pairwise_singleton _ _⟩
   ·have hb1 := hst.blk _ (List.mem_cons_of_mem _ List.mem_cons_self)
    have hb2 := hst.blk _ List.mem_cons_self
    refine ⟨hst.below, fun r hr => ?_, ?_⟩
    ·rcases List.mem_cons.1 hr with rfl | hr
     ·exact ⟨h1, .inr ⟨g1, cp1, cur1, rfl, hg, hb1.2, hnc, hm, hs, hc⟩⟩
     ·rw [List.mem_singleton] at hr
      subst hr
      refine ⟨by dsimp only; rw [Array.length_toList, hsz ps' e], .inr ⟨gp, cp, PX J ps', rfl, hb2.1, hb2.2, Nat.le_refl _, hm2, hsz ps' e, ?_⟩⟩
      dsimp only
      rw [List.take_of_length_le (by rw [Array.length_toList, hsz ps' e]; exact Nat.le_refl _)]
    ·exact List.pairwise_cons.2 ⟨fun q hq => by rw [List.mem_singleton] at hq; subst hq; exact .inr (fun e9 => hne (by injection e9 with e9; exact e9.symm)), List.pairwise_singleton _ _⟩
def HullPost (w : World) (ps : Pts) (e : Ending) (w' : World) : Prop := ∃ L : Pts, L.Pairwise lxl ∧ (∀ p, p ∈ L ↔ p ∈ ps) ∧ Below w.heap.size w w' ∧
 (((L.length < 3 ∨ (hullL L).length < 3) ∧ e = .returned (.tuple #[.slice none 0 0, .int .i64 3])) ∨
  (3 ≤ L.length ∧ 3 ≤ (hullL L).length ∧ ∃ g c J, w.heap.size ≤ g ∧ e = .returned (.tuple #[.slice (some ⟨g, 0, none⟩) (hullL L).length c, .int .i64 0]) ∧ Blk w' g 29 (PX J (hullL L))))
theorem hull_R {k : Nat} {A : Option Addr} {n c : Nat} {ps : Pts} (hT : Tab W) (hz : Pz k ps) (hn : ps.length = n) (hn2 : n ≤ 12) (hk0 : 2 ≤ k) (hk : k ≤ 1000000) (w : World) (h : St W l w) (hv : ∀ i, i < n → ∃ g J, A = some ⟨g, 0, none⟩ ∧ Blk w g 29 (PX J ps)) :
  Calls Tryz.prog 65 #[.slice A n c] w (HullPost w ps) := by
 have HT := yh (tabS hT h)
 have HZ := yh hz
 have HN := yh hn
 have HK := yh (And.intro hk0 hk)
 have HV := yh hv
 clear hT h hz hn hk0 hk hv
 have hn64 : (n : Int) ≤ 64 := by omega
 have hml : n ≤ maxLen := by unfold maxLen; omega
 have hwn : IntKind.i64.wrap (n : Int) = (n : Int) := IntWalk.i64_in _ (by omega)
 go_enter Tryz.func65, Tryz.ntmps65
 have HS : St w [] w := St.start
 go_upto_region 3 with fail
 refine rgT [] HS ?_
 refine pU ?_
 refine pV (.int .i64 (n : Int)) (by intro w; go_simp <;> (first | (rw [rfl]; done) | exact rfl | omega | exact IntWalk.i64_in _ (by omega) | (go_num; done) | (simp [rfl]; done))) ?_
 refine Seq.slice (n := n) (e := 29) (cs := Mx ps 0 n) rfl rfl (fun w => mkV_n ps n (by omega) rfl rfl rfl w) ?_
 intro bk _ _ hbk
 refine nZ ?_
 refine pU ?_
 refine Seq.done fun w3 hws => ?_
 have HS3 : Hid (St w [(bk, 29, Mx ps 0 n)] w3) := yh (hws.q1)
 clear hws HS
 go_wp2_with fail
 go_loopg [16] n (fun kx s16 wr => ∃ i : Nat, kx = n - i ∧ s16 = .int .i64 (i : Int) ∧ i ≤ n ∧ Hid (St w [(bk, 29, Mx ps i n)] wr))
 case atStart => exact ⟨0, by omega, rfl, Nat.zero_le _, HS3⟩
 case round =>
  clear HS3
  obtain ⟨i, hgk, rfl, hin, HR⟩ := hrel
  have HGK := yh hgk; clear hgk
  by_cases hc : i < n
  ·obtain ⟨g, J, rfl, hb⟩ := HV.out i hc
   have HB := yh hb; clear hb
   have HI := yh (show i < ps.length by rw [HN.out]; exact hc)
   have hci : (i : Int) < (n : Int) := by omega
   have hw1 : IntKind.i64.wrap ((i : Int) + 1) = (i : Int) + 1 := IntWalk.i64_in _ (by omega)
   go_upto_region 6 with fail
   refine wp_seq_text [] (StR.no HR.out) ?_
   refine pU ?_
   refine iX 6 i hc ?_
   refine lF HB.out (VC (px ps i) (py ps i)) (PX_room HI.out) (PX_at HI.out) ?_
   refine aL6 ?_
   intro b6 _ _ hb6
   refine nZ ?_
   refine pU ?_
   refine sV (VC_one _ _) ?_
   refine dn1 b6 fun _ HS6=>?_
   clear HR
   go_upto_region 7 with fail
   have HP6 := HS6.p1
   refine wp_seq_text [] (StR.move (StR.no HP6)) ?_
   iterate 2 refine pU ?_
   refine lV ?_
   refine pV (.agg (#[.bool false, .string ⟨#[]⟩, .string ⟨#[]⟩, .bool false, .string ⟨#[]⟩, .string ⟨#[]⟩])) (by intro w; go_simp; try rfl) ?_
   refine cX rfl rfl (vaddz_q (k := k) HT.out (HZ.out.x HI.out) (HZ.out.y HI.out) HK.out.1 (by have := HK.out.2; omega)) ?_
   refine iX 6 i hc ?_
   refine Seq.storeAt (v := .agg (VC (px ps i) (py ps i))) rfl rfl rfl rfl rfl (by repeat first|exact rS|refine rN ‹_› ?_) (by rw [Mx_size]; show 6 * i + 6 ≤ 6 * n; omega) (by show _ = some 6; kernel_rfl) (VC_one _ _) (Mx_put ps hc) (nZ ?_)
   refine Seq.done fun w7 hws => ?_
   have HS7 := hws.q1 (p := bk)
   have HS8 : Hid (St w [(bk, 29, Mx ps (i + 1) n)] w7) := yh (HS7.sub (.cons_cons _ (.cons _ (.refl _))))
   clear hws HS6 HP6 HS7
   go_wp2_with fail
   go_roundg (n - (i + 1))
   case measure => rw [HGK.out]; omega
   case rel => exact ⟨i + 1, rfl, by go_num, by omega, HS8⟩
  ·obtain rfl : i = n := by omega
   have hci : ¬ (i : Int) < (i : Int) := by omega
   have HS4 : Hid (St w [(bk, 29, PX [] ps)] wr) := yh (by have := HR.out; rw [Mx_all HN.out, ← PX_nil] at this; exact this)
   clear HR hin hc
   go_upto_region 11 with (first
    | (go_at_call 107; refine (sortF_S (k := k) HT.out HZ.out HN.out hn2 (by have := HK.out.2; omega) _ HS4.out).mono ?_; rintro e wA ⟨rfl, qs, hql, hqp, hqs, hst⟩
       have HQL := yh hql; have HQP := yh hqp; have HQS := yh hqs; have HSA := yh hst; clear hql hqp hqs hst)
    | (go_at_call 109; refine (compactP_S (k := k) HT.out (HZ.out.perm HQP.out) HQL.out (by omega) (by rw [PX_size, HQL.out]; simp; omega) (by have := HK.out.2; omega) _ HSA.out).mono ?_; rintro e wB ⟨rfl, J, hst, hsz⟩
       have HSB := yh hst; have HSZ := yh hsz; clear hst hsz)
    | fail)
   have HLA := yh (cpL_asc HQL.out HQS.out)
   have HLM : Hid (∀ p, p ∈ cpL qs ↔ p ∈ ps) := yh (fun p => (cpL_mem qs p).trans HQP.out.mem_iff)
   have HLL : Hid ((cpL qs).length ≤ i) := yh (by rw [← HQL.out]; exact cpL_len qs)
   clear HQL HQP HQS HSA HS4
   generalize cpL qs = L at *
   obtain ⟨m, hm⟩ : ∃ m, L.length = m := ⟨_, rfl⟩
   have hmi : m ≤ i := by rw [← hm]; exact HLL.out
   have HM := yh hm
   rw [hm]
   clear hm HLL
   have HLZ : Hid (Pz k L) := yh (fun p hp => HZ.out p ((HLM.out p).1 hp))
   have hwm : IntKind.i64.wrap (m : Int) = (m : Int) := IntWalk.i64_in _ (by omega)
   by_cases h3 : m < 3
   ·have h3i : (m : Int) < 3 := by omega
    go_wp2_with fail
    go_ret2
    exact ⟨L, HLA.out, HLM.out, HSB.out.below, .inl ⟨.inl (by rw [HM.out]; exact h3), rfl⟩⟩
   ·have h3i : ¬ (m : Int) < 3 := by omega
    have HC0 := yh (CH.ofSt HSB.out HSZ.out hml)
    clear HSB HSZ
    go_upto_region 14 with (first
     | (go_at_call 111; refine (chain_R (k := k) HT.out HLZ.out (pre := []) (fun p hp => by cases hp) HM.out (by omega) (by omega) (Nat.zero_le _) (by have := HK.out.2; omega) HC0.out).mono ?_; rintro e wC ⟨v4, rfl, hch, -⟩
        have HC1 := yh hch; clear hch)
     | fail)
    obtain ⟨lr, hst, hback⟩ := HC1.out.st
    have HSC := yh hst; have HBK := yh hback; clear hst hback
    go_upto_region 15 with (first
     | (go_at_call 112; refine (reverse_S HM.out (by omega) _ HSC.out).mono ?_; rintro e wD ⟨rfl, hst⟩
        have HSD := yh hst; clear hst)
     | fail)
    have HC2 := yh (HBK.out _ _ (by simp) HSD.out)
    have HPR : Hid (Pz k ([] ++ (chn L).tail.reverse) ∧ ([] ++ (chn L).tail.reverse : Pts).length ≤ 1000) := yh ⟨fun p hp => HLZ.out p (chn_in L p (List.mem_of_mem_tail (List.mem_reverse.1 hp))), by
     have := chn_len L
     rw [HM.out] at this
     simp
     omega⟩
    have HLR : Hid (Pz k L.reverse ∧ L.reverse.length = m) := yh ⟨fun p hp => HLZ.out p (List.mem_reverse.1 hp), by rw [List.length_reverse]; exact HM.out⟩
    clear HC0 HC1 HSC HBK HSD
    go_upto_region 16 with (first
     | (go_at_call 111; refine (chain_R (k := k) HT.out HLR.out.1 HPR.out.1 HLR.out.2 (by omega) (by omega) HPR.out.2 (by have := HK.out.2; omega) HC2.out).mono ?_; rintro e wE ⟨v6, rfl, hch, -⟩
        have HC3 : Hid (CH w v6 (hullL L) bk i J L.reverse wE) := yh hch
        clear hch)
     | fail)
    obtain ⟨q, hq⟩ : ∃ q, (hullL L).length = q := ⟨_, rfl⟩
    have HQ := yh hq
    obtain ⟨A6, c6, rfl⟩ := HC3.out.form hq
    clear hq
    by_cases h4 : q < 3
    ·have h4i : (q : Int) < 3 := by omega
     go_wp2_with fail
     go_ret2
     exact ⟨L, HLA.out, HLM.out, HC3.out.below, .inl ⟨.inr (by rw [HQ.out]; exact h4), rfl⟩⟩
    ·have h4i : ¬ (q : Int) < 3 := by omega
     go_wp2_with fail
     go_ret2
     refine ⟨L, HLA.out, HLM.out, HC3.out.below, .inr ⟨by rw [HM.out]; omega, by rw [HQ.out]; omega, ?_⟩⟩
     rcases HC3.out.out with ⟨-, h0⟩ | ⟨go, co, Jo, hv9, hgo, -, -, hbo⟩
     ·have := HQ.out
      rw [h0] at this
      exact absurd this.symm (by simp; omega)
     ·exact ⟨go, co, Jo, hgo, by rw [← hv9]; rfl, hbo⟩
end Go.Proofs.YtmchjmflkaiakaaGreatDoor
