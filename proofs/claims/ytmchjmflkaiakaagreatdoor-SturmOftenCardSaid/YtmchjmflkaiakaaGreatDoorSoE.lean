/- sturm.Count and sturm.Fine. -/
import Derived.Test.YtmchjmflkaiakaaGreatDoorStU
import Derived.Test.YtmchjmflkaiakaaGreatDoorStO
import Derived.Test.YtmchjmflkaiakaaGreatDoorSp3
import Derived.Deep.LoopGhost
import Derived.OwnWalk
set_option maxHeartbeats 4000000
set_option maxRecDepth 20000
namespace Go.Proofs.YtmchjmflkaiakaaGreatDoor
open Go.RowKit
set_option linter.unusedVariables false
set_option linter.unusedSimpArgs false
theorem minS (x : Rat) : minQ x x = x := by unfold minQ; split <;> rfl
theorem maxS (x : Rat) : maxQ x x = x := by unfold maxQ; split <;> rfl
theorem RAt.kept {w w' : World} (hk : ∀ g cs, Blk w g 27 cs → Blk w' g 27 cs) {A : Option Addr} {p : Nums} (h : RAt w A p) : RAt w' A p := by
 rcases h with h | ⟨g, J, h1, h2⟩
 ·exact .inl h
 ·exact .inr ⟨g, J, h1, hk _ _ h2⟩
theorem CLi.kept {w w' : World} (hk : ∀ g cs, Blk w g 27 cs → Blk w' g 27 cs) : ∀ {vs : List Value} {cs : List Nums}, CLi w [] vs cs → CLi w' [] vs cs
 | [], [], _ => trivial
 | v :: vs, p :: ps, ⟨⟨A, c, h1, h2⟩, h3⟩ => ⟨⟨A, c, h1, RIn.of ((h2.at_ St.start).kept hk) _⟩, CLi.kept hk h3⟩
 | [], _ :: _, h => h.elim
 | _ :: _, [], h => h.elim
theorem CAt.kept {w w' : World} (hk : ∀ g cs, Blk w g 27 cs → Blk w' g 27 cs) (hk2 : ∀ g cs, Blk w g 55 cs → Blk w' g 55 cs) {v : Value} {cs : List Nums} (h : CAt w v cs) : CAt w' v cs := by
 obtain ⟨g, cap, vs, J, h1, h2, h3, h4⟩ := h
 exact ⟨g, cap, vs, J, h1, h2, hk2 _ _ h3, h4.kept hk⟩
theorem kept_all {W w2 w' : World} {lr l : List Own} {T : TypeId} (hs2 : St W lr w2) (hl : ∀ e ∈ allOwn W lr w2, e ∈ l) (hs : St W l w') (hlr : ∀ e ∈ lr, e.2.1 ≠ T) {g : Nat} {cs : Array Value} (hb : Blk w2 g T cs) : Blk w' g T cs := by
 rcases Nat.lt_or_ge g W.heap.size with h | h
 ·exact (hs.below.block g h).trans ((hs2.below.block g h).symm.trans hb)
 ·have hn : ∀ e ∈ lr, e.1 ≠ g := fun e he e9 => by
   have h2 := (hs2.blk e he).2
   rw [e9] at h2
   have h3 : w2.heap[g]? = some (.cells e.2.2 e.2.1 (0, 0)) := h2
   have h4 : w2.heap[g]? = some (.cells cs T (0, 0)) := hb
   rw [h3] at h4
   injection h4 with h4
   injection h4 with h5 h6
   exact hlr e he h6
  exact (hs.blk _ (hl _ (allOwn_mem.2 ⟨h, hn, hb⟩))).2
theorem count_S {n c : Nat} {A : Option Addr} {p : Nums} {cs : List Nums} {lo hi : Rat} {r : Int} (w : World) (hA : RAt w A p) (hn : p.length = n) (hR : RdR KK p cs) (zl : Rz 300 lo) (zh : Rz 300 hi) (hle : lo ≤ hi) (z1 : ChZ KK cs lo) (z2 : ChZ KK cs hi) (hr : CtR cs (lo, hi) = r) (hT : Tab w) :
  Calls Tryz.prog 34 #[.slice A n c, .agg (VC lo hi)] w fun e w' => e = .returned (.tuple #[.int .i64 r, .int .i64 0]) ∧ Below w.heap.size w w' := by
 have HA := yh hA; clear hA
 have HN := yh hn; clear hn
 have HRD := yh hR
 have HNE : Hid (cs ≠ []) := yh (by obtain ⟨o, kn, cs1, _, _, _, _, e⟩ := hR.run; rw [e]; exact List.cons_ne_nil _ _)
 clear hR
 have HZL := yh zl; clear zl
 have HZH := yh zh; clear zh
 have HLE := yh hle; clear hle
 have HZ1 := yh z1; clear z1
 have HZ2 := yh z2; clear z2
 have HR := yh hr; clear hr
 have HT := yh hT; clear hT
 have HKK := yh (show KK ≤ 1000000000000 from Nat.le_refl _)
 have HS0 : Hid (St w [] w) := yh St.start
 go_enter Tryz.func34, Tryz.ntmps34
 go_upto_region 0 with fail
 refine rgT [] HS0.out ?_
 refine bX (VC lo hi) ?_
 intro b3 _ _ hb3
 refine nZ ?_
 iterate 2 refine pU ?_
 refine dh1 b3 fun _ HS1=>?_
 clear HS0
 go_upto_region 1 with fail
 refine wp_seq_textC 1 [] rfl rfl rfl (StR.no HS1.out) ?_
 refine pU ?_
 refine dnH fun w1 HST1=>?_
 clear HS1
 refine ⟨wants_none rfl, ?_⟩
 refine w_call (vs := #[.slice A n c]) rfl rfl (by kernel_rfl) (ready_S (c := c) w1 (HA.out.next HST1.out.below) HN.out HRD.out (tabS HT.out HST1.out) HKK.out) fun e w2 h9 => ?_
 obtain ⟨vc, e9, hb9, hc9⟩ := h9
 refine ⟨_, e9, ?_⟩
 have HS2' := yh (HST1.out.next hb9)
 have HBW := yh HS2'.out.below
 have HC := yh hc9
 have HTW : Hid (Tab w2) := yh (HT.out.next HBW.out)
 have HB3 := yh (HS2'.out.blk _ List.mem_cons_self).2
 clear e9 hb9 hc9 HST1 HT HS2'
 simp only [Act.eval, Act.put, List.setIfInBounds_toArray, List.set_cons_zero, List.set_cons_succ]
 refine ⟨wants_none rfl, w_mov rfl ?_⟩
 simp only [Act.eval, Act.put, List.setIfInBounds_toArray, List.set_cons_zero, List.set_cons_succ]
 refine ⟨wants_none rfl, w_ext (vs := #[vc, .int .i64 0]) rfl rfl rfl ?_⟩
 simp only [Act.eval, Act.put, List.setIfInBounds_toArray, List.set_cons_zero, List.set_cons_succ]
 refine ⟨wants_none rfl, w_ext (vs := #[vc, .int .i64 0]) rfl rfl rfl ?_⟩
 simp only [Act.eval, Act.put, List.setIfInBounds_toArray, List.set_cons_zero, List.set_cons_succ]
 refine ⟨wants_none rfl, st_asg rfl ?_⟩
 simp only [Act.eval, Act.put, List.setIfInBounds_toArray, List.set_cons_zero, List.set_cons_succ]
 refine ⟨wants_none rfl, st_asg rfl ?_⟩
 unfold chainW
 simp only [Act.eval, Act.put, List.setIfInBounds_toArray, List.set_cons_zero, List.set_cons_succ]
 have HS2 : Hid (St w2 [] w2) := yh St.start
 go_upto_region 4 with fail
 refine rgT [] HS2.out ?_
 refine pU ?_
 refine Seq.loadAtF rfl rfl rfl rfl HB3.out (n := 6) (cs' := VC lo hi) (Nat.le_of_ble_eq_true rfl) (by kernel_rfl) rfl (nZ ?_)
 refine Seq.loadAtF rfl rfl rfl rfl HB3.out (n := 6) (cs' := VC lo hi) (Nat.le_of_ble_eq_true rfl) (by kernel_rfl) rfl (nZ ?_)
 refine cX rfl rfl (sjoin_q (k := 300) HTW.out HZL.out HZH.out HZL.out HZH.out HLE.out HLE.out (minS lo) (maxS hi) (by omega)) ?_
 refine cX rfl rfl (countP_q (K := KK) HTW.out HC.out HNE.out HZ1.out HZ2.out HR.out HKK.out) ?_
 iterate 2 refine pU ?_
 refine Seq.done fun w3 hws => ?_
 have HE : Hid (Below w.heap.size w w3) := yh (HBW.out.trans (hws.st.below.mono HBW.out.size))
 clear hws HS2
 go_wp2_with fail
 go_ret2
 exact ⟨rfl, HE.out⟩
theorem fine_S {n c nn : Nat} {A : Option Addr} {p : Nums} {cs : List Nums} {s t2 : Spn} {wd : Rat} (w : World) (hA : RAt w A p) (hn : p.length = n) (hR : RdR KK p cs) (zl : Rz 300 s.1) (zh : Rz 300 s.2) (hle : s.1 ≤ s.2) (z1 : ChZ KK cs s.1) (z2 : ChZ KK cs s.2) (hr : CtR cs (s.1, s.2) = 1) (hwd : 0 < wd) (zw : Rz 300 wd)
  (hF : FnR KK cs wd nn s t2) (hT : Tab w) :
  Calls Tryz.prog 35 #[.slice A n c, .agg (VC s.1 s.2), .agg (RC wd)] w fun e w' => e = .returned (.tuple #[.agg (VC t2.1 t2.2), .int .i64 0]) ∧ Below w.heap.size w w' := by
 have HA := yh hA; clear hA
 have HN := yh hn; clear hn
 have HRD := yh hR
 have HNE : Hid (cs ≠ []) := yh (by obtain ⟨o, kn, cs1, _, _, _, _, e⟩ := hR.run; rw [e]; exact List.cons_ne_nil _ _)
 clear hR
 have HZL := yh zl; clear zl
 have HZH := yh zh; clear zh
 have HLE := yh hle; clear hle
 have HZ1 := yh z1; clear z1
 have HZ2 := yh z2; clear z2
 have HR := yh hr; clear hr
 have HZW := yh zw; clear zw
 have HF := yh hF; clear hF
 have HT := yh hT; clear hT
 have HKK := yh (show KK ≤ 1000000000000 from Nat.le_refl _)
 have H2K := yh (show 2 ≤ KK by decide)
 have H3K := yh (show 300 ≤ KK by decide)
 obtain ⟨sv, hsv⟩ : ∃ sv, sgnQ wd = sv := ⟨_, rfl⟩
 have hsd : decide (sv ≤ 0) = false := by rw [← hsv]; exact sgn_pos hwd
 have HSV := yh hsv; clear hsv hwd
 have HS0 : Hid (St w [] w) := yh St.start
 go_enter Tryz.func35, Tryz.ntmps35
 go_upto_region 0 with fail
 refine rgT [] HS0.out ?_
 refine bX (VC s.1 s.2) ?_
 intro b4 _ _ hb4
 refine nZ ?_
 refine bX (RC wd) ?_
 intro b5 _ _ hb5
 obtain ⟨e1, e2, hb5⟩ := Reg.ne2 hb5
 refine nZ ?_
 refine aL6 ?_
 intro b6 _ _ hb6
 obtain ⟨e3, e4, hb6⟩ := Reg.ne2 hb6
 obtain ⟨e5, e6, hb6⟩ := Reg.ne2 hb6
 refine nZ ?_
 refine pU ?_
 refine Seq.done fun w0 hws => ?_
 have HS1 : Hid (St w [(b4, 32, VC s.1 s.2), (b6, 32, #[.bool false, .string ⟨#[]⟩, .string ⟨#[]⟩, .bool false, .string ⟨#[]⟩, .string ⟨#[]⟩]), (b5, 27, RC wd)] w0) := yh (hws.q3 (p := b4) (q := b6) (r := b5))
 clear hws HS0
 go_upto_region 1 with fail
 refine wp_seq_textC 1 [] rfl rfl rfl (StR.no HS1.out) ?_
 refine pU ?_
 refine dnH fun w1 HST1=>?_
 clear HS1
 refine ⟨wants_none rfl, ?_⟩
 refine w_call (vs := #[.slice A n c]) rfl rfl (by kernel_rfl) (ready_S (c := c) w1 (HA.out.next HST1.out.below) HN.out HRD.out (tabS HT.out HST1.out) HKK.out) fun e w2 h9 => ?_
 obtain ⟨vc, e9, hb9, hc9⟩ := h9
 refine ⟨_, e9, ?_⟩
 have HS2' := yh (HST1.out.next hb9)
 -- all other blocks of the call's own stay as they are
 have HLR : Hid (St w [(b4, 32, VC s.1 s.2), (b6, 32, #[.bool false, .string ⟨#[]⟩, .string ⟨#[]⟩, .bool false, .string ⟨#[]⟩, .string ⟨#[]⟩])] w2) := yh (HS2'.out.sub (.cons_cons _ (.cons_cons _ (.cons _ (.refl _)))))
 obtain ⟨AO, hAO⟩ : ∃ AO, allOwn w [(b4, 32, VC s.1 s.2), (b6, 32, #[.bool false, .string ⟨#[]⟩, .string ⟨#[]⟩, .bool false, .string ⟨#[]⟩, .string ⟨#[]⟩])] w2 = AO := ⟨_, rfl⟩
 have HS2 : Hid (St w ((b4, 32, VC s.1 s.2) :: (b6, 32, #[.bool false, .string ⟨#[]⟩, .string ⟨#[]⟩, .bool false, .string ⟨#[]⟩, .string ⟨#[]⟩]) :: AO) w2) := yh (by rw [← hAO]; exact HLR.out.all)
 have HM5 : Hid ((b5, 27, RC wd) ∈ AO) := yh (by
  rw [← hAO]
  have h5 := HS2'.out.blk (b5, 27, RC wd) (by simp)
  refine allOwn_mem.2 ⟨h5.1, fun e he => ?_, h5.2⟩
  simp only [List.mem_cons, List.not_mem_nil, or_false] at he
  rcases he with rfl | rfl <;> assumption)
 have HCK : Hid (∀ (l : List Own) (w' : World), (∀ e ∈ AO, e ∈ l) → St w l w' → CAt w' vc cs) := yh (fun l w' hl hs => by
  rw [← hAO] at hl
  exact hc9.kept (fun g cs' hb => kept_all HLR.out hl hs (fun e he => by simp only [List.mem_cons, List.not_mem_nil, or_false] at he; rcases he with rfl | rfl <;> exact Nat.ne_of_beq_eq_false rfl) hb)
   (fun g cs' hb => kept_all HLR.out hl hs (fun e he => by simp only [List.mem_cons, List.not_mem_nil, or_false] at he; rcases he with rfl | rfl <;> exact Nat.ne_of_beq_eq_false rfl) hb))
 clear e9 hb9 hc9 HST1 HS2' HLR hAO
 simp only [Act.eval, Act.put, List.setIfInBounds_toArray, List.set_cons_zero, List.set_cons_succ]
 refine ⟨wants_none rfl, w_mov rfl ?_⟩
 simp only [Act.eval, Act.put, List.setIfInBounds_toArray, List.set_cons_zero, List.set_cons_succ]
 refine ⟨wants_none rfl, w_ext (vs := #[vc, .int .i64 0]) rfl rfl rfl ?_⟩
 simp only [Act.eval, Act.put, List.setIfInBounds_toArray, List.set_cons_zero, List.set_cons_succ]
 refine ⟨wants_none rfl, w_ext (vs := #[vc, .int .i64 0]) rfl rfl rfl ?_⟩
 simp only [Act.eval, Act.put, List.setIfInBounds_toArray, List.set_cons_zero, List.set_cons_succ]
 refine ⟨wants_none rfl, st_asg rfl ?_⟩
 simp only [Act.eval, Act.put, List.setIfInBounds_toArray, List.set_cons_zero, List.set_cons_succ]
 refine ⟨wants_none rfl, st_asg rfl ?_⟩
 unfold chainW
 simp only [Act.eval, Act.put, List.setIfInBounds_toArray, List.set_cons_zero, List.set_cons_succ]
 go_upto_region 4 with fail
 refine rgT [] HS2.out ?_
 refine Seq.load rfl rfl rfl rfl (List.mem_cons_of_mem _ (List.mem_cons_of_mem _ HM5.out)) (n := 3) rfl (by kernel_rfl) (nZ ?_)
 refine cX rfl rfl (sign_q (k := 300) HT.out HZW.out HSV.out (by omega)) ?_
 refine pV (.bool false) (by intro w; go_simp <;> (first | (rw [hsd]; done) | exact hsd | (simp [hsd]; done))) ?_
 refine dnH fun _ HS3=>?_
 clear HS2 hsd
 go_upto_region 6 with fail
 refine wp_seq_text [0, 2] (StR.move (StR.no HS3.out)) ?_
 iterate 2 refine gV ?_
 refine cX rfl rfl (sjoin_q (k := 300) HT.out HZL.out HZH.out HZL.out HZH.out HLE.out HLE.out (minS s.1) (maxS s.2) (by omega)) ?_
 refine sV (VC_one _ _) ?_
 refine dh1 b4 fun _ HS4=>?_
 clear HS3
 go_upto_region 7 with fail
 refine rgT [] HS4.out ?_
 refine pU ?_
 refine lV ?_
 refine cX rfl rfl (fun w' h' => countP_q (K := KK) (l := []) (tabS HT.out h') (HCK.out _ w' (fun e he => List.mem_cons_of_mem _ (List.mem_cons_of_mem _ he)) h') HNE.out HZ1.out HZ2.out HR.out HKK.out w' St.start) ?_
 refine pU ?_
 refine dnH fun _ HS5=>?_
 clear HS4
 go_wp2_with fail
 go_loopg [] nn (fun kx wr => ∃ t : Spn, Hid (FnR KK cs wd kx t t2) ∧ Hid (St w ((b4, 32, VC t.1 t.2) :: (b6, 32, #[.bool false, .string ⟨#[]⟩, .string ⟨#[]⟩, .bool false, .string ⟨#[]⟩, .string ⟨#[]⟩]) :: AO) wr))
 case atStart => exact ⟨s, HF, HS5⟩
 case round =>
  clear HF HS5
  obtain ⟨t, HF, HS6⟩ := hrel
  obtain ⟨df, hdf⟩ : ∃ df, t.2 - t.1 = df := ⟨_, rfl⟩
  have HDF := yh hdf
  rcases HF.out with ⟨h1, h2, h3, hlt⟩ | @⟨m9, _, _, h1, h2, h3, hlt, hv, hrn⟩
  ·have HX1 := yh h1
   have HX2 := yh h2
   have HX3 := yh (hdf ▸ h3)
   rw [hdf] at hlt
   obtain ⟨cv, hcv⟩ : ∃ cv, cmpQ df wd = cv := ⟨_, rfl⟩
   have hcd : decide (0 < cv) = false := decide_eq_false (by rw [← hcv]; have := cmp_le hlt; omega)
   have HCV := yh hcv
   clear h1 h2 h3 hlt hdf hcv
   go_upto_region 9 with fail
   refine rgW [] HS6.out ?_
   refine pU ?_
   refine lA (RC t2.2) ?_
   refine pU ?_
   refine lA (RC t2.1) ?_
   refine cX rfl rfl (sub_q (k := KK) HT.out HX2.out HX1.out HDF.out (by have := HKK.out; omega)) ?_
   refine Seq.load rfl rfl rfl rfl (List.mem_cons_of_mem _ (List.mem_cons_of_mem _ HM5.out)) (n := 3) rfl (by kernel_rfl) (nZ ?_)
   refine cX rfl rfl (cmp_q (k := KK) HT.out HX3.out (HZW.out.more H3K.out) HCV.out (by have := HKK.out; omega)) ?_
   refine pV (.bool false) (by intro w; go_simp <;> (first | (rw [hcd]; done) | exact hcd | (simp [hcd]; done) | (have := of_decide_eq_false hcd; omega))) ?_
   refine Seq.done fun w6 hws => ?_
   have HS7 := yh hws.st.p1
   clear hws HS6 hcd
   go_upto_region 11 with fail
   refine wp_seq_text [] (StR.move (StR.no HS7.out)) ?_
   refine lV ?_
   refine sV (VC_one _ _) ?_
   refine pU ?_
   refine dh1 b6 fun w7 HS8=>?_
   clear HS7
   go_wp2_with fail
   have HB6 := HS8.out
   exact ret_own2 rfl rfl rfl rfl HB6 (by repeat first|exact mC|apply mT) (n := 6) rfl (by kernel_rfl) ⟨rfl, HB6.below⟩
  ·have HX1 := yh h1
   have HX2 := yh h2
   have HX3 := yh (hdf ▸ h3)
   rw [hdf] at hlt
   obtain ⟨cv, hcv⟩ : ∃ cv, cmpQ df wd = cv := ⟨_, rfl⟩
   have hcd : decide (0 < cv) = true := decide_eq_true (by rw [← hcv]; unfold cmpQ; rw [if_neg (by grind), if_pos hlt]; decide)
   have HCV := yh hcv
   obtain ⟨t', ht'⟩ : ∃ t', halveL cs t = t' := ⟨_, rfl⟩
   have HH := yh (show halveL cs (t.1, t.2) = (t'.1, t'.2) from ht')
   have HV := yh hv
   rw [ht'] at hrn
   have HFN := yh hrn
   clear h1 h2 h3 hlt hdf hcv hv hrn ht' HF
   go_upto_region 9 with fail
   refine rgW [] HS6.out ?_
   refine pU ?_
   refine lA (RC t.2) ?_
   refine pU ?_
   refine lA (RC t.1) ?_
   refine cX rfl rfl (sub_q (k := KK) HT.out HX2.out HX1.out HDF.out (by have := HKK.out; omega)) ?_
   refine Seq.load rfl rfl rfl rfl (List.mem_cons_of_mem _ (List.mem_cons_of_mem _ HM5.out)) (n := 3) rfl (by kernel_rfl) (nZ ?_)
   refine cX rfl rfl (cmp_q (k := KK) HT.out HX3.out (HZW.out.more H3K.out) HCV.out (by have := HKK.out; omega)) ?_
   refine pV (.bool true) (by intro w; go_simp <;> (first | (rw [hcd]; done) | exact hcd | (simp [hcd]; done) | (have := of_decide_eq_true hcd; omega))) ?_
   refine dnH fun _ HS7=>?_
   clear HS6 hcd
   go_upto_region 10 with fail
   refine wp_seq_text [2] (StR.move (StR.no HS7.out)) ?_
   refine pU ?_
   refine gV ?_
   refine cX rfl rfl (fun w' h' => halve_q (K := KK) (l := []) (tabS HT.out h') (HCK.out _ w' (fun e he => List.mem_cons_of_mem _ he) h') HNE.out H2K.out HV.out HH.out HKK.out w' St.start) ?_
   refine sV (VC_one _ _) ?_
   refine dh1 b4 fun _ HS8=>?_
   clear HS7
   go_wp2_with fail
   go_roundg m9
   case measure => exact Nat.lt_succ_self _
   case rel => exact ⟨t', HFN, HS8⟩
end Go.Proofs.YtmchjmflkaiakaaGreatDoor
