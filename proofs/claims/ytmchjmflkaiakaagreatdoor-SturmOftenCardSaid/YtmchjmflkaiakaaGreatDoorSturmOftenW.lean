/- SturmOften (printed by stw.py). -/
import Derived.Test.YtmchjmflkaiakaaGreatDoorSoF
import Derived.Deep.LoopGhost
import Derived.OwnWalk
set_option maxHeartbeats 8000000
set_option maxRecDepth 20000
namespace Go.Proofs.YtmchjmflkaiakaaGreatDoor
open Go.RowKit
set_option linter.unusedVariables false
set_option linter.unusedSimpArgs false
theorem sturmOften_int (x0 x1 : Int) {A0 : Option Addr} {n0 c0 : Nat} {xs0 : List Int} (w : World) (hi0 : Ints w A0 n0 c0 xs0) (hx0 : -9223372036854775808 ≤ x0) (hx1 : x0 ≤ 9223372036854775807) (hy0 : -9223372036854775808 ≤ x1) (hy1 : x1 ≤ 9223372036854775807) (hT : Tab w) :
  Calls Tryz.prog 5 #[.slice A0 n0 c0, .int .i64 x0, .int .i64 x1] w fun e w' => e = .returned (.bool true) ∧ Below w.heap.size w w' := by
 obtain ⟨m4, hm4⟩ : ∃ m4, min n0 4 = m4 := ⟨_, rfl⟩
 have hnc : n0 ≤ c0 := hi0.2.1
 have hmn : m4 ≤ n0 := by omega
 have hmin : min (n0 : Int) 4 = (m4 : Int) := by omega
 have hm44 : m4 ≤ 4 := by omega
 clear hm4
 have HI := yh hi0; clear hi0
 have HT := yh hT; clear hT
 have HS0 : Hid (St w [] w) := yh St.start
 go_enter Tryz.func5, Tryz.ntmps5
 go_upto_region 1 with fail
 refine rgT [] HS0.out ?_
 refine cX rfl rfl (sturmBegun_q HT.out) ?_
 refine pU ?_
 refine dnH fun _ HST1=>?_
 clear HS0
 go_upto_region 3 with fail
 refine wp_seq_textC 5 [] rfl rfl rfl (StR.no HST1.out) ?_
 iterate 3 refine pU ?_
 refine pV (.int .i64 (m4 : Int)) (by intro w; go_simp <;> (first | (rw [hmin]; done) | exact hmin | (simp [hmin]; done) | omega)) ?_
 refine pV (.slice A0 m4 c0) (by intro w; go_simp <;> (first | omega | (simp; omega))) ?_
 refine dnH fun w2 HST2=>?_
 clear HST1
 refine ⟨wants_none rfl, ?_⟩
 refine w_call (vs := #[.slice A0 m4 c0]) rfl rfl (by kernel_rfl) (rooted_S (m := min m4 5) w2 ((HI.out.takeN hmn).nextN HST2.out.below) rfl (tabS HT.out HST2.out)) fun e w3 h9 => ?_
 obtain ⟨rs, h9⟩ := h9
 obtain ⟨A1, A2, c1, c2, e9, hA1, hA2⟩ := h9.ret
 have HBW : Hid (Below w.heap.size w w3) := yh (HST2.out.below.trans (h9.below.mono HST2.out.below.size))
 have HT3 := yh (HT.out.next HBW.out)
 have HASC := yh h9.asc
 have HSML := yh h9.sml
 have hfw := h9.few
 have HA1 := yh hA1
 have HA2 := yh hA2
 obtain ⟨nn, hnn⟩ : ∃ nn, rs.length = nn := ⟨_, rfl⟩
 rw [hnn] at e9 hfw
 have hn5 : nn ≤ 5 := by omega
 have hn4 : nn ≤ 4 := by omega
 have HNN := yh hnn
 refine ⟨_, e9, ?_⟩
 clear e9 hA1 hA2 h9 hnn hfw HST2 HT HI
 simp only [Act.eval, Act.put, List.setIfInBounds_toArray, List.set_cons_zero, List.set_cons_succ]
 refine ⟨wants_none rfl, w_mov rfl ?_⟩
 simp only [Act.eval, Act.put, List.setIfInBounds_toArray, List.set_cons_zero, List.set_cons_succ]
 refine ⟨wants_none rfl, w_ext (vs := #[.slice A1 nn c1, .slice A2 (nn + 1) c2]) rfl rfl rfl ?_⟩
 simp only [Act.eval, Act.put, List.setIfInBounds_toArray, List.set_cons_zero, List.set_cons_succ]
 refine ⟨wants_none rfl, w_ext (vs := #[.slice A1 nn c1, .slice A2 (nn + 1) c2]) rfl rfl rfl ?_⟩
 simp only [Act.eval, Act.put, List.setIfInBounds_toArray, List.set_cons_zero, List.set_cons_succ]
 refine ⟨wants_none rfl, st_asg rfl ?_⟩
 simp only [Act.eval, Act.put, List.setIfInBounds_toArray, List.set_cons_zero, List.set_cons_succ]
 refine ⟨wants_none rfl, st_asg rfl ?_⟩
 unfold chainW
 simp only [Act.eval, Act.put, List.setIfInBounds_toArray, List.set_cons_zero, List.set_cons_succ]
 have HS3 : Hid (St w3 [] w3) := yh St.start
 clear hmin hmn hnc
 have HPL : Hid ((rootL [1] rs).length = nn + 1) := yh (by rw [(root_one_len rs).1, HNN.out])
 have HPZ := yh (root_z HSML.out (by rw [HNN.out]; omega))
 have HSZ := yh (sqq_z HSML.out (by rw [HNN.out]; omega))
 have HQ1 : Hid (Qz 7 ([1, 0, 1] : Nums)) := yh (fun c hc => by
  simp only [List.mem_cons, List.not_mem_nil, or_false] at hc
  rcases hc with rfl | rfl | rfl
  ·exact (Rz.int1 (z := 1) (by decide)).more (by omega)
  ·exact (Rz.int1 (z := 0) (by decide)).more (by omega)
  ·exact (Rz.int1 (z := 1) (by decide)).more (by omega))
 have HPR1 : Hid (prodN (rootL [1] rs) [1, 0, 1] (nn + 1) = rootL [1, 0, 1] rs) := yh (by rw [← HNN.out]; exact prod_sq rs)
 have HSL : Hid ((rootL [1, 0, 1] rs).length = nn + 3) := yh (by rw [(sq_last rs).1, HNN.out])
 go_upto_region 4 with fail
 refine rgT [1000005] HS3.out ?_
 refine pU ?_
 refine cX rfl rfl (of_q (z := (1 : Rat)) HT3.out (by omega) (by omega) (by decide +kernel)) ?_
 refine cX rfl rfl (of_q (z := (0 : Rat)) HT3.out (by omega) (by omega) (by decide +kernel)) ?_
 refine cX rfl rfl (of_q (z := (1 : Rat)) HT3.out (by omega) (by omega) (by decide +kernel)) ?_
 refine Seq.slice (n := 3) (e := 27) (cs := RX [] [1, 0, 1]) rfl rfl (fun w => slcQ_3 rfl rfl rfl rfl w) ?_
 intro gt _ _ hgt
 refine nZ ?_
 refine Seq.callFresh (n := some (nn + 3)) (x := (27, RX [] (rootL [1, 0, 1] rs))) rfl rfl rfl rfl (by kernel_rfl) (fun w' h' => by
  have h9 := product_S (k := 7) (n := nn + 1) (m := 3) (c := c2) (c2 := 3) (p := rootL [1] rs) (q := [1, 0, 1]) w' (HA2.out.next h'.st.below) (.inr ⟨gt, [], rfl, (h'.reg _ _ _ (by repeat first|exact rS|refine rN ‹_› ?_)).2.2⟩) HPL.out rfl ⟨by omega, by omega⟩ ⟨by omega, by omega⟩ HPZ.out HQ1.out (by omega) (by omega) (tabS HT3.out h'.st)
  rw [HPR1.out] at h9
  exact h9.mono fun e w2 h2 => h2.fresh HSL.out) ?_
 intro gq _ _ hgq
 refine nZ ?_
 refine pU ?_
 refine Seq.done fun w4 hws => ?_
 have HS4 := yh (hws.q1 (p := gq))
 simp only [mk]
 clear hws HS3
 rcases Nat.eq_zero_or_pos nn with h0 | h0
 focus
  have hd : decide ((0 : Int) < (nn : Int)) = false := decide_eq_false (by omega)
  go_upto_region 5 with fail
  refine rgT [] HS4.out ?_
  iterate 2 refine pU ?_
  refine pV (.bool false) (by intro w; go_simp <;> (first | (rw [hd]; done) | exact hd | (simp [hd]; done) | omega)) ?_
  refine Seq.done fun w5 hws => ?_
  have HS5' := yh hws.st
  clear hws HS4 hd h0
  obtain ⟨qp, hqp⟩ : ∃ qp, rootL [1, 0, 1] rs = qp := ⟨_, rfl⟩
  obtain ⟨lq, hlq⟩ : ∃ lq, nn + 3 = lq := ⟨_, rfl⟩
  have HPO : Hid (Pol [1, 0, 1] rs qp) := yh (hqp ▸ pol_sq HASC.out HSML.out (by rw [HNN.out]; exact hn4))
  have HQL : Hid (qp.length = lq) := yh (by rw [← hqp, ← hlq]; exact HSL.out)
  have HS5 : Hid (St w3 [(gq, 27, RX [] qp)] w5) := yh (by rw [← hqp]; exact HS5'.out)
  rw [hlq]
  clear HS5' hqp hlq
 rotate_left
 focus
  have hd : decide ((0 : Int) < (nn : Int)) = true := decide_eq_true (by omega)
  go_upto_region 5 with fail
  refine rgT [] HS4.out ?_
  iterate 2 refine pU ?_
  refine pV (.bool true) (by intro w; go_simp <;> (first | (rw [hd]; done) | exact hd | (simp [hd]; done) | omega)) ?_
  refine Seq.done fun w5 hws => ?_
  have HS5' := yh hws.st
  clear hws HS4 hd
  have HI0 := yh (show 0 < rs.length by rw [HNN.out]; exact h0)
  obtain ⟨g1, J1, rfl, hB1⟩ := HA1.out.get HI0.out
  have HB1 := yh hB1; clear hB1
  obtain ⟨r, hr⟩ : ∃ r, rx rs 0 = r := ⟨_, rfl⟩
  have HME : Hid (r ∈ rs) := yh (hr ▸ qx_mem HI0.out)
  have HRR : Hid ((RX J1 rs).extract 0 (0 + 3) = RC r) := yh (by have h9 := RX_at (J := J1) HI0.out; rw [hr] at h9; exact h9)
  have HRO : Hid (0 + 3 ≤ (RX J1 rs).size) := yh (RX_room (J := J1) HI0.out)
  obtain ⟨nr, hnr⟩ : ∃ nr, -r = nr := ⟨_, rfl⟩
  have HNR := yh hnr
  have HSM := yh (HSML.out r HME.out)
  have HLZ : Hid (Qz 7 [nr, 1]) := yh (hnr ▸ lin_z HSM.out)
  have HPR2 : Hid (prodN (rootL [1, 0, 1] rs) [nr, 1] (nn + 3) = rootL [1, 0, 1] (r :: rs)) := yh (by rw [← HNN.out, ← hnr]; exact prod_again rs r)
  have HSL2 : Hid ((rootL [1, 0, 1] (r :: rs)).length = nn + 4) := yh (by rw [(sq_last (r :: rs)).1, List.length_cons, HNN.out])
  clear hr hnr
  go_upto_region 6 with fail
  refine rgT [1000007] HS5'.out ?_
  iterate 2 refine pU ?_
  refine iX 3 0 h0 ?_
  refine Seq.loadAtF rfl rfl rfl rfl HB1.out (n := 3) (cs' := RC r) HRO.out (by kernel_rfl) HRR.out (nZ ?_)
  refine cX rfl rfl (neg_q (k := 1) HT3.out (sml_z HSM.out) HNR.out (by omega)) ?_
  refine cX rfl rfl (of_q (z := (1 : Rat)) HT3.out (by omega) (by omega) (by decide +kernel)) ?_
  refine Seq.slice (n := 2) (e := 27) (cs := RX [] [nr, 1]) rfl rfl (fun w => slcQ_2N rfl rfl rfl w) ?_
  intro gu _ _ hgu
  refine nZ ?_
  refine Seq.callFresh (n := some (nn + 4)) (x := (27, RX [] (rootL [1, 0, 1] (r :: rs)))) rfl rfl rfl rfl (by kernel_rfl) (fun w' h' => by
   have h9 := product_S (k := 7) (n := nn + 3) (m := 2) (c := nn + 3) (c2 := 2) (p := rootL [1, 0, 1] rs) (q := [nr, 1]) w' (.inr ⟨gq, [], rfl, (h'.st.blk (gq, 27, RX [] (rootL [1, 0, 1] rs)) (by repeat first|exact mC|apply mT)).2⟩) (.inr ⟨gu, [], rfl, (h'.reg _ _ _ (by repeat first|exact rS|refine rN ‹_› ?_)).2.2⟩) HSL.out rfl ⟨by omega, by omega⟩ ⟨by omega, by omega⟩ HSZ.out HLZ.out (by omega) (by omega) (tabS HT3.out h'.st)
   rw [HPR2.out] at h9
   exact h9.mono fun e w2 h2 => h2.fresh HSL2.out) ?_
  intro gq _ _ hgq
  refine nZ ?_
  refine pU ?_
  refine Seq.done fun w5 hws => ?_
  have HS6' : Hid (St w3 [(gq, 27, RX [] (rootL [1, 0, 1] (r :: rs)))] w5) := yh ((hws.q1 (p := gq)).sub (.cons_cons _ (.cons _ (.refl _))))
  simp only [mk]
  clear hws HS5'
  obtain ⟨qp, hqp⟩ : ∃ qp, rootL [1, 0, 1] (r :: rs) = qp := ⟨_, rfl⟩
  obtain ⟨lq, hlq⟩ : ∃ lq, nn + 4 = lq := ⟨_, rfl⟩
  have HPO : Hid (Pol [1, 0, 1] rs qp) := yh (hqp ▸ pol_sq2 HASC.out HSML.out (by rw [HNN.out]; exact hn4) HME.out)
  have HQL : Hid (qp.length = lq) := yh (by rw [← hqp, ← hlq]; exact HSL2.out)
  have HS5 : Hid (St w3 [(gq, 27, RX [] qp)] w5) := yh (by rw [← hqp]; exact HS6'.out)
  rw [hlq]
  clear HS6' hqp hlq h0
 rotate_left
 all_goals
  obtain ⟨z0, hz0⟩ : ∃ z, minQ (ratMq x0) (ratMq x1) = z := ⟨_, rfl⟩
  obtain ⟨z1, hz1⟩ : ∃ z, maxQ (ratMq x0) (ratMq x1) = z := ⟨_, rfl⟩
  have HE0 := yh hz0
  have HE1 := yh hz1
  have HZ0 : Hid (Rz 1 z0) := yh (hz0 ▸ (ratM_z x0).min (ratM_z x1))
  have HZ1 : Hid (Rz 1 z1) := yh (hz1 ▸ (ratM_z x0).max (ratM_z x1))
  have HLE : Hid (z0 ≤ z1) := yh (hz0 ▸ hz1 ▸ min_le_max _ _)
  clear hz0 hz1
  go_upto_region 7 with fail
  refine rgT [] HS5.out ?_
  iterate 2 refine pU ?_
  refine cX rfl rfl (made_sq HT3.out ⟨hx0, hx1⟩ ⟨hy0, hy1⟩ HE0.out HE1.out) ?_
  refine aL6 ?_
  intro b10 _ _ hb10
  refine nZ ?_
  refine sV (VC_one _ _) ?_
  refine dh1 b10 fun _ HS6=>?_
  clear HS5
  go_upto_region 8 with fail
  refine rgT [] HS6.out ?_
  refine pU ?_
  refine dnH fun w7 HS7=>?_
  clear HS6
  go_upto_region 9 with fail
  refine rgT [] HS7.out ?_
  iterate 3 refine pU ?_
  refine dnH fun w8 HS8=>?_
  clear HS7
  go_wp2_with fail
  go_loopg [11, 53] nn (fun kx s11 s53 wr => ∃ i : Nat, kx = nn - i ∧ s11 = .int .i64 (cntC (rs.take i) z0 z1) ∧ s53 = .int .i64 (i : Int) ∧ i ≤ nn ∧ Hid (St w3 [(b10, 32, VC z0 z1), (gq, 27, RX [] qp)] wr))
  case atStart => exact ⟨0, rfl, rfl, rfl, Nat.zero_le _, HS8⟩
  case round =>
   clear HS8
   obtain ⟨i, hgk, hs11, rfl, hile, HSR⟩ := hrel
   have HGK := yh hgk; clear hgk
   by_cases hin : i < nn
   ·have HIR := yh (show i < rs.length by rw [HNN.out]; exact hin)
    obtain ⟨ci, hci⟩ : ∃ ci, cntC (rs.take i) z0 z1 = ci := ⟨_, rfl⟩
    have hcb : 0 ≤ ci ∧ ci ≤ 5 := by
     rw [← hci, cntC_len]
     have := List.length_filter_le (fun r => decide (z0 ≤ r) && decide (r ≤ z1)) (rs.take i)
     have h8 : (rs.take i).length ≤ 5 := by rw [List.length_take, HNN.out]; omega
     unfold inS
     omega
    rw [hci] at hs11
    subst hs11
    obtain ⟨r, hr⟩ : ∃ r, rx rs i = r := ⟨_, rfl⟩
    obtain ⟨g2, J2, hA4, hB2⟩ := HA1.out.get HIR.out
    have hmem : r ∈ rs := hr ▸ qx_mem HIR.out
    obtain ⟨bb, hbb⟩ : ∃ bb, decide (z0 ≤ r ∧ r ≤ z1) = bb := ⟨_, rfl⟩
    have HC2 : Hid (cntC (rs.take (i + 1)) z0 z1 = if bb = true then ci + 1 else ci) := yh (by
     rw [take_succ_rx HIR.out, cnt_snoc, hci, hr, ← hbb]
     by_cases h : z0 ≤ r ∧ r ≤ z1
     ·rw [if_pos h, if_pos (decide_eq_true h)]
     ·rw [if_neg h, if_neg (by simpa using h)]; omega)
    have HBB := yh hbb
    have HB2 := yh hB2
    have HZR : Hid (Rz 1 r) := yh (sml_z (HSML.out r hmem))
    have HR2 : Hid ((RX J2 rs).extract (3 * i) (3 * i + 3) = RC r) := yh (by rw [RX_at HIR.out, hr])
    have hwi : IntKind.i64.wrap ((i : Int) + 1) = (i : Int) + 1 := IntWalk.i64_in _ (by omega)
    have hwc : IntKind.i64.wrap (ci + 1) = ci + 1 := IntWalk.i64_in _ (by omega)
    first | subst hA4 | (injection hA4 with hA4; injection hA4 with hA4; subst hA4)
    clear hci hr hmem hbb hB2
    go_upto_region 11 with fail
    refine rgT [] HSR.out ?_
    refine iX 3 i hin ?_
    refine Seq.loadAtF rfl rfl rfl rfl HB2.out (n := 3) (cs' := RC r) (RX_room HIR.out) (by kernel_rfl) HR2.out (nZ ?_)
    refine aL3 ?_
    intro b13 _ _ hb13
    refine nZ ?_
    refine sV (RC_one _) ?_
    refine dh1 b13 fun w9 HS9=>?_
    clear HSR
    go_upto_region 12 with fail
    refine rgT [] HS9.out ?_
    iterate 2 refine lV ?_
    refine cX rfl rfl (has_q (k := 1) HT3.out HZ0.out HZ1.out HZR.out HLE.out HBB.out (by omega)) ?_
    refine Seq.done fun w10 hws => ?_
    have HS10 : Hid (St w3 [(b10, 32, VC z0 z1), (gq, 27, RX [] qp)] w10) := yh hws.st.drop
    clear hws HS9
    cases bb
    all_goals
     go_wp2_with fail
     go_roundg (nn - (i + 1))
     case measure => rw [HGK.out]; omega
     case rel => exact ⟨i + 1, rfl, congrArg (Value.int .i64) HC2.out.symm, by go_num, by omega, HS10⟩
   ·obtain rfl : i = nn := by omega
    rw [List.take_of_length_le (by rw [HNN.out]; exact Nat.le_refl _)] at hs11
    obtain ⟨ct, hct⟩ : ∃ ct, cntC rs z0 z1 = ct := ⟨_, rfl⟩
    rw [hct] at hs11
    subst hs11
    obtain ⟨cc, cs, l2, D, hR, hRT, -, hP, -⟩ := roots_ex HPO.out HASC.out
    obtain ⟨cd, ds, hR2⟩ := rdy_ex (pol_one HASC.out HSML.out (by rw [HNN.out]; exact hn5))
    have HRD := yh hR
    have HRT := yh hRT
    have HRE := yh hR2
    have HL2 : Hid (l2.length = i) := yh (by rw [hP.len]; exact HNN.out)
    have HC1 : Hid (CtR cs (z0, z1) = ct) := yh (by rw [hR.cnt _ _ HLE.out, hct])
    have HC2 : Hid (CtR ds (z0, z1) = ct) := yh (by rw [hR2.cnt _ _ HLE.out, hct])
    have HY0 : Hid (Rz 300 z0) := yh (HZ0.out.more (by omega))
    have HY1 : Hid (Rz 300 z1) := yh (HZ1.out.more (by omega))
    clear hR hRT hP hR2 hct
    go_upto_region 15 with fail
    refine wp_seq_textC 1 [] rfl rfl rfl (StR.no HSR.out) ?_
    refine pU ?_
    refine dnH fun w7 HST7=>?_
    clear HSR
    refine ⟨wants_none rfl, ?_⟩
    refine w_call (vs := #[.slice (some ⟨gq, 0, none⟩) lq lq]) rfl rfl (by kernel_rfl) (roots_S (c := lq) w7 (.inr ⟨gq, [], rfl, (HST7.out.blk (gq, 27, RX [] qp) (by repeat first|exact mC|apply mT)).2⟩) HQL.out HRT.out (tabS HT3.out HST7.out) (Nat.le_refl _)) fun e w8 h9 => ?_
    obtain ⟨v9, e9, hb9, A3, c3, hv9, -⟩ := h9
    rw [HL2.out] at hv9
    subst hv9
    have HS8 := yh (HST7.out.next hb9)
    refine ⟨_, e9, ?_⟩
    clear e9 hb9 HST7 HRT
    simp only [Act.eval, Act.put, List.setIfInBounds_toArray, List.set_cons_zero, List.set_cons_succ]
    refine ⟨wants_none rfl, w_mov rfl ?_⟩
    simp only [Act.eval, Act.put, List.setIfInBounds_toArray, List.set_cons_zero, List.set_cons_succ]
    refine ⟨wants_none rfl, w_ext (vs := #[.slice A3 i c3, .int .i64 0]) rfl rfl rfl ?_⟩
    simp only [Act.eval, Act.put, List.setIfInBounds_toArray, List.set_cons_zero, List.set_cons_succ]
    refine ⟨wants_none rfl, w_ext (vs := #[.slice A3 i c3, .int .i64 0]) rfl rfl rfl ?_⟩
    simp only [Act.eval, Act.put, List.setIfInBounds_toArray, List.set_cons_zero, List.set_cons_succ]
    refine ⟨wants_none rfl, st_asg rfl ?_⟩
    simp only [Act.eval, Act.put, List.setIfInBounds_toArray, List.set_cons_zero, List.set_cons_succ]
    refine ⟨wants_none rfl, st_asg rfl ?_⟩
    unfold chainW
    simp only [Act.eval, Act.put, List.setIfInBounds_toArray, List.set_cons_zero, List.set_cons_succ]
    go_upto_region 16 with fail
    refine rgT [] HS8.out ?_
    refine pU ?_
    refine lV ?_
    refine cX rfl rfl (fun w' h' => count_S (c := lq) w' (.inr ⟨gq, [], rfl, (h'.blk (gq, 27, RX [] qp) (by repeat first|exact mC|apply mT)).2⟩) HQL.out HRD.out.rd HY0.out HY1.out HLE.out (HRD.out.szc _ HY0.out) (HRD.out.szc _ HY1.out) HC1.out (tabS HT3.out h')) ?_
    iterate 5 refine pU ?_
    refine dnH fun _ HS9=>?_
    clear HS8
    go_upto_region 17 with fail
    refine rgT [] HS9.out ?_
    refine pU ?_
    refine lV ?_
    refine cX rfl rfl (fun w' h' => count_S (c := c2) w' (HA2.out.next h'.below) HPL.out HRE.out.rd HY0.out HY1.out HLE.out (HRE.out.szc _ HY0.out) (HRE.out.szc _ HY1.out) HC2.out (tabS HT3.out h')) ?_
    iterate 5 refine pU ?_
    refine dnH fun _ HS10=>?_
    clear HS9
    go_upto_region 18 with fail
    refine rgT [] HS10.out ?_
    iterate 28 refine pU ?_
    refine Seq.done fun w11 hws => ?_
    have HS11 : Hid (Below w.heap.size w w11) := yh (HBW.out.trans (hws.st.below.mono HBW.out.size))
    clear hws HS10
    go_wp2_with fail
    go_ret
    exact ⟨rfl, HS11.out⟩
end Go.Proofs.YtmchjmflkaiakaaGreatDoor
