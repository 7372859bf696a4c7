/- SturmSigns (printed by stw.py). -/
import Derived.Test.YtmchjmflkaiakaaGreatDoorSoF
import Derived.Deep.LoopGhost
import Derived.OwnWalk
set_option maxHeartbeats 8000000
set_option maxRecDepth 20000
namespace Go.Proofs.YtmchjmflkaiakaaGreatDoor
open Go.RowKit
set_option linter.unusedVariables false
set_option linter.unusedSimpArgs false
theorem ev_small {p : Ply} {x : Rat} (hz : Qz 7 p) (hl : p.length ≤ 7) (hx : Rz 300 x) : Rz 4000 (ev p x) :=
 (ev_z hx p hz).more (by have := Nat.mul_le_mul_right (7 + 300 + 1) hl; omega)
theorem sturmSigns_int  {A0 : Option Addr} {n0 c0 : Nat} {xs0 : List Int} (w : World) (hi0 : Ints w A0 n0 c0 xs0) (hT : Tab w) :
  Calls Tryz.prog 4 #[.slice A0 n0 c0] w fun e w' => e = .returned (.bool true) ∧ Below w.heap.size w w' := by
 have HI := yh hi0; clear hi0
 have HT := yh hT; clear hT
 have HS0 : Hid (St w [] w) := yh St.start
 go_enter Tryz.func4, Tryz.ntmps4
 go_upto_region 1 with fail
 refine rgT [] HS0.out ?_
 refine cX rfl rfl (sturmBegun_q HT.out) ?_
 refine pU ?_
 refine dnH fun _ HST1=>?_
 clear HS0
 go_upto_region 3 with fail
 refine wp_seq_textC 1 [] rfl rfl rfl (StR.no HST1.out) ?_
 refine pU ?_
 refine dnH fun w2 HST2=>?_
 clear HST1
 refine ⟨wants_none rfl, ?_⟩
 refine w_call (vs := #[.slice A0 n0 c0]) rfl rfl (by kernel_rfl) (rooted_S (m := min n0 5) w2 (HI.out.nextN HST2.out.below) rfl (tabS HT.out HST2.out)) fun e w3 h9 => ?_
 obtain ⟨rs, h9⟩ := h9
 obtain ⟨A1, A2, c1, c2, e9, hA1, hA2⟩ := h9.ret
 have HBW : Hid (Below w.heap.size w w3) := yh (HST2.out.below.trans (h9.below.mono HST2.out.below.size))
 have HT3 := yh (HT.out.next HBW.out)
 have HASC := yh h9.asc
 have HSML := yh h9.sml
 have hfw := h9.few
 have HA1 := yh hA1
 have HA2 := yh hA2
 obtain ⟨nn, hnn⟩ : ∃ nn, rs.length = nn := ⟨_, rfl⟩
 rw [hnn] at e9 hfw
 have hn5 : nn ≤ 5 := by omega
 have HNN := yh hnn
 refine ⟨_, e9, ?_⟩
 clear e9 hA1 hA2 h9 hnn hfw HST2 HT HI
 simp only [Act.eval, Act.put, List.setIfInBounds_toArray, List.set_cons_zero, List.set_cons_succ]
 refine ⟨wants_none rfl, w_mov rfl ?_⟩
 simp only [Act.eval, Act.put, List.setIfInBounds_toArray, List.set_cons_zero, List.set_cons_succ]
 refine ⟨wants_none rfl, w_ext (vs := #[.slice A1 nn c1, .slice A2 (nn + 1) c2]) rfl rfl rfl ?_⟩
 simp only [Act.eval, Act.put, List.setIfInBounds_toArray, List.set_cons_zero, List.set_cons_succ]
 refine ⟨wants_none rfl, w_ext (vs := #[.slice A1 nn c1, .slice A2 (nn + 1) c2]) rfl rfl rfl ?_⟩
 simp only [Act.eval, Act.put, List.setIfInBounds_toArray, List.set_cons_zero, List.set_cons_succ]
 refine ⟨wants_none rfl, st_asg rfl ?_⟩
 simp only [Act.eval, Act.put, List.setIfInBounds_toArray, List.set_cons_zero, List.set_cons_succ]
 refine ⟨wants_none rfl, st_asg rfl ?_⟩
 unfold chainW
 simp only [Act.eval, Act.put, List.setIfInBounds_toArray, List.set_cons_zero, List.set_cons_succ]
 have HS3 : Hid (St w3 [] w3) := yh St.start
 obtain ⟨cc, cs, l2, D, hR, hRT, hE, hP, hDD⟩ := roots_ex (pol_one HASC.out HSML.out (by rw [HNN.out]; exact hn5)) HASC.out
 have HRD := yh hR
 have HRT := yh hRT
 have HE := yh hE
 have HP := yh hP
 have HL2 : Hid (l2.length = nn) := yh (by rw [hP.len]; exact HNN.out)
 have HPL : Hid ((rootL [1] rs).length = nn + 1) := yh (by rw [(root_one_len rs).1, HNN.out])
 have HPZ := yh (root_z HSML.out (by rw [HNN.out]; omega))
 have HDD : Hid (0 < D ∧ D < 256 ^ 6) := yh hDD
 clear hR hRT hE hP hDD
 go_upto_region 4 with fail
 refine wp_seq_textC 1 [] rfl rfl rfl (StR.no HS3.out) ?_
 refine pU ?_
 refine dnH fun w4 HST4=>?_
 clear HS3
 refine ⟨wants_none rfl, ?_⟩
 refine w_call (vs := #[.slice A2 ((nn + 1 : Nat)) c2]) rfl rfl (by kernel_rfl) (roots_S (c := c2) w4 (HA2.out.next HST4.out.below) HPL.out HRT.out (tabS HT3.out HST4.out) (Nat.le_refl _)) fun e w5 h9 => ?_
 obtain ⟨v9, e9, hb9, A3, c3, hv9, hsb⟩ := h9
 rw [HL2.out] at hv9
 subst hv9
 have HB5 : Hid (Below w3.heap.size w3 w5) := yh (HST4.out.below.trans (hb9.mono HST4.out.below.size))
 have HBW5 : Hid (Below w.heap.size w w5) := yh (HBW.out.trans (HB5.out.mono HBW.out.size))
 have HT5 := yh (HT3.out.next HB5.out)
 have HA15 := yh (HA1.out.next HB5.out)
 have HA25 := yh (HA2.out.next HB5.out)
 have HSB := yh hsb
 refine ⟨_, e9, ?_⟩
 clear e9 hb9 hsb HST4 HBW HB5 HT3 HA1 HA2 HRT
 simp only [Act.eval, Act.put, List.setIfInBounds_toArray, List.set_cons_zero, List.set_cons_succ]
 refine ⟨wants_none rfl, w_mov rfl ?_⟩
 simp only [Act.eval, Act.put, List.setIfInBounds_toArray, List.set_cons_zero, List.set_cons_succ]
 refine ⟨wants_none rfl, w_ext (vs := #[.slice A3 nn c3, .int .i64 0]) rfl rfl rfl ?_⟩
 simp only [Act.eval, Act.put, List.setIfInBounds_toArray, List.set_cons_zero, List.set_cons_succ]
 refine ⟨wants_none rfl, w_ext (vs := #[.slice A3 nn c3, .int .i64 0]) rfl rfl rfl ?_⟩
 simp only [Act.eval, Act.put, List.setIfInBounds_toArray, List.set_cons_zero, List.set_cons_succ]
 refine ⟨wants_none rfl, st_asg rfl ?_⟩
 simp only [Act.eval, Act.put, List.setIfInBounds_toArray, List.set_cons_zero, List.set_cons_succ]
 refine ⟨wants_none rfl, st_asg rfl ?_⟩
 unfold chainW
 simp only [Act.eval, Act.put, List.setIfInBounds_toArray, List.set_cons_zero, List.set_cons_succ]
 have HS5 : Hid (St w5 [] w5) := yh St.start
 go_upto_region 5 with fail
 refine rgT [] HS5.out ?_
 iterate 9 refine pU ?_
 refine dnH fun _ HS6=>?_
 clear HS5
 go_upto_region 7 with fail
 refine rgT [] HS6.out ?_
 refine pU ?_
 refine dnH fun _ HS7=>?_
 clear HS6
 rcases (show nn % 2 = 1 ∨ nn % 2 = 0 by omega) with hp | hp
 focus
  have hrm : (nn : Int).tmod 2 = 1 := by rw [Int.tmod_eq_emod_of_nonneg (by omega)]; omega
  have HSG : Hid (sgI nn = -1) := yh (by unfold sgI; rw [if_neg (by omega)])
  go_upto_region 8 with fail
  refine rgT [] HS7.out ?_
  iterate 2 refine pU ?_
  refine pV (.int .i64 1) (by intro w; go_simp <;> (first | (rw [hrm]; done) | exact hrm | (simp [hrm]; done) | omega)) ?_
  refine pU ?_
  refine Seq.done fun w8 hws => ?_
  have HS8' := yh hws.st
  clear hws HS7 hrm hp
  go_upto_region 9 with fail
  refine rgT [] HS8'.out ?_
  refine pU ?_
  refine dnH fun w8 HS8=>?_
  clear HS8'
 rotate_left
 focus
  have hrm : (nn : Int).tmod 2 = 0 := by rw [Int.tmod_eq_emod_of_nonneg (by omega)]; omega
  have HSG : Hid (sgI nn = 1) := yh (by unfold sgI; rw [if_pos hp])
  go_upto_region 8 with fail
  refine rgT [] HS7.out ?_
  iterate 2 refine pU ?_
  refine pV (.int .i64 0) (by intro w; go_simp <;> (first | (rw [hrm]; done) | exact hrm | (simp [hrm]; done) | omega)) ?_
  refine pU ?_
  refine dnH fun _ HS8=>?_
  clear HS7 hrm hp
 rotate_left
 all_goals
  go_upto_region 10 with fail
  refine rgT [] HS8.out ?_
  iterate 3 refine pU ?_
  refine dnH fun _ HS9=>?_
  clear HS8
  go_wp2_with fail
  go_loopg [7, 39] nn (fun kx s7 s39 wr => ∃ i : Nat, kx = nn - i ∧ s7 = .int .i64 (sgI (nn - i)) ∧ s39 = .int .i64 (i : Int) ∧ i ≤ nn ∧ Hid (St w5 [] wr))
  case atStart => exact ⟨0, rfl, by rw [Nat.sub_zero, HSG.out], rfl, Nat.zero_le _, HS9⟩
  case round =>
   clear HS9 HSG
   obtain ⟨i, hgk, hs7, rfl, hile, HSR⟩ := hrel
   have HGK := yh hgk; clear hgk
   by_cases hin : i < nn
   ·have HIL := yh (show i < l2.length by rw [HL2.out]; exact hin)
    obtain ⟨g3, J3, hA3, hB3⟩ : ∃ g J, A3 = some ⟨g, 0, none⟩ ∧ Blk w5 g 32 (PX J l2) := by
     rcases HSB.out with h | h
     ·have := HIL.out
      rw [h] at this
      exact absurd this (Nat.not_lt_zero _)
     ·exact h
    subst hA3
    have HB3 := yh hB3
    obtain ⟨t, ht⟩ : ∃ t, sx l2 i = t := ⟨_, rfl⟩
    have hiso := HP.out.iso i HIL.out
    have hz := prt_z HE.out HDD.out HP.out HIL.out
    rw [ht] at hiso hz
    have HISO := yh hiso
    have HZ1 : Hid (Rz 300 t.1) := yh (hz.1.more (by omega))
    have HZ2 : Hid (Rz 300 t.2) := yh (hz.2.more (by omega))
    have HAT : Hid ((PX J3 l2).extract (6 * i) (6 * i + 6) = VC t.1 t.2) := yh (by rw [PX_at HIL.out, ← ht]; rfl)
    clear hB3 hz hiso
    have HTT := yh ht
    obtain ⟨sg, hsg⟩ : ∃ sg, sgI (nn - i) = sg := ⟨_, rfl⟩
    obtain ⟨sg2, hsg2⟩ : ∃ sg2, sgI (nn - (i + 1)) = sg2 := ⟨_, rfl⟩
    have hneg : sg = -sg2 := by rw [← hsg, ← hsg2, ← sgI_succ]; congr 1; omega
    have hor : sg = 1 ∨ sg = -1 := hsg ▸ sgI_or _
    have hwn : IntKind.i64.wrap (-sg) = sg2 := by rw [show -sg = sg2 by omega]; exact IntWalk.i64_in _ (by omega)
    have HSG2 := yh hsg2
    obtain ⟨lo, hi, e1, e2, b1, b2, b3, b4⟩ := end_signs HASC.out (by rw [HNN.out]; exact hin) HISO.out
    rw [HNN.out, hsg] at b1 b2
    rw [hsg] at hs7
    subst hs7
    have HE1 := yh e1
    have HE2 := yh e2
    obtain ⟨m1, hm1⟩ : ∃ m1, lo * sg = m1 := ⟨_, rfl⟩
    obtain ⟨m2, hm2⟩ : ∃ m2, hi * sg = m2 := ⟨_, rfl⟩
    rw [hm1] at b1
    rw [hm2] at b2
    have hw1 : IntKind.i64.wrap (lo * sg) = m1 := by rw [hm1]; exact IntWalk.i64_in _ (by omega)
    have hw2 : IntKind.i64.wrap (hi * sg) = m2 := by rw [hm2]; exact IntWalk.i64_in _ (by omega)
    have hd1 : decide (m1 < 0) = false := decide_eq_false (by omega)
    have hd2 : decide (0 < m2) = false := decide_eq_false (by omega)
    have hwi : IntKind.i64.wrap ((i : Int) + 1) = (i : Int) + 1 := IntWalk.i64_in _ (by omega)
    have HEZ1 : Hid (EvZ KK (rootL [1] rs) t.1) := yh (root_evz HPZ.out (by rw [HPL.out]; omega) HZ1.out)
    have HEZ2 : Hid (EvZ KK (rootL [1] rs) t.2) := yh (root_evz HPZ.out (by rw [HPL.out]; omega) HZ2.out)
    have HVZ1 : Hid (Rz 4000 (ev (rootL [1] rs) t.1)) := yh (ev_small HPZ.out (by rw [HPL.out]; omega) HZ1.out)
    have HVZ2 : Hid (Rz 4000 (ev (rootL [1] rs) t.2)) := yh (ev_small HPZ.out (by rw [HPL.out]; omega) HZ2.out)
    clear e1 e2 hsg hsg2 hneg hm1 hm2 ht
    go_upto_region 12 with fail
    refine rgT [] HSR.out ?_
    refine pU ?_
    refine iX 6 i hin ?_
    refine Seq.loadAtF rfl rfl rfl rfl HB3.out (n := 6) (cs' := VC t.1 t.2) (PX_room HIL.out) (by kernel_rfl) HAT.out (nZ ?_)
    refine aL6 ?_
    intro b9 _ _ hb9
    refine nZ ?_
    refine pU ?_
    refine sV (VC_one _ _) ?_
    refine dh1 b9 fun _ HS10=>?_
    clear HSR
    go_upto_region 13 with fail
    refine rgW [] HS10.out ?_
    iterate 2 refine pU ?_
    refine lA (RC t.1) ?_
    refine cX rfl rfl (evalP_S (c := c2) HT5.out HA25.out HPL.out HEZ1.out (HZ1.out.more (by decide)) (by omega) (Nat.le_refl _)) ?_
    refine cX rfl rfl (sign_q (k := 4000) HT5.out HVZ1.out HE1.out (by omega)) ?_
    iterate 2 refine pU ?_
    refine lA (RC t.2) ?_
    refine cX rfl rfl (evalP_S (c := c2) HT5.out HA25.out HPL.out HEZ2.out (HZ2.out.more (by decide)) (by omega) (Nat.le_refl _)) ?_
    refine cX rfl rfl (sign_q (k := 4000) HT5.out HVZ2.out HE2.out (by omega)) ?_
    iterate 2 refine pU ?_
    refine dnH fun _ HS11=>?_
    clear HS10
    rcases Nat.eq_zero_or_pos i with h0 | h0
    focus
     have hi0 : decide ((0 : Int) < (i : Int)) = false := decide_eq_false (by omega)
     go_upto_region 14 with fail
     refine rgW [] HS11.out ?_
     iterate 2 refine pU ?_
     refine pV (.int .i64 m1) (by intro w; go_simp <;> (first | (rw [hw1]; done) | exact hw1 | (simp [hw1]; done) | omega)) ?_
     refine pV (.bool false) (by intro w; go_simp <;> (first | (rw [hd1]; done) | exact hd1 | (simp [hd1]; done) | omega)) ?_
     refine pU ?_
     iterate 2 refine pU ?_
     refine pV (.int .i64 m2) (by intro w; go_simp <;> (first | (rw [hw2]; done) | exact hw2 | (simp [hw2]; done) | omega)) ?_
     refine pV (.bool false) (by intro w; go_simp <;> (first | (rw [hd2]; done) | exact hd2 | (simp [hd2]; done) | omega)) ?_
     iterate 3 refine pU ?_
     refine pV (.bool false) (by intro w; go_simp <;> (first | (rw [hi0]; done) | exact hi0 | (simp [hi0]; done) | omega)) ?_
     refine pU ?_
     iterate 10 refine nW ?_
     iterate 2 refine pU ?_
     refine Seq.done fun w12 hws => ?_
     have HS12 : Hid (St w5 [] w12) := yh hws.st.drop
     clear hws HS11 hi0 h0
    rotate_left
    focus
     have hi0 : decide ((0 : Int) < (i : Int)) = true := decide_eq_true (by omega)
     obtain ⟨j, hj⟩ : ∃ j, i = j + 1 := ⟨i - 1, by omega⟩
     have hwj : IntKind.i64.wrap ((i : Int) - 1) = (j : Int) := by rw [show (i : Int) - 1 = (j : Int) by omega]; exact IntWalk.i64_in _ (by omega)
     have hjn : j < nn := by omega
     have HJL := yh (show j < l2.length by rw [HL2.out]; exact hjn)
     have HPY : Hid ((PX J3 l2).extract (6 * j + 3) (6 * j + 3 + 3) = RC (sx l2 j).2) := yh (by rw [PX_hi HJL.out]; rfl)
     have HPR : Hid (6 * j + 3 + 3 ≤ (PX J3 l2).size) := yh (PX_room HJL.out)
     obtain ⟨v, hv⟩ : ∃ v, cmpQ (sx l2 j).2 t.1 = v := ⟨_, rfl⟩
     have hlt : (sx l2 j).2 < t.1 := by
      have h8 := HIL.out
      have := HP.out.prt j (by omega) (by omega)
      rw [← hj, HTT.out] at this
      exact this
     have hvd : decide (0 ≤ v) = false := decide_eq_false (by rw [← hv]; unfold cmpQ; rw [if_pos hlt]; decide)
     have HV := yh hv
     have HJZ : Hid (Rz 300 (sx l2 j).2) := yh ((prt_z HE.out HDD.out HP.out HJL.out).2.more (by omega))
     clear hj hv hlt
     go_upto_region 14 with fail
     refine rgW [] HS11.out ?_
     iterate 2 refine pU ?_
     refine pV (.int .i64 m1) (by intro w; go_simp <;> (first | (rw [hw1]; done) | exact hw1 | (simp [hw1]; done) | omega)) ?_
     refine pV (.bool false) (by intro w; go_simp <;> (first | (rw [hd1]; done) | exact hd1 | (simp [hd1]; done) | omega)) ?_
     refine pU ?_
     iterate 2 refine pU ?_
     refine pV (.int .i64 m2) (by intro w; go_simp <;> (first | (rw [hw2]; done) | exact hw2 | (simp [hw2]; done) | omega)) ?_
     refine pV (.bool false) (by intro w; go_simp <;> (first | (rw [hd2]; done) | exact hd2 | (simp [hd2]; done) | omega)) ?_
     iterate 3 refine pU ?_
     refine pV (.bool true) (by intro w; go_simp <;> (first | (rw [hi0]; done) | exact hi0 | (simp [hi0]; done) | omega)) ?_
     refine pU ?_
     iterate 2 refine pU ?_
     refine pV (.int .i64 (j : Int)) (by intro w; go_simp <;> (first | (rw [hwj]; done) | exact hwj | (simp [hwj]; done) | omega)) ?_
     refine iX 6 j hjn ?_
     refine pV (.pointer (some ⟨g3, 6 * j + 3, none⟩)) (by intro w; go_simp; try rfl) ?_
     refine Seq.loadAtF rfl rfl rfl rfl HB3.out (n := 3) (cs' := RC (sx l2 j).2) HPR.out (by kernel_rfl) HPY.out (nZ ?_)
     refine pU ?_
     refine lA (RC t.1) ?_
     refine cX rfl rfl (cmp_q (k := 300) HT5.out HJZ.out HZ1.out HV.out (by omega)) ?_
     refine pV (.bool false) (by intro w; go_simp <;> (first | (rw [hvd]; done) | exact hvd | (simp [hvd]; done) | omega)) ?_
     iterate 2 refine pU ?_
     refine Seq.done fun w12 hws => ?_
     have HS12 : Hid (St w5 [] w12) := yh hws.st.drop
     clear hws HS11 hi0 hwj hjn hvd h0
    rotate_left
    all_goals
     go_wp2_with fail
     go_roundg (nn - (i + 1))
     case measure => rw [HGK.out]; omega
     case rel => exact ⟨i + 1, rfl, by rw [HSG2.out], by go_num, by omega, HS12⟩
   ·obtain rfl : i = nn := by omega
    go_wp2_with fail
    go_ret
    exact ⟨rfl, HBW5.out.trans (HSR.out.below.mono HBW5.out.size)⟩
end Go.Proofs.YtmchjmflkaiakaaGreatDoor
