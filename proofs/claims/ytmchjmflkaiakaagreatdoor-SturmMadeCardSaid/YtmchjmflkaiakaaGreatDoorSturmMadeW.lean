/- SturmMade (printed by stw.py). -/
import Derived.Test.YtmchjmflkaiakaaGreatDoorSoF
import Derived.Deep.LoopGhost
import Derived.OwnWalk
set_option maxHeartbeats 8000000
set_option maxRecDepth 20000
namespace Go.Proofs.YtmchjmflkaiakaaGreatDoor
open Go.RowKit
set_option linter.unusedVariables false
set_option linter.unusedSimpArgs false
section
variable {P : Program} {ops : Array Oper} {W : World} {l : List Own} {Q : Exit → Act → World → Prop} {gs : List Nat} {k : Nat} {o : Oper} {rest : List Oper} {a : Act} {R : Reg}
theorem Seq.neRN {x y : Rat} {X Y : Operand} {U : TypeId} {b : Bool} (ho : o.op = .binOp .neq 27 X Y U) (hk : kd gs k o = .val) (hw : wants ops o a = true) (hx : a.eval X = .agg (RC x)) (hy : a.eval Y = .agg (RC y))
  (hb : (!decide (x = y)) = b) (h : Seq Tryz.prog ops Q W l gs (k + 1) rest (a.put o.dst (.bool b)) R) : Seq Tryz.prog ops Q W l gs k (o :: rest) a R :=
 Seq.pure hk hw (fun w => by
  unfold execOp
  simp only [ho, hx, hy, Sem.run_bind, run_eqR .neq x y X Y w b (.inr ⟨rfl, hb⟩), Result.andThen_ok, Sem.run_pure]) h
end
theorem wd_ok {m : Nat} {wd : Rat} (h0 : 0 < m) (h1 : m ≤ 1000) (h : ((1 : Int) : Rat) / ((m : Int) : Rat) = wd) : 0 < wd ∧ (1 / 1000 : Rat) ≤ wd ∧ Rz 300 wd := by
 have hm : (0 : Rat) < ((m : Int) : Rat) := by exact_mod_cast h0
 have e : wd * ((m : Int) : Rat) = 1 := by
  rw [← h]
  have := Rat.div_mul_cancel (a := ((1 : Int) : Rat)) (b := ((m : Int) : Rat)) (by grind)
  rw [this]; rfl
 have hm1 : ((m : Int) : Rat) ≤ 1000 := by
  have : ((m : Int) : Rat) ≤ ((1000 : Int) : Rat) := Rat.intCast_le_intCast.2 (by omega)
  exact this
 have p : 0 < wd := by
  rcases (by grind : 0 < wd ∨ wd ≤ 0) with h | h
  ·exact h
  ·have := Rat.mul_nonneg (show 0 ≤ -wd by grind) (Rat.le_of_lt hm)
   grind
 refine ⟨p, ?_, ?_⟩
 ·rcases (by grind : (1 / 1000 : Rat) ≤ wd ∨ wd < 1 / 1000) with h | h
  ·exact h
  ·have h2 := Rat.mul_lt_mul_of_pos_right h hm
   have h3 := Rat.mul_le_mul_of_nonneg_left hm1 (show (0 : Rat) ≤ 1 / 1000 by grind)
   grind
 ·exact (Rz.frac (m := 2) (D := m) (z := 1) h0 (by show wd * ((m : Int) : Rat) = ((1 : Int) : Rat); rw [e]; rfl) (by decide) (by omega)).more (by omega)
theorem sturmMade_int (x0 : Int) {A0 : Option Addr} {n0 c0 : Nat} {xs0 : List Int} (w : World) (hi0 : Ints w A0 n0 c0 xs0) (hx0 : -9223372036854775808 ≤ x0) (hx1 : x0 ≤ 9223372036854775807) (hT : Tab w) :
  Calls Tryz.prog 6 #[.slice A0 n0 c0, .int .i64 x0] w fun e w' => e = .returned (.bool true) ∧ Below w.heap.size w w' := by
 have HI := yh hi0; clear hi0
 have HT := yh hT; clear hT
 have HS0 : Hid (St w [] w) := yh St.start
 go_enter Tryz.func6, Tryz.ntmps6
 go_upto_region 1 with fail
 refine rgT [] HS0.out ?_
 refine cX rfl rfl (sturmBegun_q HT.out) ?_
 refine pU ?_
 refine dnH fun _ HST1=>?_
 clear HS0
 go_upto_region 3 with fail
 refine wp_seq_textC 1 [] rfl rfl rfl (StR.no HST1.out) ?_
 refine pU ?_
 refine dnH fun w2 HST2=>?_
 clear HST1
 refine ⟨wants_none rfl, ?_⟩
 refine w_call (vs := #[.slice A0 n0 c0]) rfl rfl (by kernel_rfl) (rooted_S (m := min n0 5) w2 (HI.out.nextN HST2.out.below) rfl (tabS HT.out HST2.out)) fun e w3 h9 => ?_
 obtain ⟨rs, h9⟩ := h9
 obtain ⟨A1, A2, c1, c2, e9, hA1, hA2⟩ := h9.ret
 have HBW : Hid (Below w.heap.size w w3) := yh (HST2.out.below.trans (h9.below.mono HST2.out.below.size))
 have HT3 := yh (HT.out.next HBW.out)
 have HASC := yh h9.asc
 have HSML := yh h9.sml
 have hfw := h9.few
 have HA1 := yh hA1
 have HA2 := yh hA2
 obtain ⟨nn, hnn⟩ : ∃ nn, rs.length = nn := ⟨_, rfl⟩
 rw [hnn] at e9 hfw
 have hn5 : nn ≤ 5 := by omega
 have HNN := yh hnn
 refine ⟨_, e9, ?_⟩
 clear e9 hA1 hA2 h9 hnn hfw HST2 HT HI
 simp only [Act.eval, Act.put, List.setIfInBounds_toArray, List.set_cons_zero, List.set_cons_succ]
 refine ⟨wants_none rfl, w_mov rfl ?_⟩
 simp only [Act.eval, Act.put, List.setIfInBounds_toArray, List.set_cons_zero, List.set_cons_succ]
 refine ⟨wants_none rfl, w_ext (vs := #[.slice A1 nn c1, .slice A2 (nn + 1) c2]) rfl rfl rfl ?_⟩
 simp only [Act.eval, Act.put, List.setIfInBounds_toArray, List.set_cons_zero, List.set_cons_succ]
 refine ⟨wants_none rfl, w_ext (vs := #[.slice A1 nn c1, .slice A2 (nn + 1) c2]) rfl rfl rfl ?_⟩
 simp only [Act.eval, Act.put, List.setIfInBounds_toArray, List.set_cons_zero, List.set_cons_succ]
 refine ⟨wants_none rfl, st_asg rfl ?_⟩
 simp only [Act.eval, Act.put, List.setIfInBounds_toArray, List.set_cons_zero, List.set_cons_succ]
 refine ⟨wants_none rfl, st_asg rfl ?_⟩
 unfold chainW
 simp only [Act.eval, Act.put, List.setIfInBounds_toArray, List.set_cons_zero, List.set_cons_succ]
 have HS3 : Hid (St w3 [] w3) := yh St.start
 obtain ⟨cc, cs, l2, D, hR, hRT, hE, hP, hDD⟩ := roots_ex (pol_one HASC.out HSML.out (by rw [HNN.out]; exact hn5)) HASC.out
 have HRD := yh hR
 have HRT := yh hRT
 have HE := yh hE
 have HP := yh hP
 have HL2 : Hid (l2.length = nn) := yh (by rw [hP.len]; exact HNN.out)
 have HPL : Hid ((rootL [1] rs).length = nn + 1) := yh (by rw [(root_one_len rs).1, HNN.out])
 have HPZ := yh (root_z HSML.out (by rw [HNN.out]; omega))
 have HDD : Hid (0 < D ∧ D < 256 ^ 6) := yh hDD
 clear hR hRT hE hP hDD
 go_upto_region 4 with fail
 refine wp_seq_textC 1 [] rfl rfl rfl (StR.no HS3.out) ?_
 refine pU ?_
 refine dnH fun w4 HST4=>?_
 clear HS3
 refine ⟨wants_none rfl, ?_⟩
 refine w_call (vs := #[.slice A2 ((nn + 1 : Nat)) c2]) rfl rfl (by kernel_rfl) (roots_S (c := c2) w4 (HA2.out.next HST4.out.below) HPL.out HRT.out (tabS HT3.out HST4.out) (Nat.le_refl _)) fun e w5 h9 => ?_
 obtain ⟨v9, e9, hb9, A3, c3, hv9, hsb⟩ := h9
 rw [HL2.out] at hv9
 subst hv9
 have HB5 : Hid (Below w3.heap.size w3 w5) := yh (HST4.out.below.trans (hb9.mono HST4.out.below.size))
 have HBW5 : Hid (Below w.heap.size w w5) := yh (HBW.out.trans (HB5.out.mono HBW.out.size))
 have HT5 := yh (HT3.out.next HB5.out)
 have HA15 := yh (HA1.out.next HB5.out)
 have HA25 := yh (HA2.out.next HB5.out)
 have HSB := yh hsb
 refine ⟨_, e9, ?_⟩
 clear e9 hb9 hsb HST4 HBW HB5 HT3 HA1 HA2 HRT
 simp only [Act.eval, Act.put, List.setIfInBounds_toArray, List.set_cons_zero, List.set_cons_succ]
 refine ⟨wants_none rfl, w_mov rfl ?_⟩
 simp only [Act.eval, Act.put, List.setIfInBounds_toArray, List.set_cons_zero, List.set_cons_succ]
 refine ⟨wants_none rfl, w_ext (vs := #[.slice A3 nn c3, .int .i64 0]) rfl rfl rfl ?_⟩
 simp only [Act.eval, Act.put, List.setIfInBounds_toArray, List.set_cons_zero, List.set_cons_succ]
 refine ⟨wants_none rfl, w_ext (vs := #[.slice A3 nn c3, .int .i64 0]) rfl rfl rfl ?_⟩
 simp only [Act.eval, Act.put, List.setIfInBounds_toArray, List.set_cons_zero, List.set_cons_succ]
 refine ⟨wants_none rfl, st_asg rfl ?_⟩
 simp only [Act.eval, Act.put, List.setIfInBounds_toArray, List.set_cons_zero, List.set_cons_succ]
 refine ⟨wants_none rfl, st_asg rfl ?_⟩
 unfold chainW
 simp only [Act.eval, Act.put, List.setIfInBounds_toArray, List.set_cons_zero, List.set_cons_succ]
 have HS5 : Hid (St w5 [] w5) := yh St.start
 go_upto_region 5 with fail
 refine rgT [] HS5.out ?_
 iterate 9 refine pU ?_
 refine dnH fun _ HS6=>?_
 clear HS5
 have hjl := belowN_lt x0 (show 0 < 1000 by omega)
 obtain ⟨j, hj⟩ : ∃ j, belowN x0 1000 = j := ⟨_, rfl⟩
 rw [hj] at hjl
 obtain ⟨m, hm⟩ : ∃ m, m = j + 1 := ⟨_, rfl⟩
 have hm0 : 0 < m := by omega
 have hm1 : m ≤ 1000 := by omega
 have hwm : IntKind.i64.wrap (1 + (j : Int)) = (m : Int) := by rw [show 1 + (j : Int) = (m : Int) by omega]; exact IntWalk.i64_in _ (by omega)
 obtain ⟨wd, hwd⟩ : ∃ wd, ((1 : Int) : Rat) / ((m : Int) : Rat) = wd := ⟨_, rfl⟩
 obtain ⟨p1, p2, p3⟩ := wd_ok hm0 hm1 hwd
 have HW0 := yh p1
 have HW1 := yh p2
 have HWZ := yh p3
 have HWD := yh hwd
 have HJ := yh hj
 clear hj hm hwd p1 p2 p3
 go_upto_region 7 with fail
 refine rgT [] HS6.out ?_
 refine pU ?_
 refine cX rfl rfl (below_G (n := 1000) ⟨hx0, hx1⟩ (by omega) HJ.out) ?_
 refine pV (.int .i64 (m : Int)) (by intro w; go_simp <;> (first | (rw [hwm]; done) | exact hwm | (simp [hwm]; done) | omega)) ?_
 refine cX rfl rfl (num_q (m := 1) (n := (m : Int)) HT5.out (by decide) (by omega) (by omega) HWD.out) ?_
 refine aL3 ?_
 intro b9 _ _ hb9
 refine nZ ?_
 refine sV (RC_one _) ?_
 refine dh1 b9 fun _ HS7=>?_
 clear HS6 hwm
 go_upto_region 8 with fail
 refine rgT [] HS7.out ?_
 iterate 3 refine pU ?_
 refine dnH fun _ HS8=>?_
 clear HS7
 go_wp2_with fail
 go_loopg [41] nn (fun kx s41 wr => ∃ i : Nat, kx = nn - i ∧ s41 = .int .i64 (i : Int) ∧ i ≤ nn ∧ Hid (St w5 [(b9, 27, RC wd)] wr))
 case atStart => exact ⟨0, rfl, rfl, Nat.zero_le _, HS8⟩
 case round =>
  clear HS8
  obtain ⟨i, hgk, rfl, hile, HSR⟩ := hrel
  have HGK := yh hgk; clear hgk
  by_cases hin : i < nn
  ·have HIL := yh (show i < l2.length by rw [HL2.out]; exact hin)
   obtain ⟨g3, J3, hA3, hB3⟩ : ∃ g J, A3 = some ⟨g, 0, none⟩ ∧ Blk w5 g 32 (PX J l2) := by
    rcases HSB.out with h | h
    ·have := HIL.out
     rw [h] at this
     exact absurd this (Nat.not_lt_zero _)
    ·exact h
   subst hA3
   have HB3 := yh hB3
   obtain ⟨t, ht⟩ : ∃ t, sx l2 i = t := ⟨_, rfl⟩
   have hiso := HP.out.iso i HIL.out
   have hz := prt_z HE.out HDD.out HP.out HIL.out
   rw [ht] at hiso hz
   have HISO := yh hiso
   have HZ1 : Hid (Rz 300 t.1) := yh (hz.1.more (by omega))
   have HZ2 : Hid (Rz 300 t.2) := yh (hz.2.more (by omega))
   have HAT : Hid ((PX J3 l2).extract (6 * i) (6 * i + 6) = VC t.1 t.2) := yh (by rw [PX_at HIL.out, ← ht]; rfl)
   clear hB3 hz hiso
   have HTT := yh ht
   have HIR := yh (show i < rs.length by rw [HNN.out]; exact hin)
   obtain ⟨g1, J1, rfl, hB1⟩ := HA15.out.get HIR.out
   have HB1 := yh hB1; clear hB1
   obtain ⟨r, hr⟩ : ∃ r, rx rs i = r := ⟨_, rfl⟩
   have hmem : r ∈ rs := hr ▸ qx_mem HIR.out
   have HISR : Hid (Iso rs t r) := yh (by rw [← hr]; exact HISO.out)
   obtain ⟨q1, q2, q3, q4⟩ := iso_one HASC.out HISR.out
   have HC1 : Hid (CtR cs (t.1, t.2) = 1) := yh (by rw [HRD.out.cnt _ _ q3, q4])
   have HLT := yh q3
   obtain ⟨fn, t2, f1, f2, f3, f4, f5⟩ := fine_at (W := [1]) HE.out HP.out HW1.out HIL.out
   rw [ht] at f1
   have f2r : Iso rs t2 r := by rw [← hr]; exact f2
   obtain ⟨u1, u2, u3, -⟩ := iso_one HASC.out f2r
   have HF1 := yh f1
   have HF4 := yh f4
   have HF5 := yh f5
   have HU3 := yh u3
   have HH1 : Hid (decide (t.1 ≤ r ∧ r ≤ t.2) = true) := yh (decide_eq_true ⟨q1, q2⟩)
   have HH2 : Hid (decide (t2.1 ≤ r ∧ r ≤ t2.2) = true) := yh (decide_eq_true ⟨u1, u2⟩)
   obtain ⟨df, hdf⟩ : ∃ df, t2.2 - t2.1 = df := ⟨_, rfl⟩
   have HDF := yh hdf
   have HDZ : Hid (Rz (KK + KK + 1) df) := yh (hdf ▸ f5.sub1 f4)
   obtain ⟨cv, hcv⟩ : ∃ cv, cmpQ df wd = cv := ⟨_, rfl⟩
   have hcd : decide (0 < cv) = false := decide_eq_false (by rw [← hcv]; have := cmp_le (hdf ▸ f3); omega)
   have HCV := yh hcv
   have HZR : Hid (Rz 1 r) := yh (sml_z (HSML.out r hmem))
   have HEZ : Hid (EvZ KK (rootL [1] rs) r) := yh (root_evz HPZ.out (by rw [HPL.out]; omega) (HZR.out.more (by omega)))
   have HEV : Hid (ev (rootL [1] rs) r = 0) := yh (by rw [ev_root, prd_zero.2 hmem]; grind)
   have HRR : Hid ((RX J1 rs).extract (3 * i) (3 * i + 3) = RC r) := yh (by rw [RX_at HIR.out, hr])
   have HKK : Hid (KK ≤ 1000000000000) := yh (Nat.le_refl _)
   have HK2 : Hid (KK + KK + 1 ≤ 4398046511104) := yh (by decide)
   have HK1 : Hid (1 ≤ KK) := yh (by decide)
   have HK3 : Hid (300 ≤ KK) := yh (by decide)
   have hwi : IntKind.i64.wrap ((i : Int) + 1) = (i : Int) + 1 := IntWalk.i64_in _ (by omega)
   have hne : decide (¬ (0 : Rat) = 0) = false := by simp
   clear ht hr q1 q2 q3 q4 f1 f2 f3 f4 f5 f2r u1 u2 u3 hdf hcv hmem
   go_upto_region 10 with fail
   refine rgT [] HSR.out ?_
   refine pU ?_
   refine iX 3 i hin ?_
   refine Seq.loadAtF rfl rfl rfl rfl HB1.out (n := 3) (cs' := RC r) (RX_room HIR.out) (by kernel_rfl) HRR.out (nZ ?_)
   refine aL3 ?_
   intro b11 _ _ hb11
   refine nZ ?_
   refine pU ?_
   refine sV (RC_one _) ?_
   refine dh1 b11 fun _ HS9=>?_
   clear HSR
   go_upto_region 11 with fail
   refine rgW [] HS9.out ?_
   iterate 3 refine pU ?_
   refine iX 6 i hin ?_
   refine Seq.loadAtF rfl rfl rfl rfl HB3.out (n := 6) (cs' := VC t.1 t.2) (PX_room HIL.out) (by kernel_rfl) HAT.out (nZ ?_)
   refine lV ?_
   refine cX rfl rfl (fun w' h' => fine_S (c := c2) (s := t) w' (HA25.out.next h'.below) HPL.out HRD.out.rd HZ1.out HZ2.out HLT.out (HRD.out.szc _ HZ1.out) (HRD.out.szc _ HZ2.out) HC1.out HW0.out HWZ.out HF1.out (tabS HT5.out h')) ?_
   iterate 3 refine pU ?_
   refine aL6 ?_
   intro b12 _ _ hb12
   refine nZ ?_
   refine sV (VC_one _ _) ?_
   refine pU ?_
   refine dh1 b12 fun _ HS10=>?_
   clear HS9
   go_upto_region 12 with fail
   refine rgW [] HS10.out ?_
   iterate 5 refine pU ?_
   refine iX 6 i hin ?_
   refine Seq.loadAtF rfl rfl rfl rfl HB3.out (n := 6) (cs' := VC t.1 t.2) (PX_room HIL.out) (by kernel_rfl) HAT.out (nZ ?_)
   refine lV ?_
   refine cX rfl rfl (has_q (k := 300) HT5.out HZ1.out HZ2.out (HZR.out.more (by omega)) HLT.out HH1.out (by omega)) ?_
   iterate 3 refine pU ?_
   iterate 2 refine lV ?_
   refine cX rfl rfl (has_q (k := KK) HT5.out HF4.out HF5.out (HZR.out.more HK1.out) HU3.out HH2.out HKK.out) ?_
   iterate 3 refine pU ?_
   refine pU ?_
   refine lA (RC t2.2) ?_
   refine pU ?_
   refine lA (RC t2.1) ?_
   refine cX rfl rfl (sub_q (k := KK) HT5.out HF5.out HF4.out HDF.out (by have := HKK.out; omega)) ?_
   refine lV ?_
   refine cX rfl rfl (cmp_q (k := KK + KK + 1) HT5.out HDZ.out (HWZ.out.more (by have := HK3.out; omega)) HCV.out HK2.out) ?_
   refine pV (.bool false) (by intro w; go_simp <;> (first | (rw [hcd]; done) | exact hcd | (simp [hcd]; done) | omega)) ?_
   iterate 3 refine pU ?_
   refine lV ?_
   refine cX rfl rfl (evalP_S (c := c2) HT5.out HA25.out HPL.out HEZ.out (HZR.out.more HK1.out) (by omega) HKK.out) ?_
   refine cX rfl rfl (of_q (z := (0 : Rat)) HT5.out (by omega) (by omega) rfl) ?_
   refine Seq.neRN (x := ev (rootL [1] rs) r) (y := 0) (b := false) rfl rfl rfl rfl rfl (by rw [HEV.out]; rfl) (nZ ?_)
   refine pU ?_
   refine Seq.done fun w11 hws => ?_
   have HS11 : Hid (St w5 [(b9, 27, RC wd)] w11) := yh hws.st.drop.drop
   clear hws HS10 hcd
   go_wp2_with fail
   go_roundg (nn - (i + 1))
   case measure => rw [HGK.out]; omega
   case rel => exact ⟨i + 1, rfl, by go_num, by omega, HS11⟩
  ·obtain rfl : i = nn := by omega
   go_wp2_with fail
   go_ret
   exact ⟨rfl, HBW5.out.trans (HSR.out.below.mono HBW5.out.size)⟩
end Go.Proofs.YtmchjmflkaiakaaGreatDoor
