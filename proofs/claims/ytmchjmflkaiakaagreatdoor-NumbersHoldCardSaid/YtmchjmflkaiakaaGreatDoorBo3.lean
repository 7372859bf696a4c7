import Derived.Test.YtmchjmflkaiakaaGreatDoorBo2
/- border.exact, under, over (printed by lawvec.py). -/
namespace Go.Proofs.YtmchjmflkaiakaaGreatDoor
open Go.RowKit
set_option linter.unusedVariables false
set_option linter.unusedSimpArgs false
set_option maxHeartbeats 2000000
set_option maxRecDepth 20000
variable {W : World} {l : List Own}
theorem pw_le {a b : Nat} (h : a ≤ b) : pw a ≤ pw b := Nat.pow_le_pow_right (by omega) h
theorem pw_rz {n : Nat} (hn : n ≤ 1100) : Rz 150 ((pw n : Nat) : Rat) := by
 have e1 : (((pw n : Nat) : Rat)).num = (pw n : Int) := Rat.num_natCast _
 have e2 : (((pw n : Nat) : Rat)).den = 1 := Rat.den_natCast _
 refine ⟨?_, ?_⟩
 ·rw [e1, Int.natAbs_natCast]
  unfold Sz
  rw [bstr_length_le]
  have e : (256 : Nat) ^ 150 = pw 1100 * pw 100 := by decide +kernel
  have h2 : 1 < pw 100 := by decide +kernel
  have h3 : pw 1100 * 1 < pw 1100 * pw 100 := Nat.mul_lt_mul_of_pos_left h2 (pw_pos 1100)
  rw [e]
  exact Nat.lt_of_le_of_lt (pw_le hn) (by rw [Nat.mul_one] at h3; exact h3)
 ·rw [e2]; exact Sz.one.more (by omega)
theorem m_rz {m : Nat} (hm : m < 9007199254740992) : Rz 8 ((m : Int) : Rat) := Rz.intQ (bstr_length_le.2 (by rw [Int.natAbs_natCast]; omega)) (by omega)
theorem exM_lt (b : Nat) : exM b < 9007199254740992 := by unfold exM; split <;> omega
theorem exE_pos (b : Nat) : 1 ≤ exE b := by unfold exE; split <;> omega
theorem exE_le {b : Nat} (h : b ≤ 9218868437227405312) : exE b ≤ 2047 := by unfold exE; split <;> omega
theorem ex_rz {b : Nat} (h : b ≤ 9218868437227405312) : Rz 158 (ex b) := by
 have h1 := exE_pos b
 have h2 := exE_le h
 by_cases hc : 1075 ≤ exE b
 ·rw [← ex_hi hc]
  exact (m_rz (exM_lt b)).mul (pw_rz (by omega))
 ·rw [← ex_lo (by omega)]
  exact (m_rz (exM_lt b)).div (pw_rz (by omega)) (pw_ne _)
theorem i64_sm (x : Int) (h0 : 0 ≤ x) (h1 : x ≤ 9223372036854775807) : IntKind.i64.wrap x = x := IntWalk.i64_in _ (by omega)
theorem exact_q {b : Nat} {z0 : Rat} (hT : Tab W) (hb : b ≤ 9218868437227405312) (hz0 : ex b = z0) (w : World) (h : St W l w) :
  Calls Tryz.prog 87 #[.int .u64 (b : Int)] w fun e w' => e = .returned (.agg (RC z0)) ∧ Below w.heap.size w w' := by
 subst hz0
 have HT := Lib.hid (tabS hT h)
 clear hT h
 have hE := exE_le hb
 have hE1 := exE_pos b
 have hM := exM_lt b
 obtain ⟨e0, he0⟩ : ∃ e0 : Nat, b / 4503599627370496 = e0 := ⟨_, rfl⟩
 obtain ⟨m0, hm0⟩ : ∃ m0 : Nat, b % 4503599627370496 = m0 := ⟨_, rfl⟩
 have HB := Lib.hid (show ((b : Int) / 4503599627370496 = (e0 : Int) ∧ IntKind.i64.wrap (e0 : Int) = (e0 : Int) ∧ bits BinOp.and IntKind.u64 (b : Int) 4503599627370495 = (m0 : Int)) from
  ⟨by omega, i64_sm _ (by omega) (by omega), by rw [and_mant b (by omega), hm0]⟩)
 by_cases h0 : e0 = 0
 ·have e1 : exE b = 1 := by unfold exE; rw [if_pos (by omega)]
  have e2 : exM b = m0 := by unfold exM; rw [if_pos (by omega)]; exact hm0
  have HX := ex_lo (b := b) (by omega)
  rw [e1, e2] at HX
  rw [e2] at hM
  exact exact_sub (l := l) (n := 1074) (e := 1) HT HB (Lib.hid ⟨rfl, i64_sm _ (by omega) (by omega), by omega⟩) (by rw [h0]; rfl) rfl (by decide) (Lib.hid ⟨rfl, by omega⟩) (Lib.hid (m_rz hM)) (Lib.hid (pw_rz (by omega))) (Lib.hid HX)
 ·have e1 : exE b = e0 := by unfold exE; rw [if_neg (by omega)]; exact he0
  have e2 : exM b = m0 + 4503599627370496 := by unfold exM; rw [if_neg (by omega)]; omega
  have hor := or_mant m0 (by omega)
  rw [e1] at hE hE1
  have HE0 : ((e0 : Int) == 0) = false := by rw [beq_eq_false_iff_ne]; omega
  rw [e2] at hM
  by_cases hc : 1075 ≤ e0
  ·have HX := ex_hi (b := b) (by omega)
   rw [e1, e2] at HX
   exact exact_hi (l := l) (n := e0 - 1075) HT HB (Lib.hid ⟨hor, i64_sm _ (by omega) (by omega), by omega⟩) HE0 rfl (decide_eq_true (by omega)) (Lib.hid ⟨by rw [i64_sm _ (by omega) (by omega)]; omega, by omega⟩) (Lib.hid (m_rz hM)) (Lib.hid (pw_rz (by omega))) (Lib.hid HX)
  ·have HX := ex_lo (b := b) (by omega)
   rw [e1, e2] at HX
   exact exact_lo (l := l) (n := 1075 - e0) HT HB (Lib.hid ⟨hor, i64_sm _ (by omega) (by omega), by omega⟩) HE0 rfl (decide_eq_false (by omega)) (Lib.hid ⟨by rw [i64_sm _ (by omega) (by omega)]; omega, by omega⟩) (Lib.hid (m_rz hM)) (Lib.hid (pw_rz (by omega))) (Lib.hid HX)
theorem und_le {a : Rat} {u m : Nat} (h : Und a u) (hm : m ≤ u) : cmpQ (ex m) a ≤ 0 := by
 have h1 := ex_le hm
 have h2 := h.2.1
 unfold cmpQ
 split
 ·omega
 ·split
  ·grind
  ·omega
theorem und_gt {a : Rat} {u m : Nat} (h : Und a u) (hm : u < m) (hi : m < 9218868437227405312) : ¬ cmpQ (ex m) a ≤ 0 := by
 have h2 : a < ex m := by
  rcases h.2.2 with h3 | h3
  ·omega
  ·have := ex_le (show u + 1 ≤ m by omega); grind
 unfold cmpQ
 split
 ·grind
 ·omega
theorem under_q {k u : Nat} {a : Rat} (hT : Tab W) (Za : Rz k a) (hu : Und a u) (hk : k ≤ 1000000000000) (w : World) (h : St W l w) :
  Calls Tryz.prog 93 #[.agg (RC a)] w fun e w' => e = .returned (.int .u64 (u : Int)) ∧ Below w.heap.size w w' := by
 have HT := Lib.hid (tabS hT h); clear hT h
 have Z_a := Lib.hid Za; clear Za
 have HU := Lib.hid hu; clear hu
 go_enter Tryz.func93, Tryz.ntmps93
 have HS : St w [] w := St.start
 go_upto_region 0 with fail
 refine rgT [] HS ?_
 refine bX (RC a) ?_
 intro bk1 _ _ hbk1_r
 refine nZ ?_
 refine pW ?_
 refine d1 bk1 fun _ HS1=>?_
 clear HS
 go_upto_region 1 with fail
 refine rgT [] HS1 ?_
 iterate 2 refine pW ?_
 refine dS fun _ HS2=>?_
 clear HS1
 go_wp2_with fail
 go_loopg [3, 4] 9218868437227405312 (fun kk s3 s4 wr => ∃ lo hi : Nat, kk = hi - lo ∧ s3 = .int .u64 (lo : Int) ∧ s4 = .int .u64 (hi : Int) ∧ Hid (lo ≤ u ∧ u < hi ∧ hi ≤ 9218868437227405312) ∧ Hid (St w [(bk1, 27, RC a)] wr))
 case atStart => exact ⟨0, 9218868437227405312, rfl, rfl, rfl, Lib.hid ⟨by omega, HU.out.1, by omega⟩, Lib.hid HS2⟩
 case round =>
  obtain ⟨lo, hi, hgk, rfl, rfl, hx, hS⟩ := hrel
  have HGK := Lib.hid hgk; clear hgk
  have HR := hS.out; clear hS
  obtain ⟨hx1, hx2, hx3⟩ := hx.out
  clear hx
  obtain ⟨l1, hl1⟩ : ∃ l1 : Nat, lo + 1 = l1 := ⟨_, rfl⟩
  obtain ⟨s, hs⟩ : ∃ s : Nat, lo + hi = s := ⟨_, rfl⟩
  obtain ⟨m, hm⟩ : ∃ m : Nat, s / 2 = m := ⟨_, rfl⟩
  have hAA : IntKind.u64.wrap ((lo : Int) + 1) = (l1 : Int) ∧ IntKind.u64.wrap ((lo : Int) + (hi : Int)) = (s : Int) ∧ IntKind.u64.wrap ((s : Int).tdiv 2) = (m : Int) ∧ (s : Int).tdiv 2 = (m : Int) := by
   have e : (s : Int).tdiv 2 = (m : Int) := by rw [Int.tdiv_eq_ediv_of_nonneg (by omega)]; omega
   exact ⟨by rw [IntWalk.u64_in _ (by omega)]; omega, by rw [IntWalk.u64_in _ (by omega)]; omega, by rw [e, IntWalk.u64_in _ (by omega)], e⟩
  have HA := Lib.hid hAA; clear hAA
  by_cases hc : l1 < hi
  ·have hc1 : decide (l1 < hi) = true := decide_eq_true hc
   by_cases hy : m ≤ u
   ·obtain ⟨v, hv, hv0⟩ : ∃ v, cmpQ (ex m) a = v ∧ decide (v ≤ 0) = true := ⟨_, rfl, decide_eq_true (und_le HU.out hy)⟩
    have HV := Lib.hid hv; clear hv
    have HM := Lib.hid (show m ≤ 9218868437227405312 ∧ hi - m < hi - lo ∧ True from ⟨by omega, by omega, trivial⟩)
    have HN := Lib.hid (Lib.hid (show m ≤ u ∧ u < hi ∧ hi ≤ 9218868437227405312 from ⟨hy, hx2, hx3⟩))
    clear hx1 hx2 hx3 hl1 hs hm hc hy
    go_upto_region 2 with fail
    refine rgT [] HR ?_
    refine pW ?_
    refine pV (.int .u64 (l1 : Int)) (by intro w; go_simp <;> (first | (rw [HA.out.1]; done) | exact HA.out.1 | (simp [HA.out.1]; done) | (trace_state; done))) ?_
    iterate 2 refine pW ?_
    refine dS fun ws3 HS3=>?_
    clear HR
    go_upto_region 3 with fail
    refine rgT [] HS3 ?_
    iterate 2 refine pW ?_
    refine pV (.int .u64 (s : Int)) (by intro w; go_simp <;> (first | (rw [HA.out.2.1]; done) | exact HA.out.2.1 | (simp [HA.out.2.1]; done) | (trace_state; done))) ?_
    refine pV (.int .u64 (m : Int)) (by intro w; go_simp <;> (first | (rw [HA.out.2.2.1]; done) | (rw [HA.out.2.2.2]; done) | exact HA.out.2.2.1 | exact HA.out.2.2.2 | (simp [HA.out.2.2.1, HA.out.2.2.2]; done) | (trace_state; done))) ?_
    refine pW ?_
    refine dS fun ws4 HS4=>?_
    clear HS3
    go_upto_region 4 with fail
    refine rgW [] HS4 ?_
    refine pW ?_
    refine cL (exact_q HT.out HM.out.1 rfl) ?_
    refine lV ?_
    refine cX rfl rfl (cmp_q (k := (1 * k + 158)) HT.out ((ex_rz HM.out.1).more (by omega)) (Z_a.out.more (by omega)) HV.out (by omega)) ?_
    refine pW ?_
    refine dS fun ws5 HS5=>?_
    clear HS4
    go_upto_region 5 with fail
    refine rgT [] HS5 ?_
    iterate 2 refine pW ?_
    refine dS fun ws6 HS6=>?_
    clear HS5
    go_wp2_with fail
    go_roundg (hi - m)
    case measure => rw [HGK.out]; exact HM.out.2.1
    case rel => exact ⟨m, hi, rfl, rfl, rfl, HN.out, HS6⟩
   ·obtain ⟨v, hv, hv0⟩ : ∃ v, cmpQ (ex m) a = v ∧ decide (v ≤ 0) = false := ⟨_, rfl, decide_eq_false (und_gt HU.out (by omega) (by omega))⟩
    have HV := Lib.hid hv; clear hv
    have HM := Lib.hid (show m ≤ 9218868437227405312 ∧ True ∧ m - lo < hi - lo from ⟨by omega, trivial, by omega⟩)
    have HN := Lib.hid (Lib.hid (show lo ≤ u ∧ u < m ∧ m ≤ 9218868437227405312 from ⟨hx1, by omega, by omega⟩))
    clear hx1 hx2 hx3 hl1 hs hm hc hy
    go_upto_region 2 with fail
    refine rgT [] HR ?_
    refine pW ?_
    refine pV (.int .u64 (l1 : Int)) (by intro w; go_simp <;> (first | (rw [HA.out.1]; done) | exact HA.out.1 | (simp [HA.out.1]; done) | (trace_state; done))) ?_
    iterate 2 refine pW ?_
    refine dS fun ws3 HS3=>?_
    clear HR
    go_upto_region 3 with fail
    refine rgT [] HS3 ?_
    iterate 2 refine pW ?_
    refine pV (.int .u64 (s : Int)) (by intro w; go_simp <;> (first | (rw [HA.out.2.1]; done) | exact HA.out.2.1 | (simp [HA.out.2.1]; done) | (trace_state; done))) ?_
    refine pV (.int .u64 (m : Int)) (by intro w; go_simp <;> (first | (rw [HA.out.2.2.1]; done) | (rw [HA.out.2.2.2]; done) | exact HA.out.2.2.1 | exact HA.out.2.2.2 | (simp [HA.out.2.2.1, HA.out.2.2.2]; done) | (trace_state; done))) ?_
    refine pW ?_
    refine dS fun ws4 HS4=>?_
    clear HS3
    go_upto_region 4 with fail
    refine rgW [] HS4 ?_
    refine pW ?_
    refine cL (exact_q HT.out HM.out.1 rfl) ?_
    refine lV ?_
    refine cX rfl rfl (cmp_q (k := (1 * k + 158)) HT.out ((ex_rz HM.out.1).more (by omega)) (Z_a.out.more (by omega)) HV.out (by omega)) ?_
    refine pW ?_
    refine dS fun _ HS5=>?_
    clear HS4
    go_upto_region 6 with fail
    refine rgT [] HS5 ?_
    iterate 2 refine pW ?_
    refine dS fun _ HS6=>?_
    clear HS5
    go_wp2_with fail
    go_roundg (m - lo)
    case measure => rw [HGK.out]; exact HM.out.2.2
    case rel => exact ⟨lo, m, rfl, rfl, rfl, HN.out, HS6⟩
  ·have hc1 : decide (l1 < hi) = false := decide_eq_false hc
   have HE := Lib.hid (show u = lo by omega)
   clear hx1 hx2 hx3 hl1 hs hm hc
   go_upto_region 2 with fail
   refine rgT [] HR ?_
   refine pW ?_
   refine pV (.int .u64 (l1 : Int)) (by intro w; go_simp <;> (first | (rw [HA.out.1]; done) | exact HA.out.1 | (simp [HA.out.1]; done) | (trace_state; done))) ?_
   iterate 2 refine pW ?_
   refine dS fun _ HS3=>?_
   clear HR
   go_upto_region 7 with fail
   refine rgT [] HS3 ?_
   iterate 2 refine pW ?_
   refine dS fun _ HS4=>?_
   clear HS3
   go_wp2_with fail
   go_ret
   exact ⟨by rw [HE.out]; rfl, HS4.below⟩
theorem over_eq {k u u1 : Nat} {a : Rat} (hT : Tab W) (Za : Rz k a) (hu : Und a u) (hq : ex u = a) (h1 : u1 = u + 1) (hk : k ≤ 1000000000000) (w : World) (h : St W l w) :
  Calls Tryz.prog 94 #[.agg (RC a)] w fun e w' => e = .returned (.int .u64 (u : Int)) ∧ Below w.heap.size w w' := by
 have HT := Lib.hid (tabS hT h); clear hT h
 have Z_a := Lib.hid Za; clear Za
 obtain ⟨v, hv, hv0⟩ : ∃ v, cmpQ (ex u) a = v ∧ decide (v < 0) = false := ⟨_, rfl, by have h2 := hu.2.1; rw [hq]; unfold cmpQ; rw [if_neg (by grind), if_neg (by grind)]; rfl⟩
 have HV := Lib.hid hv; clear hv hq
 have HM := Lib.hid (show u ≤ 9218868437227405312 ∧ IntKind.u64.wrap ((u : Int) + 1) = (u1 : Int) from by have h3 := hu.1; exact ⟨by omega, by rw [IntWalk.u64_in _ (by omega)]; omega⟩)
 have HU := Lib.hid hu; clear hu h1
 go_enter Tryz.func94, Tryz.ntmps94
 have HS : St w [] w := St.start
 go_upto_region 0 with fail
 refine rgT [] HS ?_
 refine bX (RC a) ?_
 intro bk1 _ _ hbk1_r
 refine nZ ?_
 refine pW ?_
 refine d1 bk1 fun _ HS1=>?_
 clear HS
 go_upto_region 1 with fail
 refine rgT [] HS1 ?_
 refine lV ?_
 refine cX rfl rfl (under_q (k := (1 * k + 0)) HT.out (Z_a.out.more (by omega)) HU.out (by omega)) ?_
 refine pW ?_
 refine dS fun _ HS2=>?_
 clear HS1
 go_upto_region 2 with fail
 refine rgW [] HS2 ?_
 refine pW ?_
 refine cL (exact_q HT.out HM.out.1 rfl) ?_
 refine lV ?_
 refine cX rfl rfl (cmp_q (k := (1 * k + 158)) HT.out ((ex_rz HM.out.1).more (by omega)) (Z_a.out.more (by omega)) HV.out (by omega)) ?_
 refine pW ?_
 refine dS fun _ HS3=>?_
 clear HS2
 go_upto_region 4 with fail
 refine rgT [] HS3 ?_
 iterate 2 refine pW ?_
 refine dS fun _ HS4=>?_
 clear HS3
 go_wp2_with fail
 go_ret
 exact ⟨rfl, HS4.below⟩
theorem over_up {k u u1 : Nat} {a : Rat} (hT : Tab W) (Za : Rz k a) (hu : Und a u) (hq : ex u < a) (h1 : u1 = u + 1) (hk : k ≤ 1000000000000) (w : World) (h : St W l w) :
  Calls Tryz.prog 94 #[.agg (RC a)] w fun e w' => e = .returned (.int .u64 (u1 : Int)) ∧ Below w.heap.size w w' := by
 have HT := Lib.hid (tabS hT h); clear hT h
 have Z_a := Lib.hid Za; clear Za
 obtain ⟨v, hv, hv0⟩ : ∃ v, cmpQ (ex u) a = v ∧ decide (v < 0) = true := ⟨_, rfl, by have h2 := hu.2.1; unfold cmpQ; rw [if_pos hq]; rfl⟩
 have HV := Lib.hid hv; clear hv hq
 have HM := Lib.hid (show u ≤ 9218868437227405312 ∧ IntKind.u64.wrap ((u : Int) + 1) = (u1 : Int) from by have h3 := hu.1; exact ⟨by omega, by rw [IntWalk.u64_in _ (by omega)]; omega⟩)
 have HU := Lib.hid hu; clear hu h1
 go_enter Tryz.func94, Tryz.ntmps94
 have HS : St w [] w := St.start
 go_upto_region 0 with fail
 refine rgT [] HS ?_
 refine bX (RC a) ?_
 intro bk1 _ _ hbk1_r
 refine nZ ?_
 refine pW ?_
 refine d1 bk1 fun _ HS1=>?_
 clear HS
 go_upto_region 1 with fail
 refine rgT [] HS1 ?_
 refine lV ?_
 refine cX rfl rfl (under_q (k := (1 * k + 0)) HT.out (Z_a.out.more (by omega)) HU.out (by omega)) ?_
 refine pW ?_
 refine dS fun _ HS2=>?_
 clear HS1
 go_upto_region 2 with fail
 refine rgW [] HS2 ?_
 refine pW ?_
 refine cL (exact_q HT.out HM.out.1 rfl) ?_
 refine lV ?_
 refine cX rfl rfl (cmp_q (k := (1 * k + 158)) HT.out ((ex_rz HM.out.1).more (by omega)) (Z_a.out.more (by omega)) HV.out (by omega)) ?_
 refine pW ?_
 refine dS fun _ HS3=>?_
 clear HS2
 go_upto_region 3 with fail
 refine rgT [] HS3 ?_
 refine pW ?_
 refine pV (.int .u64 (u1 : Int)) (by intro w; go_simp <;> (first | (rw [HM.out.2]; done) | exact HM.out.2 | (simp [HM.out.2]; done) | (trace_state; done))) ?_
 refine pW ?_
 refine dS fun _ HS4=>?_
 clear HS3
 go_upto_region 4 with fail
 refine rgT [] HS4 ?_
 iterate 2 refine pW ?_
 refine dS fun _ HS5=>?_
 clear HS4
 go_wp2_with fail
 go_ret
 exact ⟨rfl, HS5.below⟩
def Ovr (a : Rat) (o : Nat) : Prop := o ≤ 9218868437227405311 ∧ a ≤ ex o ∧ (o = 0 ∨ ex (o - 1) < a)
theorem ovr_und {a : Rat} {o : Nat} (h : Ovr a o) (h0 : 0 ≤ a) : (Und a o ∧ ex o = a) ∨ (∃ u, o = u + 1 ∧ Und a u ∧ ex u < a) := by
 obtain ⟨h1, h2, h3⟩ := h
 rcases rat_tri (ex o) a with h4 | h4 | h4
 ·grind
 ·exact .inl ⟨⟨by omega, by rw [h4]; exact Rat.le_refl, .inr (by rw [← h4]; exact ex_lt (by omega))⟩, h4⟩
 ·right
  rcases h3 with h3 | h3
  ·subst h3; rw [ex_zero] at h4; grind
  ·rcases Nat.eq_zero_or_pos o with h5 | h5
   ·subst h5; rw [ex_zero] at h4; grind
   ·exact ⟨o - 1, by omega, ⟨by omega, by grind, .inr (by rw [show o - 1 + 1 = o by omega]; exact h4)⟩, h3⟩
theorem over_q {k o : Nat} {a : Rat} (hT : Tab W) (Za : Rz k a) (h0 : 0 ≤ a) (ho : Ovr a o) (hk : k ≤ 1000000000000) (w : World) (h : St W l w) :
  Calls Tryz.prog 94 #[.agg (RC a)] w fun e w' => e = .returned (.int .u64 (o : Int)) ∧ Below w.heap.size w w' := by
 rcases ovr_und ho h0 with ⟨h1, h2⟩ | ⟨u, h1, h2, h3⟩
 ·exact over_eq (u1 := o + 1) hT Za h1 h2 rfl hk w h
 ·subst h1
  exact over_up hT Za h2 h3 rfl hk w h
end Go.Proofs.YtmchjmflkaiakaaGreatDoor
