/- Joined texts: ThL Sp7. -/
import Derived.Test.YtmchjmflkaiakaaGreatDoorSp6
import Derived.LoopN
/- Plain laws: cosines and sines of the joint values of a span. -/
namespace Go.Proofs.YtmchjmflkaiakaaGreatDoor
open Go.RowKit
set_option linter.unusedVariables false
set_option linter.unusedSimpArgs false

def fC (x : Rat) : Rat := (1 - x) / (1 + x)
theorem fC_mul {x : Rat} (h : 0 ≤ x) : fC x * (1 + x) = 1 - x := by
 have : 1 + x ≠ 0 := by grind
 unfold fC; exact Rat.div_mul_cancel this
theorem fC_anti {x y : Rat} (h0 : 0 ≤ x) (h : x ≤ y) : fC y ≤ fC x := by
 have hx := fC_mul h0
 have hy := fC_mul (show 0 ≤ y by grind)
 have hp : 0 < (1 + x) * (1 + y) := by
  have := mul_lt_r (show 0 < 1 + x by grind) (show 0 < 1 + y by grind); grind
 refine le_of_mul hp ?_
 have e1 : fC y * ((1 + x) * (1 + y)) = (1 - y) * (1 + x) := by rw [← hy]; grind
 have e2 : fC x * ((1 + x) * (1 + y)) = (1 - x) * (1 + y) := by rw [← hx]; grind
 rw [e1, e2]; grind
theorem fC_cos (p : Rat) : fC (p * p) = cosT false p := by
 unfold fC cosT; simp
theorem sqLo_nonneg (l h : Rat) : 0 ≤ sqLo l h := by
 unfold sqLo
 split
 ·exact Rat.le_refl
 ·exact le_min (sq_nonneg l) (sq_nonneg h)
theorem cos_in {l h p : Rat} (h1 : l ≤ p) (h2 : p ≤ h) : fC (maxQ (l * l) (h * h)) ≤ cosT false p ∧ cosT false p ≤ fC (sqLo l h) := by
 have e := sq_in h1 h2
 rw [← fC_cos]
 exact ⟨fC_anti (sq_nonneg p) e.2, fC_anti (sqLo_nonneg l h) e.1⟩
theorem sin_mul (p : Rat) : sinT p * (1 + p * p) = p + p := by
 unfold sinT; exact Rat.div_mul_cancel (one_sq p)
theorem one_sq_pos (p : Rat) : 0 < 1 + p * p := by have := sq_nonneg p; grind
theorem sin_le {q p : Rat} (h : 0 ≤ (p - q) * (1 - p * q)) : sinT q ≤ sinT p := by
 have hp := sin_mul p
 have hq := sin_mul q
 have h1 := one_sq_pos p
 have h2 := one_sq_pos q
 have hpos : 0 < (1 + p * p) * (1 + q * q) := by have := mul_lt_r h1 h2; grind
 refine le_of_mul hpos ?_
 have e1 : sinT q * ((1 + p * p) * (1 + q * q)) = (q + q) * (1 + p * p) := by rw [← hq]; grind
 have e2 : sinT p * ((1 + p * p) * (1 + q * q)) = (p + p) * (1 + q * q) := by rw [← hp]; grind
 rw [e1, e2]
 have e3 : (p + p) * (1 + q * q) - (q + q) * (1 + p * p) = 2 * ((p - q) * (1 - p * q)) := by grind
 grind
theorem mul_nn {a b : Rat} (h1 : 0 ≤ a) (h2 : 0 ≤ b) : 0 ≤ a * b := by have := mul_le_r h1 h2; grind
theorem mul_pp {a b : Rat} (h1 : a ≤ 0) (h2 : b ≤ 0) : 0 ≤ a * b := by have := mul_ge_r h1 h2; grind
theorem sin_neg1 : sinT (-1) = -1 := by unfold sinT; decide +kernel
theorem sin_pos1 : sinT 1 = 1 := by unfold sinT; decide +kernel
theorem sin_ge (p : Rat) : -1 ≤ sinT p := by
 rw [← sin_neg1]
 refine sin_le ?_
 have e : (p - -1) * (1 - p * -1) = (p + 1) * (p + 1) := by grind
 rw [e]; exact sq_nonneg _
theorem sin_le1 (p : Rat) : sinT p ≤ 1 := by
 rw [← sin_pos1]
 refine sin_le ?_
 have e : (1 - p) * (1 - 1 * p) = (1 - p) * (1 - p) := by grind
 rw [e]; exact sq_nonneg _
theorem sin_low {l h p : Rat} (h1 : l ≤ p) (h2 : p ≤ h) (h0 : ¬ (l ≤ -1 ∧ -1 ≤ h)) : minQ (sinT l) (sinT h) ≤ sinT p := by
 have e1 := min_le_l (sinT l) (sinT h)
 have e2 := min_le_r (sinT l) (sinT h)
 by_cases hh : h < -1
 ·have : sinT h ≤ sinT p := sin_le (mul_pp (by grind) (by
   have := mul_ge_r (show p ≤ -1 by grind) (show h ≤ 0 by grind)
   have h3 : p * h = p * h := rfl
   grind))
  grind
 ·have hl : -1 < l := by grind
  by_cases hpl : p * l ≤ 1
  ·have : sinT l ≤ sinT p := sin_le (mul_nn (by grind) (by grind))
   grind
  ·have hl0 : 0 < l := by
    rcases rat_tri l 0 with h3 | h3 | h3
    ·exfalso
     rcases rat_tri p 0 with h4 | h4 | h4
     ·have a1 := mul_ge_r (show -1 ≤ p by grind) (show l ≤ 0 by grind)
      grind
     ·subst h4; grind
     ·have a1 := mul_ge_r (show 0 ≤ p by grind) (show l ≤ 0 by grind)
      grind
    ·subst h3; grind
    ·exact h3
   have a2 := mul_le_r (show l ≤ h by grind) (show 0 ≤ p by grind)
   have : sinT h ≤ sinT p := sin_le (mul_pp (by grind) (by grind))
   grind
theorem sin_negQ (p : Rat) : sinT (-p) = -sinT p := sin_back p
theorem sin_high {l h p : Rat} (h1 : l ≤ p) (h2 : p ≤ h) (h0 : ¬ (l ≤ 1 ∧ 1 ≤ h)) : sinT p ≤ maxQ (sinT l) (sinT h) := by
 have a := sin_low (l := -h) (h := -l) (p := -p) (by grind) (by grind) (fun e => h0 ⟨by grind, by grind⟩)
 rw [sin_negQ, sin_negQ, sin_negQ] at a
 have e1 := le_max_l (sinT l) (sinT h)
 have e2 := le_max_r (sinT l) (sinT h)
 have e3 : minQ (-sinT h) (-sinT l) = -sinT h ∨ minQ (-sinT h) (-sinT l) = -sinT l := by unfold minQ; split <;> simp
 rcases e3 with e3 | e3 <;> rw [e3] at a <;> grind
def sLo (l h : Rat) : Rat := if l ≤ -1 ∧ -1 ≤ h then -1 else minQ (sinT l) (sinT h)
def sHi (l h : Rat) : Rat := if l ≤ 1 ∧ 1 ≤ h then 1 else maxQ (sinT l) (sinT h)
theorem sin_in {l h p : Rat} (h1 : l ≤ p) (h2 : p ≤ h) : sLo l h ≤ sinT p ∧ sinT p ≤ sHi l h := by
 unfold sLo sHi
 constructor
 ·by_cases h0 : l ≤ -1 ∧ -1 ≤ h
  ·rw [if_pos h0]; exact sin_ge p
  ·rw [if_neg h0]; exact sin_low h1 h2 h0
 ·by_cases h0 : l ≤ 1 ∧ 1 ≤ h
  ·rw [if_pos h0]; exact sin_le1 p
  ·rw [if_neg h0]; exact sin_high h1 h2 h0
theorem jm {a b : Rat} (h : -1 ≤ a) (h2 : b ≤ 1) : minQ a (-1) = -1 ∧ maxQ b 1 = 1 := by
 have e1 := min_le_r a (-1)
 have e2 := le_min h (Rat.le_refl (a := -1))
 have e3 := le_max_r b 1
 have e4 := max_le h2 (Rat.le_refl (a := 1))
 constructor <;> grind
theorem jx {a b : Rat} (h : -1 ≤ a) (h2 : b ≤ 1) : maxQ a (-1) = a ∧ minQ b 1 = b := by
 have e1 := le_max_l a (-1)
 have e2 := max_le (Rat.le_refl (a := a)) h
 have e3 := min_le_l b 1
 have e4 := le_min (Rat.le_refl (a := b)) h2
 constructor <;> grind
theorem Rz.fC {k : Nat} {x : Rat} (h0 : 0 ≤ x) (hx : Rz k x) : Rz (4 * k + 10) (fC x) := by
 unfold Go.Proofs.YtmchjmflkaiakaaGreatDoor.fC
 exact ((Rz.one2.sub hx).div (Rz.one2.add hx) (by grind)).more (by omega)
theorem Rz.sLo {k : Nat} {l h : Rat} (hl : Rz k l) (hh : Rz k h) : Rz (8 * k + 10) (sLo l h) := by
 unfold Go.Proofs.YtmchjmflkaiakaaGreatDoor.sLo; split
 ·exact Rz.neg1.more (by omega)
 ·exact (Rz.sinT hl).min (Rz.sinT hh)
theorem Rz.sHi {k : Nat} {l h : Rat} (hl : Rz k l) (hh : Rz k h) : Rz (8 * k + 10) (sHi l h) := by
 unfold Go.Proofs.YtmchjmflkaiakaaGreatDoor.sHi; split
 ·exact Rz.one2.more (by omega)
 ·exact (Rz.sinT hl).max (Rz.sinT hh)
set_option maxHeartbeats 2000000 in
set_option maxRecDepth 20000 in
theorem cosf_q {k : Nat} {t : Rat} {z0 : Rat} {W : World} {l : List Own} (hT : Tab W) (Zt : Rz k t) (h0 : 0 ≤ t) (hz0 : fC t = z0) (hk : k ≤ 1000000000000) (w : World) (h : St W l w) :
  Calls Tryz.prog 113 #[.agg (RC t)] w fun e w' => e = .returned (.agg (RC z0)) ∧ Below w.heap.size w w' := by
 subst hz0
 have HT := Lib.hid (tabS hT h); clear hT h
 have Z_t := Lib.hid Zt; clear Zt
 go_enter Tryz.func113, Tryz.ntmps113
 have HS : St w [] w := St.start
 go_upto_region 0 with (fail)
 refine rgT [] HS ?_
 refine bX (RC t) ?_
 intro bk1 _ _ hbk1_r
 refine nZ ?_
 refine aL3 ?_
 intro bk2 _ _ hbk2_r
 obtain ⟨_, _, hbk2_r⟩ := Reg.ne2 hbk2_r
 refine nZ ?_
 refine Seq.done fun ws1 hws => ?_
 have HS1 := hws.q2 (p := bk1) (q := bk2)
 clear HS hws
 go_upto_region 1 with (fail)
 refine rgW [] HS1 ?_
 refine cX rfl rfl (of_q HT.out (by omega) (by omega) (show ((1 : Int) : Rat) = (1 : Rat) from rfl)) ?_
 refine lV ?_
 refine cX rfl rfl (sub_q (k := (1 * k + 2)) HT.out ((show Rz 2 (1 : Rat) from Rz.lit (z := 1) rfl (by decide)).more (by omega)) (Z_t.out.more (by omega)) rfl (by omega)) ?_
 refine cX rfl rfl (of_q HT.out (by omega) (by omega) (show ((1 : Int) : Rat) = (1 : Rat) from rfl)) ?_
 refine lV ?_
 refine cX rfl rfl (add_q (k := (1 * k + 2)) HT.out ((show Rz 2 (1 : Rat) from Rz.lit (z := 1) rfl (by decide)).more (by omega)) (Z_t.out.more (by omega)) rfl (by omega)) ?_
 refine cX rfl rfl (div_q (k := (2 * k + 5)) HT.out (((show Rz 2 (1 : Rat) from Rz.lit (z := 1) rfl (by decide)).sub Z_t.out).more (by omega)) (((show Rz 2 (1 : Rat) from Rz.lit (z := 1) rfl (by decide)).add Z_t.out).more (by omega)) (by have := h0; grind) rfl (by omega)) ?_
 refine pU ?_
 refine pV (.agg (RC (fC t))) (fun w => rfl) ?_
 refine pV (.int .i64 0) (fun w => rfl) ?_
 refine aL3 ?_
 intro bk3 _ _ hbk3_r
 refine nZ ?_
 refine sV (RC_one _) ?_
 refine pU ?_
 refine Seq.done fun ws2 hws => ?_
 have HS2 := hws.q1 (p := bk3)
 clear HS1 hws
 go_upto_region 2 with (fail)
 have HPbk2 := HS2.p2
 refine wp_seq_text [] (StR.move (StR.no HPbk2)) ?_
 refine lV ?_
 refine sV (RC_one _) ?_
 refine Seq.done fun ws3 hws => ?_
 have HS3 := hws.q1 (p := bk2)
 clear HS2 hws HPbk2
 go_wp2_with fail
 exact rO HS3 ⟨rfl, HS3.below⟩
theorem mx_nn (l h : Rat) : 0 ≤ maxQ (l * l) (h * h) := by
 have a := sq_nonneg l
 have b := le_max_l (l * l) (h * h)
 grind
set_option maxHeartbeats 2000000 in
set_option maxRecDepth 20000 in
theorem scos_q {k : Nat} {al ah z0 z1 : Rat} {W : World} {l : List Own} (hT : Tab W) (Zal : Rz k al) (Zah : Rz k ah) (hlea : al ≤ ah) (hz0 : fC (maxQ (al * al) (ah * ah)) = z0) (hz1 : fC (sqLo al ah) = z1) (hk : k ≤ 100000000000) (w : World) (h : St W l w) :
  Calls Tryz.prog 66 #[.agg (VC al ah)] w fun e w' => e = .returned (.agg (VC z0 z1)) ∧ Below w.heap.size w w' := by
 subst hz0
 subst hz1
 have HT := Lib.hid (tabS hT h); clear hT h
 have Z_al := Lib.hid Zal; clear Zal
 have Z_ah := Lib.hid Zah; clear Zah
 go_enter Tryz.func66, Tryz.ntmps66
 have HS : St w [] w := St.start
 go_upto_region 0 with (fail)
 refine rgT [] HS ?_
 refine bX (VC al ah) ?_
 intro bk1 _ _ hbk1_r
 refine nZ ?_
 refine aL6 ?_
 intro bk2 _ _ hbk2_r
 obtain ⟨_, _, hbk2_r⟩ := Reg.ne2 hbk2_r
 refine nZ ?_
 refine Seq.done fun ws1 hws => ?_
 have HS1 := hws.q2 (p := bk1) (q := bk2)
 clear HS hws
 go_upto_region 1 with (fail)
 refine rgT [] HS1 ?_
 refine lV ?_
 refine cX rfl rfl (ssq_q (k := (1 * k + 0)) HT.out (Z_al.out.more (by omega)) (Z_ah.out.more (by omega)) hlea rfl rfl (by omega)) ?_
 refine aL6 ?_
 intro bk3 _ _ hbk3_r
 refine nZ ?_
 refine sV (VC_one _ _) ?_
 refine Seq.done fun ws2 hws => ?_
 have HS2 := hws.q1 (p := bk3)
 clear HS1 hws
 go_upto_region 2 with (fail)
 refine rgT [] HS2 ?_
 refine pU ?_
 refine Seq.done fun ws3 hws => ?_
 have HS3 := hws.st
 clear HS2 hws
 go_upto_region 3 with (fail)
 have HPbk2 := HS3.p2
 refine wS [] (Reg.fin.put Reg.fin_no _ _) (StR.move (StR.no HPbk2)) ?_
 iterate 2 refine pU ?_
 refine lA (RC (maxQ (al * al) (ah * ah))) ?_
 refine Seq.callV rfl rfl rfl rfl rfl (by kernel_rfl) (cosf_q (k := (2 * k + 0)) HT.out ((Rz.max (k := (2 * k + 0)) ((Z_al.out.mul Z_al.out).more (by omega)) ((Z_ah.out.mul Z_ah.out).more (by omega))).more (by omega)) (mx_nn al ah) rfl (by omega)) (nZ ?_)
 iterate 2 refine pU ?_
 refine lA (RC (sqLo al ah)) ?_
 refine Seq.callV rfl rfl rfl rfl rfl (by kernel_rfl) (cosf_q (k := (2 * k + 2)) HT.out ((Rz.sqLo (k := (1 * k + 0)) (Z_al.out.more (by omega)) (Z_ah.out.more (by omega))).more (by omega)) (sqLo_nonneg al ah) rfl (by omega)) (nZ ?_)
 refine pV (.agg (VC (fC (maxQ (al * al) (ah * ah))) (fC (sqLo al ah)))) (fun w => bld_Span rfl rfl rfl w) ?_
 refine sV (VC_one _ _) ?_
 refine Seq.done fun ws4 hws => ?_
 have HS4 := hws.q1 (p := bk2)
 clear HS3 hws HPbk2
 go_wp2_with fail
 exact rO HS4 ⟨rfl, HS4.below⟩
set_option maxHeartbeats 4000000 in
set_option maxRecDepth 20000 in
theorem ssin_yy {k : Nat} {al ah : Rat} {W : World} {l : List Own} (hT : Tab W) (Zal : Rz k al) (Zah : Rz k ah) (hlea : al ≤ ah) (h1 : (al ≤ -1 ∧ -1 ≤ ah)) (h2 : (al ≤ 1 ∧ 1 ≤ ah)) (hk : k ≤ 1000000000) (w : World) (h : St W l w) :
  Calls Tryz.prog 67 #[.agg (VC al ah)] w fun e w' => e = .returned (.agg (VC (-1) (1))) ∧ Below w.heap.size w w' := by
 have HT := Lib.hid (tabS hT h); clear hT h
 have Z_al := Lib.hid Zal; clear Zal
 have Z_ah := Lib.hid Zah; clear Zah
 have H1 := Lib.hid (show decide (al ≤ (-1 : Rat) ∧ (-1 : Rat) ≤ ah) = true from decide_eq_true h1); clear h1
 have H2 := Lib.hid (show decide (al ≤ (1 : Rat) ∧ (1 : Rat) ≤ ah) = true from decide_eq_true h2); clear h2
 have HLE := Lib.hid hlea; clear hlea
 obtain ⟨m0, hm0⟩ : ∃ r_, minQ (sinT al) (sinT ah) = r_ := ⟨_, rfl⟩
 obtain ⟨m1, hm1⟩ : ∃ r_, maxQ (sinT al) (sinT ah) = r_ := ⟨_, rfl⟩
 have Z_m0 := Lib.hid (show Rz (8 * k + 10) m0 from hm0 ▸ (Rz.sinT Z_al.out).min (Rz.sinT Z_ah.out))
 have Z_m1 := Lib.hid (show Rz (8 * k + 10) m1 from hm1 ▸ (Rz.sinT Z_al.out).max (Rz.sinT Z_ah.out))
 have g0 : -1 ≤ m0 := hm0 ▸ le_min (sin_ge al) (sin_ge ah)
 have g1 : m1 ≤ 1 := hm1 ▸ max_le (sin_le1 al) (sin_le1 ah)
 have g2 : m0 ≤ m1 := hm0 ▸ hm1 ▸ min_le_max _ _
 have HJ := Lib.hid (show m0 ≤ m1 ∧ minQ m0 (-1) = -1 ∧ maxQ m1 (-1) = m1 ∧ (minQ m0 1 = m0 ∧ minQ (-1) 1 = -1) ∧ (-1 : Rat) ≤ m1 ∧ maxQ m1 1 = 1 ∧ m0 ≤ 1 from
  ⟨g2, (jm g0 g1).1, (jx (a := m1) (b := m1) (by grind) g1).1, ⟨(jx (a := m0) (b := m0) g0 (by grind)).2, (jx (a := -1) (b := -1) Rat.le_refl (by grind)).2⟩, by grind, (jm g0 g1).2, by grind⟩)
 have HX := Lib.hid (show (-1 : Rat) ≤ (1 : Rat) from by grind)
 clear g0 g1 g2
 have HM := Lib.hid (And.intro hm0 hm1)
 clear hm0 hm1
 go_enter Tryz.func67, Tryz.ntmps67
 have HS : St w [] w := St.start
 go_upto_region 0 with (fail)
 refine rgT [] HS ?_
 refine bX (VC al ah) ?_
 intro bk1 _ _ hbk1_r
 refine nZ ?_
 refine aL6 ?_
 intro bk2 _ _ hbk2_r
 obtain ⟨_, _, hbk2_r⟩ := Reg.ne2 hbk2_r
 refine nZ ?_
 refine Seq.done fun ws1 hws => ?_
 have HS1 := hws.q2 (p := bk1) (q := bk2)
 clear HS hws
 go_upto_region 1 with (fail)
 refine wp_seq_text [0, 2] (StR.move (StR.no HS1)) ?_
 refine gV ?_
 refine gV ?_
 refine cX rfl rfl (sjoin_q (k := (1 * k + 0)) HT.out (Z_al.out.more (by omega)) (Z_ah.out.more (by omega)) (Z_al.out.more (by omega)) (Z_ah.out.more (by omega)) HLE.out HLE.out (min_self _) (max_self _) (by omega)) ?_
 refine sV (VC_one _ _) ?_
 refine Seq.done fun ws2 hws => ?_
 have HS2 := hws.q1 (p := bk1)
 clear HS1 hws
 go_upto_region 2 with (fail)
 refine rgW [] HS2 ?_
 refine pU ?_
 refine lA (RC al) ?_
 refine cX rfl rfl (tof_q (k := (1 * k + 0)) HT.out (Z_al.out.more (by omega))  rfl (by omega)) ?_
 refine cX rfl rfl (sin_q (k := (1 * k + 0)) HT.out (Z_al.out.more (by omega)) (fun h => by cases h) rfl (by omega)) ?_
 refine cX rfl rfl (sof_q (k := (8 * k + 10)) HT.out ((Rz.sinT Z_al.out).more (by omega))  rfl rfl (by omega)) ?_
 refine pU ?_
 refine lA (RC ah) ?_
 refine cX rfl rfl (tof_q (k := (1 * k + 0)) HT.out (Z_ah.out.more (by omega))  rfl (by omega)) ?_
 refine cX rfl rfl (sin_q (k := (1 * k + 0)) HT.out (Z_ah.out.more (by omega)) (fun h => by cases h) rfl (by omega)) ?_
 refine cX rfl rfl (sof_q (k := (8 * k + 10)) HT.out ((Rz.sinT Z_ah.out).more (by omega))  rfl rfl (by omega)) ?_
 refine cX rfl rfl (sjoin_q (k := (8 * k + 10)) HT.out ((Rz.sinT Z_al.out).more (by omega)) ((Rz.sinT Z_al.out).more (by omega)) ((Rz.sinT Z_ah.out).more (by omega)) ((Rz.sinT Z_ah.out).more (by omega)) (Rat.le_refl (a := sinT al)) (Rat.le_refl (a := sinT ah)) HM.out.1 HM.out.2 (by omega)) ?_
 refine aL6 ?_
 intro bk3 _ _ hbk3_r
 refine nZ ?_
 refine sV (VC_one _ _) ?_
 refine Seq.done fun ws3 hws => ?_
 have HS3 := hws.q1 (p := bk3)
 clear HS2 hws
 go_upto_region 3 with (fail)
 refine rgT [] HS3 ?_
 refine Seq.slice (n := 2) (e := 3) (cs := #[.int .i64 (-1), .int .i64 1]) rfl rfl (by intro w; go_simp; try rfl) ?_
 intro bk21 _ _ hbk21_r
 refine nZ ?_
 refine pV (.int .i64 2) (by intro w; go_simp; try rfl) ?_
 refine pU ?_
 refine Seq.done fun ws4 hws => ?_
 have HS4 := hws.q1 (p := bk21)
 clear HS3 hws
 go_wp2_with fail
 refine wp_loop_rounds 3 ?_
 rw [rounds_succ]
 go_upto_region 4 with (fail)
 refine rgT [] HS4 ?_
 refine pU ?_
 refine Seq.done fun ws5 hws => ?_
 have HS5 := hws.st
 clear HS4 hws
 go_upto_region 5 with (fail)
 refine rgT [] HS5 ?_
 refine pU ?_
 refine Seq.loadCell rfl rfl rfl rfl (by repeat first|exact mC|apply mT) (v := .int .i64 (-1)) rfl (by kernel_rfl) rfl (nZ ?_)
 refine pU ?_
 refine Seq.done fun ws6 hws => ?_
 have HS6 := hws.st
 clear HS5 hws
 go_upto_region 6 with (fail)
 refine rgT [] HS6 ?_
 refine pU ?_
 refine cX rfl rfl (of_q HT.out (by omega) (by omega) (show ((-1 : Int) : Rat) = (-1 : Rat) from rfl)) ?_
 refine aL3 ?_
 intro bk6 _ _ hbk6_r
 refine nZ ?_
 refine sV (RC_one _) ?_
 refine Seq.done fun ws7 hws => ?_
 have HS7 := hws.q1 (p := bk6)
 clear HS6 hws
 go_upto_region 7 with (fail)
 refine rgT [] HS7 ?_
 refine lV ?_
 refine lV ?_
 refine cX rfl rfl (has_q (k := (1 * k + 2)) HT.out (Z_al.out.more (by omega)) (Z_ah.out.more (by omega)) ((show Rz 2 (-1 : Rat) from Rz.lit (z := -1) rfl (by decide)).more (by omega)) HLE.out H1.out (by omega)) ?_
 refine Seq.done fun ws8 hws => ?_
 have HS8 := hws.st
 clear HS7 hws
 go_upto_region 8 with (fail)
 have HPbk3 := HS8.p2
 refine wS [0] (Reg.fin.put Reg.fin_no _ _) (StR.move (StR.no HPbk3)) ?_
 refine gV ?_
 refine lV ?_
 refine cX rfl rfl (sof_q (k := 2) HT.out ((show Rz 2 (-1 : Rat) from Rz.lit (z := -1) rfl (by decide)).more (by omega))  rfl rfl (by omega)) ?_
 refine cX rfl rfl (sjoin_q (k := (8 * k + 10)) HT.out (Z_m0.out.more (by omega)) (Z_m1.out.more (by omega)) ((show Rz 2 (-1 : Rat) from Rz.lit (z := -1) rfl (by decide)).more (by omega)) ((show Rz 2 (-1 : Rat) from Rz.lit (z := -1) rfl (by decide)).more (by omega)) HJ.out.1 (Rat.le_refl (a := (-1 : Rat))) HJ.out.2.1 HJ.out.2.2.1 (by omega)) ?_
 refine sV (VC_one _ _) ?_
 refine Seq.done fun ws9 hws => ?_
 have HS9 := hws.q1 (p := bk3)
 clear HS8 hws HPbk3
 go_upto_region 9 with (fail)
 refine rgT [] HS9 ?_
 refine pV (.int .i64 1) (by intro w; go_simp; try rfl) ?_
 refine pU ?_
 refine Seq.done fun ws10 hws => ?_
 have HS10 := hws.st
 clear HS9 hws
 go_wp2_with fail
 rw [rounds_succ]
 go_upto_region 4 with (fail)
 refine rgT [] HS10 ?_
 refine pU ?_
 refine Seq.done fun ws11 hws => ?_
 have HS11 := hws.st
 clear HS10 hws
 go_upto_region 5 with (fail)
 refine rgT [] HS11 ?_
 refine pU ?_
 refine Seq.loadCell rfl rfl rfl rfl (by repeat first|exact mC|apply mT) (v := .int .i64 1) rfl (by kernel_rfl) rfl (nZ ?_)
 refine pU ?_
 refine Seq.done fun ws12 hws => ?_
 have HS12 := hws.st
 clear HS11 hws
 go_upto_region 6 with (fail)
 refine rgT [] HS12 ?_
 refine pU ?_
 refine cX rfl rfl (of_q HT.out (by omega) (by omega) (show ((1 : Int) : Rat) = (1 : Rat) from rfl)) ?_
 refine aL3 ?_
 intro bk6_1 _ _ hbk6_1_r
 refine nZ ?_
 refine sV (RC_one _) ?_
 refine Seq.done fun ws13 hws => ?_
 have HS13 := hws.q1 (p := bk6_1)
 clear HS12 hws
 go_upto_region 7 with (fail)
 refine rgT [] HS13 ?_
 refine lV ?_
 refine lV ?_
 refine cX rfl rfl (has_q (k := (1 * k + 2)) HT.out (Z_al.out.more (by omega)) (Z_ah.out.more (by omega)) ((show Rz 2 (1 : Rat) from Rz.lit (z := 1) rfl (by decide)).more (by omega)) HLE.out H2.out (by omega)) ?_
 refine Seq.done fun ws14 hws => ?_
 have HS14 := hws.st
 clear HS13 hws
 go_upto_region 8 with (fail)
 have HPbk3 := HS14.p1
 refine wS [0] (Reg.fin.put Reg.fin_no _ _) (StR.move (StR.no HPbk3)) ?_
 refine gV ?_
 refine lV ?_
 refine cX rfl rfl (sof_q (k := 2) HT.out ((show Rz 2 (1 : Rat) from Rz.lit (z := 1) rfl (by decide)).more (by omega))  rfl rfl (by omega)) ?_
 refine cX rfl rfl (sjoin_q (k := (8 * k + 10)) HT.out (Rz.neg1.more (by omega)) (Z_m1.out.more (by omega)) ((show Rz 2 (1 : Rat) from Rz.lit (z := 1) rfl (by decide)).more (by omega)) ((show Rz 2 (1 : Rat) from Rz.lit (z := 1) rfl (by decide)).more (by omega)) HJ.out.2.2.2.2.1 (Rat.le_refl (a := (1 : Rat))) HJ.out.2.2.2.1.2 HJ.out.2.2.2.2.2.1 (by omega)) ?_
 refine sV (VC_one _ _) ?_
 refine Seq.done fun ws15 hws => ?_
 have HS15 := hws.q1 (p := bk3)
 clear HS14 hws HPbk3
 go_upto_region 9 with (fail)
 refine rgT [] HS15 ?_
 refine pV (.int .i64 2) (by intro w; go_simp; try rfl) ?_
 refine pU ?_
 refine Seq.done fun ws16 hws => ?_
 have HS16 := hws.st
 clear HS15 hws
 go_wp2_with fail
 rw [rounds_succ]
 go_upto_region 4 with (fail)
 refine rgT [] HS16 ?_
 refine pU ?_
 refine Seq.done fun ws17 hws => ?_
 have HS17 := hws.st
 clear HS16 hws
 go_upto_region 10 with (fail)
 have HPbk2 := HS17.p5
 refine wp_seq_text [] (StR.move (StR.no HPbk2)) ?_
 refine lV ?_
 refine sV (VC_one _ _) ?_
 refine Seq.done fun ws18 hws => ?_
 have HS18 := hws.q1 (p := bk2)
 clear HS17 hws HPbk2
 go_wp2_with fail
 exact rO HS18 ⟨rfl, HS18.below⟩
set_option maxHeartbeats 4000000 in
set_option maxRecDepth 20000 in
theorem ssin_yn {k : Nat} {al ah : Rat} {W : World} {l : List Own} (hT : Tab W) (Zal : Rz k al) (Zah : Rz k ah) (hlea : al ≤ ah) (h1 : (al ≤ -1 ∧ -1 ≤ ah)) (h2 : ¬ (al ≤ 1 ∧ 1 ≤ ah)) (hk : k ≤ 1000000000) (w : World) (h : St W l w) :
  Calls Tryz.prog 67 #[.agg (VC al ah)] w fun e w' => e = .returned (.agg (VC (-1) (maxQ (sinT al) (sinT ah)))) ∧ Below w.heap.size w w' := by
 have HT := Lib.hid (tabS hT h); clear hT h
 have Z_al := Lib.hid Zal; clear Zal
 have Z_ah := Lib.hid Zah; clear Zah
 have H1 := Lib.hid (show decide (al ≤ (-1 : Rat) ∧ (-1 : Rat) ≤ ah) = true from decide_eq_true h1); clear h1
 have H2 := Lib.hid (show decide (al ≤ (1 : Rat) ∧ (1 : Rat) ≤ ah) = false from decide_eq_false h2); clear h2
 have HLE := Lib.hid hlea; clear hlea
 obtain ⟨m0, hm0⟩ : ∃ r_, minQ (sinT al) (sinT ah) = r_ := ⟨_, rfl⟩
 obtain ⟨m1, hm1⟩ : ∃ r_, maxQ (sinT al) (sinT ah) = r_ := ⟨_, rfl⟩
 have Z_m0 := Lib.hid (show Rz (8 * k + 10) m0 from hm0 ▸ (Rz.sinT Z_al.out).min (Rz.sinT Z_ah.out))
 have Z_m1 := Lib.hid (show Rz (8 * k + 10) m1 from hm1 ▸ (Rz.sinT Z_al.out).max (Rz.sinT Z_ah.out))
 have g0 : -1 ≤ m0 := hm0 ▸ le_min (sin_ge al) (sin_ge ah)
 have g1 : m1 ≤ 1 := hm1 ▸ max_le (sin_le1 al) (sin_le1 ah)
 have g2 : m0 ≤ m1 := hm0 ▸ hm1 ▸ min_le_max _ _
 have HJ := Lib.hid (show m0 ≤ m1 ∧ minQ m0 (-1) = -1 ∧ maxQ m1 (-1) = m1 ∧ (minQ m0 1 = m0 ∧ minQ (-1) 1 = -1) ∧ (-1 : Rat) ≤ m1 ∧ maxQ m1 1 = 1 ∧ m0 ≤ 1 from
  ⟨g2, (jm g0 g1).1, (jx (a := m1) (b := m1) (by grind) g1).1, ⟨(jx (a := m0) (b := m0) g0 (by grind)).2, (jx (a := -1) (b := -1) Rat.le_refl (by grind)).2⟩, by grind, (jm g0 g1).2, by grind⟩)
 have HX := Lib.hid (show (-1 : Rat) ≤ (1 : Rat) from by grind)
 clear g0 g1 g2
 have HM := Lib.hid (And.intro hm0 hm1)
 rw [hm1]
 clear hm0 hm1
 go_enter Tryz.func67, Tryz.ntmps67
 have HS : St w [] w := St.start
 go_upto_region 0 with (fail)
 refine rgT [] HS ?_
 refine bX (VC al ah) ?_
 intro bk1 _ _ hbk1_r
 refine nZ ?_
 refine aL6 ?_
 intro bk2 _ _ hbk2_r
 obtain ⟨_, _, hbk2_r⟩ := Reg.ne2 hbk2_r
 refine nZ ?_
 refine Seq.done fun ws1 hws => ?_
 have HS1 := hws.q2 (p := bk1) (q := bk2)
 clear HS hws
 go_upto_region 1 with (fail)
 refine wp_seq_text [0, 2] (StR.move (StR.no HS1)) ?_
 refine gV ?_
 refine gV ?_
 refine cX rfl rfl (sjoin_q (k := (1 * k + 0)) HT.out (Z_al.out.more (by omega)) (Z_ah.out.more (by omega)) (Z_al.out.more (by omega)) (Z_ah.out.more (by omega)) HLE.out HLE.out (min_self _) (max_self _) (by omega)) ?_
 refine sV (VC_one _ _) ?_
 refine Seq.done fun ws2 hws => ?_
 have HS2 := hws.q1 (p := bk1)
 clear HS1 hws
 go_upto_region 2 with (fail)
 refine rgW [] HS2 ?_
 refine pU ?_
 refine lA (RC al) ?_
 refine cX rfl rfl (tof_q (k := (1 * k + 0)) HT.out (Z_al.out.more (by omega))  rfl (by omega)) ?_
 refine cX rfl rfl (sin_q (k := (1 * k + 0)) HT.out (Z_al.out.more (by omega)) (fun h => by cases h) rfl (by omega)) ?_
 refine cX rfl rfl (sof_q (k := (8 * k + 10)) HT.out ((Rz.sinT Z_al.out).more (by omega))  rfl rfl (by omega)) ?_
 refine pU ?_
 refine lA (RC ah) ?_
 refine cX rfl rfl (tof_q (k := (1 * k + 0)) HT.out (Z_ah.out.more (by omega))  rfl (by omega)) ?_
 refine cX rfl rfl (sin_q (k := (1 * k + 0)) HT.out (Z_ah.out.more (by omega)) (fun h => by cases h) rfl (by omega)) ?_
 refine cX rfl rfl (sof_q (k := (8 * k + 10)) HT.out ((Rz.sinT Z_ah.out).more (by omega))  rfl rfl (by omega)) ?_
 refine cX rfl rfl (sjoin_q (k := (8 * k + 10)) HT.out ((Rz.sinT Z_al.out).more (by omega)) ((Rz.sinT Z_al.out).more (by omega)) ((Rz.sinT Z_ah.out).more (by omega)) ((Rz.sinT Z_ah.out).more (by omega)) (Rat.le_refl (a := sinT al)) (Rat.le_refl (a := sinT ah)) HM.out.1 HM.out.2 (by omega)) ?_
 refine aL6 ?_
 intro bk3 _ _ hbk3_r
 refine nZ ?_
 refine sV (VC_one _ _) ?_
 refine Seq.done fun ws3 hws => ?_
 have HS3 := hws.q1 (p := bk3)
 clear HS2 hws
 go_upto_region 3 with (fail)
 refine rgT [] HS3 ?_
 refine Seq.slice (n := 2) (e := 3) (cs := #[.int .i64 (-1), .int .i64 1]) rfl rfl (by intro w; go_simp; try rfl) ?_
 intro bk21 _ _ hbk21_r
 refine nZ ?_
 refine pV (.int .i64 2) (by intro w; go_simp; try rfl) ?_
 refine pU ?_
 refine Seq.done fun ws4 hws => ?_
 have HS4 := hws.q1 (p := bk21)
 clear HS3 hws
 go_wp2_with fail
 refine wp_loop_rounds 3 ?_
 rw [rounds_succ]
 go_upto_region 4 with (fail)
 refine rgT [] HS4 ?_
 refine pU ?_
 refine Seq.done fun ws5 hws => ?_
 have HS5 := hws.st
 clear HS4 hws
 go_upto_region 5 with (fail)
 refine rgT [] HS5 ?_
 refine pU ?_
 refine Seq.loadCell rfl rfl rfl rfl (by repeat first|exact mC|apply mT) (v := .int .i64 (-1)) rfl (by kernel_rfl) rfl (nZ ?_)
 refine pU ?_
 refine Seq.done fun ws6 hws => ?_
 have HS6 := hws.st
 clear HS5 hws
 go_upto_region 6 with (fail)
 refine rgT [] HS6 ?_
 refine pU ?_
 refine cX rfl rfl (of_q HT.out (by omega) (by omega) (show ((-1 : Int) : Rat) = (-1 : Rat) from rfl)) ?_
 refine aL3 ?_
 intro bk6 _ _ hbk6_r
 refine nZ ?_
 refine sV (RC_one _) ?_
 refine Seq.done fun ws7 hws => ?_
 have HS7 := hws.q1 (p := bk6)
 clear HS6 hws
 go_upto_region 7 with (fail)
 refine rgT [] HS7 ?_
 refine lV ?_
 refine lV ?_
 refine cX rfl rfl (has_q (k := (1 * k + 2)) HT.out (Z_al.out.more (by omega)) (Z_ah.out.more (by omega)) ((show Rz 2 (-1 : Rat) from Rz.lit (z := -1) rfl (by decide)).more (by omega)) HLE.out H1.out (by omega)) ?_
 refine Seq.done fun ws8 hws => ?_
 have HS8 := hws.st
 clear HS7 hws
 go_upto_region 8 with (fail)
 have HPbk3 := HS8.p2
 refine wS [0] (Reg.fin.put Reg.fin_no _ _) (StR.move (StR.no HPbk3)) ?_
 refine gV ?_
 refine lV ?_
 refine cX rfl rfl (sof_q (k := 2) HT.out ((show Rz 2 (-1 : Rat) from Rz.lit (z := -1) rfl (by decide)).more (by omega))  rfl rfl (by omega)) ?_
 refine cX rfl rfl (sjoin_q (k := (8 * k + 10)) HT.out (Z_m0.out.more (by omega)) (Z_m1.out.more (by omega)) ((show Rz 2 (-1 : Rat) from Rz.lit (z := -1) rfl (by decide)).more (by omega)) ((show Rz 2 (-1 : Rat) from Rz.lit (z := -1) rfl (by decide)).more (by omega)) HJ.out.1 (Rat.le_refl (a := (-1 : Rat))) HJ.out.2.1 HJ.out.2.2.1 (by omega)) ?_
 refine sV (VC_one _ _) ?_
 refine Seq.done fun ws9 hws => ?_
 have HS9 := hws.q1 (p := bk3)
 clear HS8 hws HPbk3
 go_upto_region 9 with (fail)
 refine rgT [] HS9 ?_
 refine pV (.int .i64 1) (by intro w; go_simp; try rfl) ?_
 refine pU ?_
 refine Seq.done fun ws10 hws => ?_
 have HS10 := hws.st
 clear HS9 hws
 go_wp2_with fail
 rw [rounds_succ]
 go_upto_region 4 with (fail)
 refine rgT [] HS10 ?_
 refine pU ?_
 refine Seq.done fun ws11 hws => ?_
 have HS11 := hws.st
 clear HS10 hws
 go_upto_region 5 with (fail)
 refine rgT [] HS11 ?_
 refine pU ?_
 refine Seq.loadCell rfl rfl rfl rfl (by repeat first|exact mC|apply mT) (v := .int .i64 1) rfl (by kernel_rfl) rfl (nZ ?_)
 refine pU ?_
 refine Seq.done fun ws12 hws => ?_
 have HS12 := hws.st
 clear HS11 hws
 go_upto_region 6 with (fail)
 refine rgT [] HS12 ?_
 refine pU ?_
 refine cX rfl rfl (of_q HT.out (by omega) (by omega) (show ((1 : Int) : Rat) = (1 : Rat) from rfl)) ?_
 refine aL3 ?_
 intro bk6_1 _ _ hbk6_1_r
 refine nZ ?_
 refine sV (RC_one _) ?_
 refine Seq.done fun ws13 hws => ?_
 have HS13 := hws.q1 (p := bk6_1)
 clear HS12 hws
 go_upto_region 7 with (fail)
 refine rgT [] HS13 ?_
 refine lV ?_
 refine lV ?_
 refine cX rfl rfl (has_q (k := (1 * k + 2)) HT.out (Z_al.out.more (by omega)) (Z_ah.out.more (by omega)) ((show Rz 2 (1 : Rat) from Rz.lit (z := 1) rfl (by decide)).more (by omega)) HLE.out H2.out (by omega)) ?_
 refine Seq.done fun ws14 hws => ?_
 have HS14 := hws.st
 clear HS13 hws
 go_upto_region 9 with (fail)
 refine rgT [] HS14 ?_
 refine pV (.int .i64 2) (by intro w; go_simp; try rfl) ?_
 refine pU ?_
 refine Seq.done fun ws15 hws => ?_
 have HS15 := hws.st
 clear HS14 hws
 go_wp2_with fail
 rw [rounds_succ]
 go_upto_region 4 with (fail)
 refine rgT [] HS15 ?_
 refine pU ?_
 refine Seq.done fun ws16 hws => ?_
 have HS16 := hws.st
 clear HS15 hws
 go_upto_region 10 with (fail)
 have HPbk2 := HS16.p5
 refine wp_seq_text [] (StR.move (StR.no HPbk2)) ?_
 refine lV ?_
 refine sV (VC_one _ _) ?_
 refine Seq.done fun ws17 hws => ?_
 have HS17 := hws.q1 (p := bk2)
 clear HS16 hws HPbk2
 go_wp2_with fail
 exact rO HS17 ⟨rfl, HS17.below⟩
set_option maxHeartbeats 4000000 in
set_option maxRecDepth 20000 in
theorem ssin_ny {k : Nat} {al ah : Rat} {W : World} {l : List Own} (hT : Tab W) (Zal : Rz k al) (Zah : Rz k ah) (hlea : al ≤ ah) (h1 : ¬ (al ≤ -1 ∧ -1 ≤ ah)) (h2 : (al ≤ 1 ∧ 1 ≤ ah)) (hk : k ≤ 1000000000) (w : World) (h : St W l w) :
  Calls Tryz.prog 67 #[.agg (VC al ah)] w fun e w' => e = .returned (.agg (VC (minQ (sinT al) (sinT ah)) (1))) ∧ Below w.heap.size w w' := by
 have HT := Lib.hid (tabS hT h); clear hT h
 have Z_al := Lib.hid Zal; clear Zal
 have Z_ah := Lib.hid Zah; clear Zah
 have H1 := Lib.hid (show decide (al ≤ (-1 : Rat) ∧ (-1 : Rat) ≤ ah) = false from decide_eq_false h1); clear h1
 have H2 := Lib.hid (show decide (al ≤ (1 : Rat) ∧ (1 : Rat) ≤ ah) = true from decide_eq_true h2); clear h2
 have HLE := Lib.hid hlea; clear hlea
 obtain ⟨m0, hm0⟩ : ∃ r_, minQ (sinT al) (sinT ah) = r_ := ⟨_, rfl⟩
 obtain ⟨m1, hm1⟩ : ∃ r_, maxQ (sinT al) (sinT ah) = r_ := ⟨_, rfl⟩
 have Z_m0 := Lib.hid (show Rz (8 * k + 10) m0 from hm0 ▸ (Rz.sinT Z_al.out).min (Rz.sinT Z_ah.out))
 have Z_m1 := Lib.hid (show Rz (8 * k + 10) m1 from hm1 ▸ (Rz.sinT Z_al.out).max (Rz.sinT Z_ah.out))
 have g0 : -1 ≤ m0 := hm0 ▸ le_min (sin_ge al) (sin_ge ah)
 have g1 : m1 ≤ 1 := hm1 ▸ max_le (sin_le1 al) (sin_le1 ah)
 have g2 : m0 ≤ m1 := hm0 ▸ hm1 ▸ min_le_max _ _
 have HJ := Lib.hid (show m0 ≤ m1 ∧ minQ m0 (-1) = -1 ∧ maxQ m1 (-1) = m1 ∧ (minQ m0 1 = m0 ∧ minQ (-1) 1 = -1) ∧ (-1 : Rat) ≤ m1 ∧ maxQ m1 1 = 1 ∧ m0 ≤ 1 from
  ⟨g2, (jm g0 g1).1, (jx (a := m1) (b := m1) (by grind) g1).1, ⟨(jx (a := m0) (b := m0) g0 (by grind)).2, (jx (a := -1) (b := -1) Rat.le_refl (by grind)).2⟩, by grind, (jm g0 g1).2, by grind⟩)
 have HX := Lib.hid (show m0 ≤ (1 : Rat) from by grind)
 clear g0 g1 g2
 have HM := Lib.hid (And.intro hm0 hm1)
 rw [hm0]
 clear hm0 hm1
 go_enter Tryz.func67, Tryz.ntmps67
 have HS : St w [] w := St.start
 go_upto_region 0 with (fail)
 refine rgT [] HS ?_
 refine bX (VC al ah) ?_
 intro bk1 _ _ hbk1_r
 refine nZ ?_
 refine aL6 ?_
 intro bk2 _ _ hbk2_r
 obtain ⟨_, _, hbk2_r⟩ := Reg.ne2 hbk2_r
 refine nZ ?_
 refine Seq.done fun ws1 hws => ?_
 have HS1 := hws.q2 (p := bk1) (q := bk2)
 clear HS hws
 go_upto_region 1 with (fail)
 refine wp_seq_text [0, 2] (StR.move (StR.no HS1)) ?_
 refine gV ?_
 refine gV ?_
 refine cX rfl rfl (sjoin_q (k := (1 * k + 0)) HT.out (Z_al.out.more (by omega)) (Z_ah.out.more (by omega)) (Z_al.out.more (by omega)) (Z_ah.out.more (by omega)) HLE.out HLE.out (min_self _) (max_self _) (by omega)) ?_
 refine sV (VC_one _ _) ?_
 refine Seq.done fun ws2 hws => ?_
 have HS2 := hws.q1 (p := bk1)
 clear HS1 hws
 go_upto_region 2 with (fail)
 refine rgW [] HS2 ?_
 refine pU ?_
 refine lA (RC al) ?_
 refine cX rfl rfl (tof_q (k := (1 * k + 0)) HT.out (Z_al.out.more (by omega))  rfl (by omega)) ?_
 refine cX rfl rfl (sin_q (k := (1 * k + 0)) HT.out (Z_al.out.more (by omega)) (fun h => by cases h) rfl (by omega)) ?_
 refine cX rfl rfl (sof_q (k := (8 * k + 10)) HT.out ((Rz.sinT Z_al.out).more (by omega))  rfl rfl (by omega)) ?_
 refine pU ?_
 refine lA (RC ah) ?_
 refine cX rfl rfl (tof_q (k := (1 * k + 0)) HT.out (Z_ah.out.more (by omega))  rfl (by omega)) ?_
 refine cX rfl rfl (sin_q (k := (1 * k + 0)) HT.out (Z_ah.out.more (by omega)) (fun h => by cases h) rfl (by omega)) ?_
 refine cX rfl rfl (sof_q (k := (8 * k + 10)) HT.out ((Rz.sinT Z_ah.out).more (by omega))  rfl rfl (by omega)) ?_
 refine cX rfl rfl (sjoin_q (k := (8 * k + 10)) HT.out ((Rz.sinT Z_al.out).more (by omega)) ((Rz.sinT Z_al.out).more (by omega)) ((Rz.sinT Z_ah.out).more (by omega)) ((Rz.sinT Z_ah.out).more (by omega)) (Rat.le_refl (a := sinT al)) (Rat.le_refl (a := sinT ah)) HM.out.1 HM.out.2 (by omega)) ?_
 refine aL6 ?_
 intro bk3 _ _ hbk3_r
 refine nZ ?_
 refine sV (VC_one _ _) ?_
 refine Seq.done fun ws3 hws => ?_
 have HS3 := hws.q1 (p := bk3)
 clear HS2 hws
 go_upto_region 3 with (fail)
 refine rgT [] HS3 ?_
 refine Seq.slice (n := 2) (e := 3) (cs := #[.int .i64 (-1), .int .i64 1]) rfl rfl (by intro w; go_simp; try rfl) ?_
 intro bk21 _ _ hbk21_r
 refine nZ ?_
 refine pV (.int .i64 2) (by intro w; go_simp; try rfl) ?_
 refine pU ?_
 refine Seq.done fun ws4 hws => ?_
 have HS4 := hws.q1 (p := bk21)
 clear HS3 hws
 go_wp2_with fail
 refine wp_loop_rounds 3 ?_
 rw [rounds_succ]
 go_upto_region 4 with (fail)
 refine rgT [] HS4 ?_
 refine pU ?_
 refine Seq.done fun ws5 hws => ?_
 have HS5 := hws.st
 clear HS4 hws
 go_upto_region 5 with (fail)
 refine rgT [] HS5 ?_
 refine pU ?_
 refine Seq.loadCell rfl rfl rfl rfl (by repeat first|exact mC|apply mT) (v := .int .i64 (-1)) rfl (by kernel_rfl) rfl (nZ ?_)
 refine pU ?_
 refine Seq.done fun ws6 hws => ?_
 have HS6 := hws.st
 clear HS5 hws
 go_upto_region 6 with (fail)
 refine rgT [] HS6 ?_
 refine pU ?_
 refine cX rfl rfl (of_q HT.out (by omega) (by omega) (show ((-1 : Int) : Rat) = (-1 : Rat) from rfl)) ?_
 refine aL3 ?_
 intro bk6 _ _ hbk6_r
 refine nZ ?_
 refine sV (RC_one _) ?_
 refine Seq.done fun ws7 hws => ?_
 have HS7 := hws.q1 (p := bk6)
 clear HS6 hws
 go_upto_region 7 with (fail)
 refine rgT [] HS7 ?_
 refine lV ?_
 refine lV ?_
 refine cX rfl rfl (has_q (k := (1 * k + 2)) HT.out (Z_al.out.more (by omega)) (Z_ah.out.more (by omega)) ((show Rz 2 (-1 : Rat) from Rz.lit (z := -1) rfl (by decide)).more (by omega)) HLE.out H1.out (by omega)) ?_
 refine Seq.done fun ws8 hws => ?_
 have HS8 := hws.st
 clear HS7 hws
 go_upto_region 9 with (fail)
 refine rgT [] HS8 ?_
 refine pV (.int .i64 1) (by intro w; go_simp; try rfl) ?_
 refine pU ?_
 refine Seq.done fun ws9 hws => ?_
 have HS9 := hws.st
 clear HS8 hws
 go_wp2_with fail
 rw [rounds_succ]
 go_upto_region 4 with (fail)
 refine rgT [] HS9 ?_
 refine pU ?_
 refine Seq.done fun ws10 hws => ?_
 have HS10 := hws.st
 clear HS9 hws
 go_upto_region 5 with (fail)
 refine rgT [] HS10 ?_
 refine pU ?_
 refine Seq.loadCell rfl rfl rfl rfl (by repeat first|exact mC|apply mT) (v := .int .i64 1) rfl (by kernel_rfl) rfl (nZ ?_)
 refine pU ?_
 refine Seq.done fun ws11 hws => ?_
 have HS11 := hws.st
 clear HS10 hws
 go_upto_region 6 with (fail)
 refine rgT [] HS11 ?_
 refine pU ?_
 refine cX rfl rfl (of_q HT.out (by omega) (by omega) (show ((1 : Int) : Rat) = (1 : Rat) from rfl)) ?_
 refine aL3 ?_
 intro bk6_1 _ _ hbk6_1_r
 refine nZ ?_
 refine sV (RC_one _) ?_
 refine Seq.done fun ws12 hws => ?_
 have HS12 := hws.q1 (p := bk6_1)
 clear HS11 hws
 go_upto_region 7 with (fail)
 refine rgT [] HS12 ?_
 refine lV ?_
 refine lV ?_
 refine cX rfl rfl (has_q (k := (1 * k + 2)) HT.out (Z_al.out.more (by omega)) (Z_ah.out.more (by omega)) ((show Rz 2 (1 : Rat) from Rz.lit (z := 1) rfl (by decide)).more (by omega)) HLE.out H2.out (by omega)) ?_
 refine Seq.done fun ws13 hws => ?_
 have HS13 := hws.st
 clear HS12 hws
 go_upto_region 8 with (fail)
 have HPbk3 := HS13.p3
 refine wS [0] (Reg.fin.put Reg.fin_no _ _) (StR.move (StR.no HPbk3)) ?_
 refine gV ?_
 refine lV ?_
 refine cX rfl rfl (sof_q (k := 2) HT.out ((show Rz 2 (1 : Rat) from Rz.lit (z := 1) rfl (by decide)).more (by omega))  rfl rfl (by omega)) ?_
 refine cX rfl rfl (sjoin_q (k := (8 * k + 10)) HT.out (Z_m0.out.more (by omega)) (Z_m1.out.more (by omega)) ((show Rz 2 (1 : Rat) from Rz.lit (z := 1) rfl (by decide)).more (by omega)) ((show Rz 2 (1 : Rat) from Rz.lit (z := 1) rfl (by decide)).more (by omega)) HJ.out.1 (Rat.le_refl (a := (1 : Rat))) HJ.out.2.2.2.1.1 HJ.out.2.2.2.2.2.1 (by omega)) ?_
 refine sV (VC_one _ _) ?_
 refine Seq.done fun ws14 hws => ?_
 have HS14 := hws.q1 (p := bk3)
 clear HS13 hws HPbk3
 go_upto_region 9 with (fail)
 refine rgT [] HS14 ?_
 refine pV (.int .i64 2) (by intro w; go_simp; try rfl) ?_
 refine pU ?_
 refine Seq.done fun ws15 hws => ?_
 have HS15 := hws.st
 clear HS14 hws
 go_wp2_with fail
 rw [rounds_succ]
 go_upto_region 4 with (fail)
 refine rgT [] HS15 ?_
 refine pU ?_
 refine Seq.done fun ws16 hws => ?_
 have HS16 := hws.st
 clear HS15 hws
 go_upto_region 10 with (fail)
 have HPbk2 := HS16.p5
 refine wp_seq_text [] (StR.move (StR.no HPbk2)) ?_
 refine lV ?_
 refine sV (VC_one _ _) ?_
 refine Seq.done fun ws17 hws => ?_
 have HS17 := hws.q1 (p := bk2)
 clear HS16 hws HPbk2
 go_wp2_with fail
 exact rO HS17 ⟨rfl, HS17.below⟩
set_option maxHeartbeats 4000000 in
set_option maxRecDepth 20000 in
theorem ssin_nn {k : Nat} {al ah : Rat} {W : World} {l : List Own} (hT : Tab W) (Zal : Rz k al) (Zah : Rz k ah) (hlea : al ≤ ah) (h1 : ¬ (al ≤ -1 ∧ -1 ≤ ah)) (h2 : ¬ (al ≤ 1 ∧ 1 ≤ ah)) (hk : k ≤ 1000000000) (w : World) (h : St W l w) :
  Calls Tryz.prog 67 #[.agg (VC al ah)] w fun e w' => e = .returned (.agg (VC (minQ (sinT al) (sinT ah)) (maxQ (sinT al) (sinT ah)))) ∧ Below w.heap.size w w' := by
 have HT := Lib.hid (tabS hT h); clear hT h
 have Z_al := Lib.hid Zal; clear Zal
 have Z_ah := Lib.hid Zah; clear Zah
 have H1 := Lib.hid (show decide (al ≤ (-1 : Rat) ∧ (-1 : Rat) ≤ ah) = false from decide_eq_false h1); clear h1
 have H2 := Lib.hid (show decide (al ≤ (1 : Rat) ∧ (1 : Rat) ≤ ah) = false from decide_eq_false h2); clear h2
 have HLE := Lib.hid hlea; clear hlea
 obtain ⟨m0, hm0⟩ : ∃ r_, minQ (sinT al) (sinT ah) = r_ := ⟨_, rfl⟩
 obtain ⟨m1, hm1⟩ : ∃ r_, maxQ (sinT al) (sinT ah) = r_ := ⟨_, rfl⟩
 have Z_m0 := Lib.hid (show Rz (8 * k + 10) m0 from hm0 ▸ (Rz.sinT Z_al.out).min (Rz.sinT Z_ah.out))
 have Z_m1 := Lib.hid (show Rz (8 * k + 10) m1 from hm1 ▸ (Rz.sinT Z_al.out).max (Rz.sinT Z_ah.out))
 have g0 : -1 ≤ m0 := hm0 ▸ le_min (sin_ge al) (sin_ge ah)
 have g1 : m1 ≤ 1 := hm1 ▸ max_le (sin_le1 al) (sin_le1 ah)
 have g2 : m0 ≤ m1 := hm0 ▸ hm1 ▸ min_le_max _ _
 have HJ := Lib.hid (show m0 ≤ m1 ∧ minQ m0 (-1) = -1 ∧ maxQ m1 (-1) = m1 ∧ (minQ m0 1 = m0 ∧ minQ (-1) 1 = -1) ∧ (-1 : Rat) ≤ m1 ∧ maxQ m1 1 = 1 ∧ m0 ≤ 1 from
  ⟨g2, (jm g0 g1).1, (jx (a := m1) (b := m1) (by grind) g1).1, ⟨(jx (a := m0) (b := m0) g0 (by grind)).2, (jx (a := -1) (b := -1) Rat.le_refl (by grind)).2⟩, by grind, (jm g0 g1).2, by grind⟩)
 have HX := Lib.hid (show m0 ≤ (1 : Rat) from by grind)
 clear g0 g1 g2
 have HM := Lib.hid (And.intro hm0 hm1)
 rw [hm0, hm1]
 clear hm0 hm1
 go_enter Tryz.func67, Tryz.ntmps67
 have HS : St w [] w := St.start
 go_upto_region 0 with (fail)
 refine rgT [] HS ?_
 refine bX (VC al ah) ?_
 intro bk1 _ _ hbk1_r
 refine nZ ?_
 refine aL6 ?_
 intro bk2 _ _ hbk2_r
 obtain ⟨_, _, hbk2_r⟩ := Reg.ne2 hbk2_r
 refine nZ ?_
 refine Seq.done fun ws1 hws => ?_
 have HS1 := hws.q2 (p := bk1) (q := bk2)
 clear HS hws
 go_upto_region 1 with (fail)
 refine wp_seq_text [0, 2] (StR.move (StR.no HS1)) ?_
 refine gV ?_
 refine gV ?_
 refine cX rfl rfl (sjoin_q (k := (1 * k + 0)) HT.out (Z_al.out.more (by omega)) (Z_ah.out.more (by omega)) (Z_al.out.more (by omega)) (Z_ah.out.more (by omega)) HLE.out HLE.out (min_self _) (max_self _) (by omega)) ?_
 refine sV (VC_one _ _) ?_
 refine Seq.done fun ws2 hws => ?_
 have HS2 := hws.q1 (p := bk1)
 clear HS1 hws
 go_upto_region 2 with (fail)
 refine rgW [] HS2 ?_
 refine pU ?_
 refine lA (RC al) ?_
 refine cX rfl rfl (tof_q (k := (1 * k + 0)) HT.out (Z_al.out.more (by omega))  rfl (by omega)) ?_
 refine cX rfl rfl (sin_q (k := (1 * k + 0)) HT.out (Z_al.out.more (by omega)) (fun h => by cases h) rfl (by omega)) ?_
 refine cX rfl rfl (sof_q (k := (8 * k + 10)) HT.out ((Rz.sinT Z_al.out).more (by omega))  rfl rfl (by omega)) ?_
 refine pU ?_
 refine lA (RC ah) ?_
 refine cX rfl rfl (tof_q (k := (1 * k + 0)) HT.out (Z_ah.out.more (by omega))  rfl (by omega)) ?_
 refine cX rfl rfl (sin_q (k := (1 * k + 0)) HT.out (Z_ah.out.more (by omega)) (fun h => by cases h) rfl (by omega)) ?_
 refine cX rfl rfl (sof_q (k := (8 * k + 10)) HT.out ((Rz.sinT Z_ah.out).more (by omega))  rfl rfl (by omega)) ?_
 refine cX rfl rfl (sjoin_q (k := (8 * k + 10)) HT.out ((Rz.sinT Z_al.out).more (by omega)) ((Rz.sinT Z_al.out).more (by omega)) ((Rz.sinT Z_ah.out).more (by omega)) ((Rz.sinT Z_ah.out).more (by omega)) (Rat.le_refl (a := sinT al)) (Rat.le_refl (a := sinT ah)) HM.out.1 HM.out.2 (by omega)) ?_
 refine aL6 ?_
 intro bk3 _ _ hbk3_r
 refine nZ ?_
 refine sV (VC_one _ _) ?_
 refine Seq.done fun ws3 hws => ?_
 have HS3 := hws.q1 (p := bk3)
 clear HS2 hws
 go_upto_region 3 with (fail)
 refine rgT [] HS3 ?_
 refine Seq.slice (n := 2) (e := 3) (cs := #[.int .i64 (-1), .int .i64 1]) rfl rfl (by intro w; go_simp; try rfl) ?_
 intro bk21 _ _ hbk21_r
 refine nZ ?_
 refine pV (.int .i64 2) (by intro w; go_simp; try rfl) ?_
 refine pU ?_
 refine Seq.done fun ws4 hws => ?_
 have HS4 := hws.q1 (p := bk21)
 clear HS3 hws
 go_wp2_with fail
 refine wp_loop_rounds 3 ?_
 rw [rounds_succ]
 go_upto_region 4 with (fail)
 refine rgT [] HS4 ?_
 refine pU ?_
 refine Seq.done fun ws5 hws => ?_
 have HS5 := hws.st
 clear HS4 hws
 go_upto_region 5 with (fail)
 refine rgT [] HS5 ?_
 refine pU ?_
 refine Seq.loadCell rfl rfl rfl rfl (by repeat first|exact mC|apply mT) (v := .int .i64 (-1)) rfl (by kernel_rfl) rfl (nZ ?_)
 refine pU ?_
 refine Seq.done fun ws6 hws => ?_
 have HS6 := hws.st
 clear HS5 hws
 go_upto_region 6 with (fail)
 refine rgT [] HS6 ?_
 refine pU ?_
 refine cX rfl rfl (of_q HT.out (by omega) (by omega) (show ((-1 : Int) : Rat) = (-1 : Rat) from rfl)) ?_
 refine aL3 ?_
 intro bk6 _ _ hbk6_r
 refine nZ ?_
 refine sV (RC_one _) ?_
 refine Seq.done fun ws7 hws => ?_
 have HS7 := hws.q1 (p := bk6)
 clear HS6 hws
 go_upto_region 7 with (fail)
 refine rgT [] HS7 ?_
 refine lV ?_
 refine lV ?_
 refine cX rfl rfl (has_q (k := (1 * k + 2)) HT.out (Z_al.out.more (by omega)) (Z_ah.out.more (by omega)) ((show Rz 2 (-1 : Rat) from Rz.lit (z := -1) rfl (by decide)).more (by omega)) HLE.out H1.out (by omega)) ?_
 refine Seq.done fun ws8 hws => ?_
 have HS8 := hws.st
 clear HS7 hws
 go_upto_region 9 with (fail)
 refine rgT [] HS8 ?_
 refine pV (.int .i64 1) (by intro w; go_simp; try rfl) ?_
 refine pU ?_
 refine Seq.done fun ws9 hws => ?_
 have HS9 := hws.st
 clear HS8 hws
 go_wp2_with fail
 rw [rounds_succ]
 go_upto_region 4 with (fail)
 refine rgT [] HS9 ?_
 refine pU ?_
 refine Seq.done fun ws10 hws => ?_
 have HS10 := hws.st
 clear HS9 hws
 go_upto_region 5 with (fail)
 refine rgT [] HS10 ?_
 refine pU ?_
 refine Seq.loadCell rfl rfl rfl rfl (by repeat first|exact mC|apply mT) (v := .int .i64 1) rfl (by kernel_rfl) rfl (nZ ?_)
 refine pU ?_
 refine Seq.done fun ws11 hws => ?_
 have HS11 := hws.st
 clear HS10 hws
 go_upto_region 6 with (fail)
 refine rgT [] HS11 ?_
 refine pU ?_
 refine cX rfl rfl (of_q HT.out (by omega) (by omega) (show ((1 : Int) : Rat) = (1 : Rat) from rfl)) ?_
 refine aL3 ?_
 intro bk6_1 _ _ hbk6_1_r
 refine nZ ?_
 refine sV (RC_one _) ?_
 refine Seq.done fun ws12 hws => ?_
 have HS12 := hws.q1 (p := bk6_1)
 clear HS11 hws
 go_upto_region 7 with (fail)
 refine rgT [] HS12 ?_
 refine lV ?_
 refine lV ?_
 refine cX rfl rfl (has_q (k := (1 * k + 2)) HT.out (Z_al.out.more (by omega)) (Z_ah.out.more (by omega)) ((show Rz 2 (1 : Rat) from Rz.lit (z := 1) rfl (by decide)).more (by omega)) HLE.out H2.out (by omega)) ?_
 refine Seq.done fun ws13 hws => ?_
 have HS13 := hws.st
 clear HS12 hws
 go_upto_region 9 with (fail)
 refine rgT [] HS13 ?_
 refine pV (.int .i64 2) (by intro w; go_simp; try rfl) ?_
 refine pU ?_
 refine Seq.done fun ws14 hws => ?_
 have HS14 := hws.st
 clear HS13 hws
 go_wp2_with fail
 rw [rounds_succ]
 go_upto_region 4 with (fail)
 refine rgT [] HS14 ?_
 refine pU ?_
 refine Seq.done fun ws15 hws => ?_
 have HS15 := hws.st
 clear HS14 hws
 go_upto_region 10 with (fail)
 have HPbk2 := HS15.p5
 refine wp_seq_text [] (StR.move (StR.no HPbk2)) ?_
 refine lV ?_
 refine sV (VC_one _ _) ?_
 refine Seq.done fun ws16 hws => ?_
 have HS16 := hws.q1 (p := bk2)
 clear HS15 hws HPbk2
 go_wp2_with fail
 exact rO HS16 ⟨rfl, HS16.below⟩
theorem ssin_q {k : Nat} {al ah z0 z1 : Rat} {W : World} {l : List Own} (hT : Tab W) (Zal : Rz k al) (Zah : Rz k ah) (hlea : al ≤ ah) (hz0 : sLo al ah = z0) (hz1 : sHi al ah = z1) (hk : k ≤ 1000000000) (w : World) (h : St W l w) :
  Calls Tryz.prog 67 #[.agg (VC al ah)] w fun e w' => e = .returned (.agg (VC z0 z1)) ∧ Below w.heap.size w w' := by
 subst hz0
 subst hz1
 unfold sLo sHi
 by_cases h1 : al ≤ -1 ∧ -1 ≤ ah
 ·by_cases h2 : al ≤ 1 ∧ 1 ≤ ah
  ·rw [if_pos h1, if_pos h2]; exact ssin_yy hT Zal Zah hlea h1 h2 hk w h
  ·rw [if_pos h1, if_neg h2]; exact ssin_yn hT Zal Zah hlea h1 h2 hk w h
 ·by_cases h2 : al ≤ 1 ∧ 1 ≤ ah
  ·rw [if_neg h1, if_pos h2]; exact ssin_ny hT Zal Zah hlea h1 h2 hk w h
  ·rw [if_neg h1, if_neg h2]; exact ssin_nn hT Zal Zah hlea h1 h2 hk w h
end Go.Proofs.YtmchjmflkaiakaaGreatDoor
