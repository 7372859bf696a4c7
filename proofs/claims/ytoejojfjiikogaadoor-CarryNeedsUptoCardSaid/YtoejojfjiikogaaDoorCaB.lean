/- Joined texts: CaA CaB. -/
import Derived.Test.YtoejojfjiikogaaDoorSpC
import Derived.LoopN
namespace Go.Proofs.YtoejojfjiikogaaDoor
open Go.RowKit
set_option linter.unusedVariables false
set_option linter.unusedSimpArgs false

theorem sgn_of_pos {x : Rat} (h : 0 < x) : sgnQ x = 1 := by unfold sgnQ cmpQ; grind
theorem sgn_of_neg {x : Rat} (h : x < 0) : sgnQ x = -1 := by unfold sgnQ cmpQ; grind
theorem sgn_val (x : Rat) : (sgnQ x = -1 ∧ x < 0) ∨ (sgnQ x = 0 ∧ x = 0) ∨ (sgnQ x = 1 ∧ 0 < x) := by
  rcases rat_tri x 0 with h | h | h
  · exact .inl ⟨sgn_of_neg h, h⟩
  · subst h; exact .inr (.inl ⟨by decide +kernel, rfl⟩)
  · exact .inr (.inr ⟨sgn_of_pos h, h⟩)
theorem min4' (a b : Rat) : minQ (minQ (minQ a b) a) b = minQ a b := by simp only [minQ_eq]; grind
theorem max4' (a b : Rat) : maxQ (maxQ (maxQ a b) a) b = maxQ a b := by simp only [maxQ_eq]; grind
/-- a turn of joint value t, turned further by a -/
def tuQ (a t : Rat) : Rat := (t + a) / (1 - a * t)
def tOk (a l h : Rat) : Bool := decide (0 < (1 - a * l) * (1 - a * h))
def toR0 (a l h : Rat) : RT := if 1 - a * l = 0 then rz0 else rt (tuQ a l)
def toR1 (a l h : Rat) : RT := if 1 - a * l = 0 then rz0 else if 1 - a * h = 0 then rz0 else rt (tuQ a h)
theorem tOk_ne {a l h : Rat} (h0 : tOk a l h = true) : 1 - a * l ≠ 0 ∧ 1 - a * h ≠ 0 := by
  have := of_decide_eq_true h0
  refine ⟨fun e => ?_, fun e => ?_⟩ <;> rw [e] at this
  · rw [Rat.zero_mul] at this; exact absurd this (by decide +kernel)
  · rw [Rat.mul_zero] at this; exact absurd this (by decide +kernel)
theorem toR_ok {a l h : Rat} (h0 : tOk a l h = true) : toR0 a l h = rt (tuQ a l) ∧ toR1 a l h = rt (tuQ a h) := by
  obtain ⟨h1, h2⟩ := tOk_ne h0
  unfold toR0 toR1
  rw [if_neg h1, if_neg h1, if_neg h2]
  exact ⟨rfl, rfl⟩
theorem pos_mul_inv {d e : Rat} (h : 0 < d * e) (hd : d ≠ 0) (he : e ≠ 0) : 0 < d⁻¹ * e⁻¹ := by
  have e1 : (d * e) * (d⁻¹ * e⁻¹) = 1 := by
    have a := Rat.mul_inv_cancel d hd
    have b := Rat.mul_inv_cancel e he
    grind
  rcases rat_tri (d⁻¹ * e⁻¹) 0 with c | c | c
  · have := mul_le_r (a := d⁻¹ * e⁻¹) (b := 0) (c := d * e) (Rat.le_of_lt c) (Rat.le_of_lt h)
    have h2 : (d⁻¹ * e⁻¹) * (d * e) = 1 := by rw [Rat.mul_comm]; exact e1
    rw [h2, Rat.zero_mul] at this
    exact absurd this (by decide +kernel)
  · rw [c, Rat.mul_zero] at e1
    exact absurd e1 (by decide +kernel)
  · exact c
theorem tuQ_le {a l h : Rat} (h0 : tOk a l h = true) (hle : l ≤ h) : tuQ a l ≤ tuQ a h := by
  obtain ⟨h1, h2⟩ := tOk_ne h0
  have hp := of_decide_eq_true h0
  have hi := pos_mul_inv hp h1 h2
  have key : tuQ a h - tuQ a l = ((h - l) * (1 + a * a)) * ((1 - a * l)⁻¹ * (1 - a * h)⁻¹) := by
    unfold tuQ
    rw [Rat.div_def, Rat.div_def]
    have e1 := Rat.mul_inv_cancel _ h1
    have e2 := Rat.mul_inv_cancel _ h2
    generalize (1 - a * l)⁻¹ = x at *
    generalize (1 - a * h)⁻¹ = y at *
    have e3 : (h + a) * y = (h + a) * y * ((1 - a * l) * x) := by rw [e1, Rat.mul_one]
    have e4 : (l + a) * x = (l + a) * x * ((1 - a * h) * y) := by rw [e2, Rat.mul_one]
    rw [e3, e4]
    grind
  have h3 : 0 ≤ (h - l) * (1 + a * a) := by
    have := one_sq_pos a
    have h4 : 0 ≤ h - l := by grind
    exact mul_nn h4 (Rat.le_of_lt this)
  have h5 := mul_nn h3 (Rat.le_of_lt hi)
  rw [← key] at h5
  grind
/-- the ranges of the coordinates of the points of a box that are turned -/
def rX0 (c s xl xh yl yh : Rat) : Rat := minQ (c * xl) (c * xh) - maxQ (s * yl) (s * yh)
def rX1 (c s xl xh yl yh : Rat) : Rat := maxQ (c * xl) (c * xh) - minQ (s * yl) (s * yh)
def rY0 (c s xl xh yl yh : Rat) : Rat := minQ (s * xl) (s * xh) + minQ (c * yl) (c * yh)
def rY1 (c s xl xh yl yh : Rat) : Rat := maxQ (s * xl) (s * xh) + maxQ (c * yl) (c * yh)
def gX0 (xl xh yl yh u v t : Rat) : Rat := rX0 (cosT false t) (-(sinT t)) (xl - u) (xh - u) (yl - v) (yh - v)
def gX1 (xl xh yl yh u v t : Rat) : Rat := rX1 (cosT false t) (-(sinT t)) (xl - u) (xh - u) (yl - v) (yh - v)
def gY0 (xl xh yl yh u v t : Rat) : Rat := rY0 (cosT false t) (-(sinT t)) (xl - u) (xh - u) (yl - v) (yh - v)
def gY1 (xl xh yl yh u v t : Rat) : Rat := rY1 (cosT false t) (-(sinT t)) (xl - u) (xh - u) (yl - v) (yh - v)
def pX0 (xl xh yl yh u v t : Rat) : Rat := rX0 (cosT false t) (sinT t) xl xh yl yh + u
def pX1 (xl xh yl yh u v t : Rat) : Rat := rX1 (cosT false t) (sinT t) xl xh yl yh + u
def pY0 (xl xh yl yh u v t : Rat) : Rat := rY0 (cosT false t) (sinT t) xl xh yl yh + v
def pY1 (xl xh yl yh u v t : Rat) : Rat := rY1 (cosT false t) (sinT t) xl xh yl yh + v
theorem cosT_neg (t : Rat) : cosT false (-t) = cosT false t := by unfold cosT; rw [show -t * -t = t * t by grind]
theorem r_le (c s xl xh yl yh : Rat) : rX0 c s xl xh yl yh ≤ rX1 c s xl xh yl yh ∧ rY0 c s xl xh yl yh ≤ rY1 c s xl xh yl yh :=
  ⟨sub_le2 (minmax_le _ _) (minmax_le _ _), add_le2 (minmax_le _ _) (minmax_le _ _)⟩
theorem g_le (xl xh yl yh u v t : Rat) : gX0 xl xh yl yh u v t ≤ gX1 xl xh yl yh u v t ∧ gY0 xl xh yl yh u v t ≤ gY1 xl xh yl yh u v t := r_le _ _ _ _ _ _
theorem p_le (xl xh yl yh u v t : Rat) : pX0 xl xh yl yh u v t ≤ pX1 xl xh yl yh u v t ∧ pY0 xl xh yl yh u v t ≤ pY1 xl xh yl yh u v t :=
  ⟨add_le2 (r_le _ _ _ _ _ _).1 Rat.le_refl, add_le2 (r_le _ _ _ _ _ _).2 Rat.le_refl⟩
theorem sgnQ_mul (x y : Rat) : IntKind.i64.wrap (sgnQ x * sgnQ y) = sgnQ (x * y) := by
  rcases sgn_val x with ⟨e1, h1⟩ | ⟨e1, h1⟩ | ⟨e1, h1⟩ <;> rcases sgn_val y with ⟨e2, h2⟩ | ⟨e2, h2⟩ | ⟨e2, h2⟩ <;> rw [e1, e2]
  · have : 0 < x * y := by have := Rat.mul_pos (a := -x) (b := -y) (by grind) (by grind); grind
    rw [sgn_of_pos this]; decide
  · subst h2; rw [Rat.mul_zero]; decide +kernel
  · have : x * y < 0 := by have := Rat.mul_pos (a := -x) (b := y) (by grind) (by grind); grind
    rw [sgn_of_neg this]; decide
  · subst h1; rw [Rat.zero_mul]; decide +kernel
  · subst h1; rw [Rat.zero_mul]; decide +kernel
  · subst h1; rw [Rat.zero_mul]; decide +kernel
  · have : x * y < 0 := by have := Rat.mul_pos (a := x) (b := -y) (by grind) (by grind); grind
    rw [sgn_of_neg this]; decide
  · subst h2; rw [Rat.mul_zero]; decide +kernel
  · have : 0 < x * y := Rat.mul_pos h1 h2
    rw [sgn_of_pos this]; decide
/-- what the sum of two signs tells -/
theorem sgn_sum (x y : Rat) : ∃ v0 v1 v2 : Int, sgnQ x = v0 ∧ sgnQ y = v1 ∧ IntKind.i64.wrap (0 + v0) = v0 ∧ IntKind.i64.wrap v0 = v0 ∧ IntKind.i64.wrap (v0 + v1) = v2 ∧ (x ≠ 0 → y ≠ 0 → ((v2 == 2) || (v2 == -2)) = decide (0 < x * y)) := by
  refine ⟨sgnQ x, sgnQ y, _, rfl, rfl, ?_, ?_, rfl, fun hx hy => ?_⟩
  · rcases sgn_val x with ⟨e1, h1⟩ | ⟨e1, h1⟩ | ⟨e1, h1⟩ <;> rw [e1] <;> decide
  · rcases sgn_val x with ⟨e1, h1⟩ | ⟨e1, h1⟩ | ⟨e1, h1⟩ <;> rw [e1] <;> decide
  rcases sgn_val x with ⟨e1, h1⟩ | ⟨e1, h1⟩ | ⟨e1, h1⟩ <;> rcases sgn_val y with ⟨e2, h2⟩ | ⟨e2, h2⟩ | ⟨e2, h2⟩ <;> (try exact absurd h1 hx) <;> (try exact absurd h2 hy) <;> rw [e1, e2]
  · have : 0 < x * y := by have := Rat.mul_pos (a := -x) (b := -y) (by grind) (by grind); grind
    rw [decide_eq_true this]; decide
  · have : ¬ 0 < x * y := by have := Rat.mul_pos (a := -x) (b := y) (by grind) (by grind); grind
    rw [decide_eq_false this]; decide
  · have : ¬ 0 < x * y := by have := Rat.mul_pos (a := x) (b := -y) (by grind) (by grind); grind
    rw [decide_eq_false this]; decide
  · have : 0 < x * y := Rat.mul_pos h1 h2
    rw [decide_eq_true this]; decide
section
variable {k : Nat} {xl xh yl yh u v t a c s : Rat}
theorem r_rz {kc kx : Nat} (hc : Rz kc c) (hs : Rz kc s) (h1 : Rz kx xl) (h2 : Rz kx xh) (h3 : Rz kx yl) (h4 : Rz kx yh) : Rz (4 * (kc + kx) + 1) (rX0 c s xl xh yl yh) ∧ Rz (4 * (kc + kx) + 1) (rX1 c s xl xh yl yh) ∧ Rz (4 * (kc + kx) + 1) (rY0 c s xl xh yl yh) ∧ Rz (4 * (kc + kx) + 1) (rY1 c s xl xh yl yh) :=
  ⟨(((hc.mul h1).min (hc.mul h2)).sub ((hs.mul h3).max (hs.mul h4))).more (by omega), (((hc.mul h1).max (hc.mul h2)).sub ((hs.mul h3).min (hs.mul h4))).more (by omega),
   (((hs.mul h1).min (hs.mul h2)).add ((hc.mul h3).min (hc.mul h4))).more (by omega), (((hs.mul h1).max (hs.mul h2)).add ((hc.mul h3).max (hc.mul h4))).more (by omega)⟩
end
end Go.Proofs.YtoejojfjiikogaaDoor
namespace Go.Proofs.YtoejojfjiikogaaDoor
open Go.RowKit
set_option linter.unusedVariables false
set_option linter.unusedSimpArgs false

set_option maxHeartbeats 2000000 in
set_option maxRecDepth 20000 in
theorem tof_w {k : Nat} {t : Rat} {t_g : Bool} {t_t : RT} {z0 : Rat} {W : World} {l : List Own} (hT : Tab W) (Zt : RawT k t t_g t_t) (hz0 : t = z0) (hk0 : 2 ≤ k) (hk : k ≤ 1000000000000) (w : World) (h : St W l w) :
    Calls Tryd.prog 132 #[.agg (RT.c t_t)] w fun e w' => e = .returned (.agg (TC false z0)) ∧ Below w.heap.size w w' := by
  subst hz0
  have HT := Lib.hid (tabS hT h); clear hT h
  have Z_t := Lib.hid Zt; clear Zt
  go_enter Tryd.func132, Tryd.ntmps132
  have HS : St w [] w := St.start
  go_upto_region 0 with (fail)
  refine wp_seq_text [] (StR.no HS) ?_
  refine Seq.box rfl rfl rfl (v := .agg (RT.c t_t)) (cs := RT.c t_t) rfl rfl ?_
  intro bk1 _ _ hbk1_r
  simp only [Act.put, nA, nB, nC]
  refine Seq.alloc rfl rfl rfl (z := .agg (UW false rz0)) (by kernel_rfl) rfl ?_
  intro bk2 _ _ hbk2_r
  obtain ⟨ne_bk2_bk1, hbk2_r⟩ := Reg.ne_of_put hbk2_r
  have ne_bk1_bk2 := Ne.symm ne_bk2_bk1
  simp only [Act.put, nA, nB, nC]
  refine Seq.done fun ws1 hws => ?_
  have HS1 := hws.list2 (p := bk1) (q := bk2) (by repeat (first | exact rS | refine rN (by assumption) ?_)) (by repeat (first | exact rS | refine rN (by assumption) ?_)) (by assumption)
  clear HS hws
  go_upto_region 1 with (fail)
  have HPbk2 := HS1.f1
  refine wp_seq_text [] (StR.move (StR.no HPbk2)) ?_
  refine Seq.load rfl rfl rfl rfl (by repeat (first | exact mC | apply mT)) (n := 3) rfl (by kernel_rfl) ?_
  simp only [Act.put, nA, nB, nC]
  refine Seq.load rfl rfl rfl rfl (by repeat (first | exact mC | apply mT)) (n := 3) rfl (by kernel_rfl) ?_
  simp only [Act.put, nA, nB, nC]
  refine Seq.call rfl rfl rfl rfl (by kernel_rfl) (min_w (k := (1 * k + 2)) HT.out (Z_t.out.more (by omega)) (Z_t.out.more (by omega)) (min_self _) (by omega)) ?_
  simp only [Act.put, nA, nB, nC]
  refine Seq.pure (v := .agg (TC false t)) rfl rfl (fun w => bld_Turn1 rfl rfl w) ?_
  simp only [Act.put, nA, nB, nC]
  refine Seq.store rfl rfl rfl rfl rfl (by repeat (first | exact rS | refine rN (by assumption) ?_)) (n := 4) rfl rfl (by kernel_rfl) (TC_one _ _) ?_
  simp only [Act.put, nA, nB, nC]
  refine Seq.done fun ws2 hws => ?_
  have HS2 := hws.list1 (p := bk2) (by repeat (first | exact rS | refine rN (by assumption) ?_))
  clear HS1 hws HPbk2
  go_wp2_with fail
  exact ret_own rfl rfl rfl HS2 (by repeat (first | exact mC | apply mT)) (n := 4) rfl (by kernel_rfl) ⟨rfl, HS2.below⟩
set_option maxHeartbeats 2000000 in
set_option maxRecDepth 20000 in
theorem tfit_w {k : Nat} {t : Rat} {t_g : Bool} {t_t : RT} {z0 : Rat} {W : World} {l : List Own} (hT : Tab W) (Zt : RawT k t t_g t_t) (hz0 : t = z0) (hk0 : 2 ≤ k) (hk : k ≤ 999999999998) (w : World) (h : St W l w) :
    Calls Tryd.prog 111 #[.agg (UW false t_t)] w fun e w' => e = .returned (.agg (TC false z0)) ∧ Below w.heap.size w w' := by
  subst hz0
  have HT := Lib.hid (tabS hT h); clear hT h
  have Z_t := Lib.hid Zt; clear Zt
  go_enter Tryd.func111, Tryd.ntmps111
  have HS : St w [] w := St.start
  go_upto_region 0 with (fail)
  refine wp_seq_text [] (StR.no HS) ?_
  refine Seq.box rfl rfl rfl (v := .agg (UW false t_t)) (cs := UW false t_t) rfl rfl ?_
  intro bk1 _ _ hbk1_r
  simp only [Act.put, nA, nB, nC]
  refine Seq.alloc rfl rfl rfl (z := .agg (UW false rz0)) (by kernel_rfl) rfl ?_
  intro bk2 _ _ hbk2_r
  obtain ⟨ne_bk2_bk1, hbk2_r⟩ := Reg.ne_of_put hbk2_r
  have ne_bk1_bk2 := Ne.symm ne_bk2_bk1
  simp only [Act.put, nA, nB, nC]
  refine Seq.done fun ws1 hws => ?_
  have HS1 := hws.list2 (p := bk1) (q := bk2) (by repeat (first | exact rS | refine rN (by assumption) ?_)) (by repeat (first | exact rS | refine rN (by assumption) ?_)) (by assumption)
  clear HS hws
  go_upto_region 1 with (fail)
  refine wp_seq_text [] (StR.no HS1) ?_
  refine Seq.pure rfl rfl (by intro w; go_simp; try rfl) ?_
  simp only [Act.put, nA, nB, nC]
  refine Seq.loadCell rfl rfl rfl rfl (by repeat (first | exact mC | apply mT)) (v := .bool false) rfl (by kernel_rfl) rfl ?_
  simp only [Act.put, nA, nB, nC]
  refine Seq.done fun ws2 hws => ?_
  have HS2 := hws.st
  clear HS1 hws
  go_upto_region 3 with (fail)
  have HPbk2 := HS2.f1
  refine wp_seq_text [] (StR.move (StR.no HPbk2)) ?_
  refine Seq.pure rfl rfl (by intro w; go_simp; try rfl) ?_
  simp only [Act.put, nA, nB, nC]
  refine Seq.loadAt rfl rfl rfl rfl (by repeat (first | exact mC | apply mT)) (n := 3) (cs' := RT.c t_t) (Nat.le_of_ble_eq_true rfl) (by kernel_rfl) rfl ?_
  simp only [Act.put, nA, nB, nC]
  refine Seq.call rfl rfl rfl rfl (by kernel_rfl) (tof_w (k := (1 * k + 2)) (t_t := t_t) HT.out (Z_t.out.more (by omega))  rfl (by omega) (by omega)) ?_
  simp only [Act.put, nA, nB, nC]
  refine Seq.store rfl rfl rfl rfl rfl (by repeat (first | exact rS | refine rN (by assumption) ?_)) (n := 4) rfl rfl (by kernel_rfl) (TC_one _ _) ?_
  simp only [Act.put, nA, nB, nC]
  refine Seq.done fun ws3 hws => ?_
  have HS3 := hws.list1 (p := bk2) (by repeat (first | exact rS | refine rN (by assumption) ?_))
  clear HS2 hws HPbk2
  go_wp2_with fail
  exact ret_own rfl rfl rfl HS3 (by repeat (first | exact mC | apply mT)) (n := 4) rfl (by kernel_rfl) ⟨rfl, HS3.below⟩
set_option maxHeartbeats 2000000 in
set_option maxRecDepth 20000 in
theorem tcos_w {k : Nat} {t : Rat} {t_g : Bool} {t_t : RT} {z0 : Rat} {W : World} {l : List Own} (hT : Tab W) (Zt : RawT k t t_g t_t) (hz0 : cosT false t = z0) (hk0 : 2 ≤ k) (hk : k ≤ 999999999996) (w : World) (h : St W l w) :
    Calls Tryd.prog 107 #[.agg (UW false t_t)] w fun e w' => e = .returned (.agg (RC z0)) ∧ Below w.heap.size w w' := by
  subst hz0
  have HT := Lib.hid (tabS hT h); clear hT h
  have Z_t := Lib.hid Zt; clear Zt
  go_enter Tryd.func107, Tryd.ntmps107
  have HS : St w [] w := St.start
  go_upto_region 0 with (fail)
  refine wp_seq_text [] (StR.no HS) ?_
  refine Seq.box rfl rfl rfl (v := .agg (UW false t_t)) (cs := UW false t_t) rfl rfl ?_
  intro bk1 _ _ hbk1_r
  simp only [Act.put, nA, nB, nC]
  refine Seq.alloc rfl rfl rfl (z := .agg (RT.c rz0)) (by kernel_rfl) rfl ?_
  intro bk2 _ _ hbk2_r
  obtain ⟨ne_bk2_bk1, hbk2_r⟩ := Reg.ne_of_put hbk2_r
  have ne_bk1_bk2 := Ne.symm ne_bk2_bk1
  simp only [Act.put, nA, nB, nC]
  refine Seq.done fun ws1 hws => ?_
  have HS1 := hws.list2 (p := bk1) (q := bk2) (by repeat (first | exact rS | refine rN (by assumption) ?_)) (by repeat (first | exact rS | refine rN (by assumption) ?_)) (by assumption)
  clear HS hws
  go_upto_region 1 with (fail)
  refine wp_seq_text [0] (StR.move (StR.no HS1)) ?_
  refine Seq.get rfl rfl rfl rfl (by repeat (first | exact rS | refine rN (by assumption) ?_)) (n := 4) rfl (by kernel_rfl) ?_
  simp only [Act.put, nA, nB, nC]
  refine Seq.call rfl rfl rfl rfl (by kernel_rfl) (tfit_w (k := (1 * k + 2)) (t_t := t_t) HT.out (Z_t.out.more (by omega))  rfl (by omega) (by omega)) ?_
  simp only [Act.put, nA, nB, nC]
  refine Seq.store rfl rfl rfl rfl rfl (by repeat (first | exact rS | refine rN (by assumption) ?_)) (n := 4) rfl rfl (by kernel_rfl) (TC_one _ _) ?_
  simp only [Act.put, nA, nB, nC]
  refine Seq.done fun ws2 hws => ?_
  have HS2 := hws.list1 (p := bk1) (by repeat (first | exact rS | refine rN (by assumption) ?_))
  clear HS1 hws
  go_upto_region 2 with (fail)
  refine wp_seq_text [] (StR.no HS2) ?_
  refine Seq.pure rfl rfl (by intro w; go_simp; try rfl) ?_
  simp only [Act.put, nA, nB, nC]
  refine Seq.loadCell rfl rfl rfl rfl (by repeat (first | exact mC | apply mT)) (v := .bool false) rfl (by kernel_rfl) rfl ?_
  simp only [Act.put, nA, nB, nC]
  refine Seq.done fun ws3 hws => ?_
  have HS3 := hws.st
  clear HS2 hws
  go_upto_region 4 with (fail)
  refine wp_seq_text [] (StR.no HS3) ?_
  refine Seq.pure rfl rfl (by intro w; go_simp; try rfl) ?_
  simp only [Act.put, nA, nB, nC]
  refine Seq.loadAt rfl rfl rfl rfl (by repeat (first | exact mC | apply mT)) (n := 3) (cs' := RC t) (Nat.le_of_ble_eq_true rfl) (by kernel_rfl) rfl ?_
  simp only [Act.put, nA, nB, nC]
  refine Seq.pure rfl rfl (by intro w; go_simp; try rfl) ?_
  simp only [Act.put, nA, nB, nC]
  refine Seq.loadAt rfl rfl rfl rfl (by repeat (first | exact mC | apply mT)) (n := 3) (cs' := RC t) (Nat.le_of_ble_eq_true rfl) (by kernel_rfl) rfl ?_
  simp only [Act.put, nA, nB, nC]
  refine Seq.call rfl rfl rfl rfl (by kernel_rfl) (mul_q (k := (1 * k + 0)) HT.out (Z_t.out.rz.more (by omega)) (Z_t.out.rz.more (by omega)) rfl (by omega)) ?_
  simp only [Act.put, nA, nB, nC]
  refine Seq.alloc rfl rfl rfl (z := .agg (RT.c rz0)) (by kernel_rfl) rfl ?_
  intro bk3 _ _ hbk3_r
  simp only [Act.put, nA, nB, nC]
  refine Seq.store rfl rfl rfl rfl rfl (by repeat (first | exact rS | refine rN (by assumption) ?_)) (n := 3) rfl rfl (by kernel_rfl) (RC_one _) ?_
  simp only [Act.put, nA, nB, nC]
  refine Seq.done fun ws4 hws => ?_
  have HS4 := hws.list1 (p := bk3) (by repeat (first | exact rS | refine rN (by assumption) ?_))
  clear HS3 hws
  go_upto_region 5 with (fail)
  refine wp_seq [] (by kernel_rfl) (by kernel_rfl) Reg.fin_no (StR.no HS4) ?_
  refine Seq.call rfl rfl rfl rfl (by kernel_rfl) (of_q HT.out (by omega) (by omega) (show ((1 : Int) : Rat) = (1 : Rat) from rfl)) ?_
  simp only [Act.put, nA, nB, nC]
  refine Seq.load rfl rfl rfl rfl (by repeat (first | exact mC | apply mT)) (n := 3) rfl (by kernel_rfl) ?_
  simp only [Act.put, nA, nB, nC]
  refine Seq.call rfl rfl rfl rfl (by kernel_rfl) (sub_q (k := (2 * k + 2)) HT.out ((show Rz 2 (1 : Rat) from Rz.lit (z := 1) rfl (by decide)).more (by omega)) ((Z_t.out.rz.mul Z_t.out.rz).more (by omega)) rfl (by omega)) ?_
  simp only [Act.put, nA, nB, nC]
  refine Seq.call rfl rfl rfl rfl (by kernel_rfl) (of_q HT.out (by omega) (by omega) (show ((1 : Int) : Rat) = (1 : Rat) from rfl)) ?_
  simp only [Act.put, nA, nB, nC]
  refine Seq.load rfl rfl rfl rfl (by repeat (first | exact mC | apply mT)) (n := 3) rfl (by kernel_rfl) ?_
  simp only [Act.put, nA, nB, nC]
  refine Seq.call rfl rfl rfl rfl (by kernel_rfl) (add_q (k := (2 * k + 2)) HT.out ((show Rz 2 (1 : Rat) from Rz.lit (z := 1) rfl (by decide)).more (by omega)) ((Z_t.out.rz.mul Z_t.out.rz).more (by omega)) rfl (by omega)) ?_
  simp only [Act.put, nA, nB, nC]
  refine Seq.call rfl rfl rfl rfl (by kernel_rfl) (div_q (k := (4 * k + 5)) HT.out (((show Rz 2 (1 : Rat) from Rz.lit (z := 1) rfl (by decide)).sub (Z_t.out.rz.mul Z_t.out.rz)).more (by omega)) (((show Rz 2 (1 : Rat) from Rz.lit (z := 1) rfl (by decide)).add (Z_t.out.rz.mul Z_t.out.rz)).more (by omega)) (one_sq t) rfl (by omega)) ?_
  simp only [Act.put, nA, nB, nC]
  refine Seq.pure rfl rfl (by intro w; go_simp; try rfl) ?_
  simp only [Act.put, nA, nB, nC]
  refine Seq.pure (v := .agg (RC (cosT false t))) rfl rfl (fun w => rfl) ?_
  simp only [Act.put, nA, nB, nC]
  refine Seq.pure (v := .int .i64 0) rfl rfl (fun w => rfl) ?_
  simp only [Act.put, nA, nB, nC]
  refine Seq.alloc rfl rfl rfl (z := .agg (RT.c rz0)) (by kernel_rfl) rfl ?_
  intro bk4 _ _ hbk4_r
  simp only [Act.put, nA, nB, nC]
  refine Seq.store rfl rfl rfl rfl rfl (by repeat (first | exact rS | refine rN (by assumption) ?_)) (n := 3) rfl rfl (by kernel_rfl) (RC_one _) ?_
  simp only [Act.put, nA, nB, nC]
  refine Seq.pure rfl rfl (by intro w; go_simp; try rfl) ?_
  simp only [Act.put, nA, nB, nC]
  refine Seq.done fun ws5 hws => ?_
  have HS5 := hws.list1 (p := bk4) (by repeat (first | exact rS | refine rN (by assumption) ?_))
  clear HS4 hws
  go_upto_region 6 with (fail)
  have HPbk2 := HS5.f3
  refine wp_seq_text [] (StR.move (StR.no HPbk2)) ?_
  refine Seq.load rfl rfl rfl rfl (by repeat (first | exact mC | apply mT)) (n := 3) rfl (by kernel_rfl) ?_
  simp only [Act.put, nA, nB, nC]
  refine Seq.store rfl rfl rfl rfl rfl (by repeat (first | exact rS | refine rN (by assumption) ?_)) (n := 3) rfl rfl (by kernel_rfl) (RC_one _) ?_
  simp only [Act.put, nA, nB, nC]
  refine Seq.done fun ws6 hws => ?_
  have HS6 := hws.list1 (p := bk2) (by repeat (first | exact rS | refine rN (by assumption) ?_))
  clear HS5 hws HPbk2
  go_wp2_with fail
  exact ret_own rfl rfl rfl HS6 (by repeat (first | exact mC | apply mT)) (n := 3) rfl (by kernel_rfl) ⟨rfl, HS6.below⟩
set_option maxHeartbeats 2000000 in
set_option maxRecDepth 20000 in
theorem tsin_w {k : Nat} {t : Rat} {t_g : Bool} {t_t : RT} {z0 : Rat} {W : World} {l : List Own} (hT : Tab W) (Zt : RawT k t t_g t_t) (hz0 : sinT t = z0) (hk0 : 2 ≤ k) (hk : k ≤ 999999999996) (w : World) (h : St W l w) :
    Calls Tryd.prog 108 #[.agg (UW false t_t)] w fun e w' => e = .returned (.agg (RC z0)) ∧ Below w.heap.size w w' := by
  subst hz0
  have HT := Lib.hid (tabS hT h); clear hT h
  have Z_t := Lib.hid Zt; clear Zt
  go_enter Tryd.func108, Tryd.ntmps108
  have HS : St w [] w := St.start
  go_upto_region 0 with (fail)
  refine wp_seq_text [] (StR.no HS) ?_
  refine Seq.box rfl rfl rfl (v := .agg (UW false t_t)) (cs := UW false t_t) rfl rfl ?_
  intro bk1 _ _ hbk1_r
  simp only [Act.put, nA, nB, nC]
  refine Seq.alloc rfl rfl rfl (z := .agg (RT.c rz0)) (by kernel_rfl) rfl ?_
  intro bk2 _ _ hbk2_r
  obtain ⟨ne_bk2_bk1, hbk2_r⟩ := Reg.ne_of_put hbk2_r
  have ne_bk1_bk2 := Ne.symm ne_bk2_bk1
  simp only [Act.put, nA, nB, nC]
  refine Seq.done fun ws1 hws => ?_
  have HS1 := hws.list2 (p := bk1) (q := bk2) (by repeat (first | exact rS | refine rN (by assumption) ?_)) (by repeat (first | exact rS | refine rN (by assumption) ?_)) (by assumption)
  clear HS hws
  go_upto_region 1 with (fail)
  refine wp_seq_text [0] (StR.move (StR.no HS1)) ?_
  refine Seq.get rfl rfl rfl rfl (by repeat (first | exact rS | refine rN (by assumption) ?_)) (n := 4) rfl (by kernel_rfl) ?_
  simp only [Act.put, nA, nB, nC]
  refine Seq.call rfl rfl rfl rfl (by kernel_rfl) (tfit_w (k := (1 * k + 2)) (t_t := t_t) HT.out (Z_t.out.more (by omega))  rfl (by omega) (by omega)) ?_
  simp only [Act.put, nA, nB, nC]
  refine Seq.store rfl rfl rfl rfl rfl (by repeat (first | exact rS | refine rN (by assumption) ?_)) (n := 4) rfl rfl (by kernel_rfl) (TC_one _ _) ?_
  simp only [Act.put, nA, nB, nC]
  refine Seq.done fun ws2 hws => ?_
  have HS2 := hws.list1 (p := bk1) (by repeat (first | exact rS | refine rN (by assumption) ?_))
  clear HS1 hws
  go_upto_region 2 with (fail)
  refine wp_seq [] (by kernel_rfl) (by kernel_rfl) Reg.fin_no (StR.no HS2) ?_
  refine Seq.pure rfl rfl (by intro w; go_simp; try rfl) ?_
  simp only [Act.put, nA, nB, nC]
  refine Seq.loadAt rfl rfl rfl rfl (by repeat (first | exact mC | apply mT)) (n := 3) (cs' := RC t) (Nat.le_of_ble_eq_true rfl) (by kernel_rfl) rfl ?_
  simp only [Act.put, nA, nB, nC]
  refine Seq.pure rfl rfl (by intro w; go_simp; try rfl) ?_
  simp only [Act.put, nA, nB, nC]
  refine Seq.loadAt rfl rfl rfl rfl (by repeat (first | exact mC | apply mT)) (n := 3) (cs' := RC t) (Nat.le_of_ble_eq_true rfl) (by kernel_rfl) rfl ?_
  simp only [Act.put, nA, nB, nC]
  refine Seq.call rfl rfl rfl rfl (by kernel_rfl) (add_q (k := (1 * k + 0)) HT.out (Z_t.out.rz.more (by omega)) (Z_t.out.rz.more (by omega)) rfl (by omega)) ?_
  simp only [Act.put, nA, nB, nC]
  refine Seq.call rfl rfl rfl rfl (by kernel_rfl) (of_q HT.out (by omega) (by omega) (show ((1 : Int) : Rat) = (1 : Rat) from rfl)) ?_
  simp only [Act.put, nA, nB, nC]
  refine Seq.pure rfl rfl (by intro w; go_simp; try rfl) ?_
  simp only [Act.put, nA, nB, nC]
  refine Seq.loadAt rfl rfl rfl rfl (by repeat (first | exact mC | apply mT)) (n := 3) (cs' := RC t) (Nat.le_of_ble_eq_true rfl) (by kernel_rfl) rfl ?_
  simp only [Act.put, nA, nB, nC]
  refine Seq.pure rfl rfl (by intro w; go_simp; try rfl) ?_
  simp only [Act.put, nA, nB, nC]
  refine Seq.loadAt rfl rfl rfl rfl (by repeat (first | exact mC | apply mT)) (n := 3) (cs' := RC t) (Nat.le_of_ble_eq_true rfl) (by kernel_rfl) rfl ?_
  simp only [Act.put, nA, nB, nC]
  refine Seq.call rfl rfl rfl rfl (by kernel_rfl) (mul_q (k := (1 * k + 0)) HT.out (Z_t.out.rz.more (by omega)) (Z_t.out.rz.more (by omega)) rfl (by omega)) ?_
  simp only [Act.put, nA, nB, nC]
  refine Seq.call rfl rfl rfl rfl (by kernel_rfl) (add_q (k := (2 * k + 2)) HT.out ((show Rz 2 (1 : Rat) from Rz.lit (z := 1) rfl (by decide)).more (by omega)) ((Z_t.out.rz.mul Z_t.out.rz).more (by omega)) rfl (by omega)) ?_
  simp only [Act.put, nA, nB, nC]
  refine Seq.call rfl rfl rfl rfl (by kernel_rfl) (div_q (k := (4 * k + 5)) HT.out ((Z_t.out.rz.add Z_t.out.rz).more (by omega)) (((show Rz 2 (1 : Rat) from Rz.lit (z := 1) rfl (by decide)).add (Z_t.out.rz.mul Z_t.out.rz)).more (by omega)) (one_sq t) rfl (by omega)) ?_
  simp only [Act.put, nA, nB, nC]
  refine Seq.pure rfl rfl (by intro w; go_simp; try rfl) ?_
  simp only [Act.put, nA, nB, nC]
  refine Seq.pure (v := .agg (RC (sinT t))) rfl rfl (fun w => rfl) ?_
  simp only [Act.put, nA, nB, nC]
  refine Seq.pure (v := .int .i64 0) rfl rfl (fun w => rfl) ?_
  simp only [Act.put, nA, nB, nC]
  refine Seq.alloc rfl rfl rfl (z := .agg (RT.c rz0)) (by kernel_rfl) rfl ?_
  intro bk3 _ _ hbk3_r
  simp only [Act.put, nA, nB, nC]
  refine Seq.store rfl rfl rfl rfl rfl (by repeat (first | exact rS | refine rN (by assumption) ?_)) (n := 3) rfl rfl (by kernel_rfl) (RC_one _) ?_
  simp only [Act.put, nA, nB, nC]
  refine Seq.pure rfl rfl (by intro w; go_simp; try rfl) ?_
  simp only [Act.put, nA, nB, nC]
  refine Seq.done fun ws3 hws => ?_
  have HS3 := hws.list1 (p := bk3) (by repeat (first | exact rS | refine rN (by assumption) ?_))
  clear HS2 hws
  go_upto_region 3 with (fail)
  have HPbk2 := HS3.f2
  refine wp_seq_text [] (StR.move (StR.no HPbk2)) ?_
  refine Seq.load rfl rfl rfl rfl (by repeat (first | exact mC | apply mT)) (n := 3) rfl (by kernel_rfl) ?_
  simp only [Act.put, nA, nB, nC]
  refine Seq.store rfl rfl rfl rfl rfl (by repeat (first | exact rS | refine rN (by assumption) ?_)) (n := 3) rfl rfl (by kernel_rfl) (RC_one _) ?_
  simp only [Act.put, nA, nB, nC]
  refine Seq.done fun ws4 hws => ?_
  have HS4 := hws.list1 (p := bk2) (by repeat (first | exact rS | refine rN (by assumption) ?_))
  clear HS3 hws HPbk2
  go_wp2_with fail
  exact ret_own rfl rfl rfl HS4 (by repeat (first | exact mC | apply mT)) (n := 3) rfl (by kernel_rfl) ⟨rfl, HS4.below⟩
set_option maxHeartbeats 2000000 in
set_option maxRecDepth 20000 in
theorem tback_w {k : Nat} {t : Rat} {t_g : Bool} {t_t : RT} {z0 : Rat} {W : World} {l : List Own} (hT : Tab W) (Zt : RawT k t t_g t_t) (hz0 : -t = z0) (hk0 : 2 ≤ k) (hk : k ≤ 999999999996) (w : World) (h : St W l w) :
    Calls Tryd.prog 85 #[.agg (UW false t_t)] w fun e w' => e = .returned (.agg (TC false z0)) ∧ Below w.heap.size w w' := by
  subst hz0
  have HT := Lib.hid (tabS hT h); clear hT h
  have Z_t := Lib.hid Zt; clear Zt
  go_enter Tryd.func85, Tryd.ntmps85
  have HS : St w [] w := St.start
  go_upto_region 0 with (fail)
  refine wp_seq_text [] (StR.no HS) ?_
  refine Seq.box rfl rfl rfl (v := .agg (UW false t_t)) (cs := UW false t_t) rfl rfl ?_
  intro bk1 _ _ hbk1_r
  simp only [Act.put, nA, nB, nC]
  refine Seq.alloc rfl rfl rfl (z := .agg (UW false rz0)) (by kernel_rfl) rfl ?_
  intro bk2 _ _ hbk2_r
  obtain ⟨ne_bk2_bk1, hbk2_r⟩ := Reg.ne_of_put hbk2_r
  have ne_bk1_bk2 := Ne.symm ne_bk2_bk1
  simp only [Act.put, nA, nB, nC]
  refine Seq.done fun ws1 hws => ?_
  have HS1 := hws.list2 (p := bk1) (q := bk2) (by repeat (first | exact rS | refine rN (by assumption) ?_)) (by repeat (first | exact rS | refine rN (by assumption) ?_)) (by assumption)
  clear HS hws
  go_upto_region 1 with (fail)
  refine wp_seq_text [0] (StR.move (StR.no HS1)) ?_
  refine Seq.get rfl rfl rfl rfl (by repeat (first | exact rS | refine rN (by assumption) ?_)) (n := 4) rfl (by kernel_rfl) ?_
  simp only [Act.put, nA, nB, nC]
  refine Seq.call rfl rfl rfl rfl (by kernel_rfl) (tfit_w (k := (1 * k + 2)) (t_t := t_t) HT.out (Z_t.out.more (by omega))  rfl (by omega) (by omega)) ?_
  simp only [Act.put, nA, nB, nC]
  refine Seq.store rfl rfl rfl rfl rfl (by repeat (first | exact rS | refine rN (by assumption) ?_)) (n := 4) rfl rfl (by kernel_rfl) (TC_one _ _) ?_
  simp only [Act.put, nA, nB, nC]
  refine Seq.done fun ws2 hws => ?_
  have HS2 := hws.list1 (p := bk1) (by repeat (first | exact rS | refine rN (by assumption) ?_))
  clear HS1 hws
  go_upto_region 2 with (fail)
  refine wp_seq_text [2] (StR.move (StR.no HS2)) ?_
  refine Seq.pure rfl rfl (by intro w; go_simp; try rfl) ?_
  simp only [Act.put, nA, nB, nC]
  refine Seq.getAt rfl rfl rfl rfl (by repeat (first | exact rS | refine rN (by assumption) ?_)) (n := 3) (cs' := RC t) (Nat.le_of_ble_eq_true rfl) (by kernel_rfl) rfl ?_
  simp only [Act.put, nA, nB, nC]
  refine Seq.call rfl rfl rfl rfl (by kernel_rfl) (neg_q (k := (1 * k + 0)) HT.out (Z_t.out.rz.more (by omega)) rfl (by omega)) ?_
  simp only [Act.put, nA, nB, nC]
  refine Seq.pure rfl rfl (by intro w; go_simp; try rfl) ?_
  simp only [Act.put, nA, nB, nC]
  refine Seq.storeAt (v := .agg (RC (-t))) rfl rfl rfl rfl rfl (by repeat (first | exact rS | refine rN (by assumption) ?_)) (Nat.le_of_ble_eq_true rfl) (by show _ = some 3; kernel_rfl) (RC_one _) (cs' := TC false (-t)) rfl ?_
  simp only [Act.put, nA, nB, nC]
  refine Seq.done fun ws3 hws => ?_
  have HS3 := hws.list1 (p := bk1) (by repeat (first | exact rS | refine rN (by assumption) ?_))
  clear HS2 hws
  go_upto_region 3 with (fail)
  have HPbk2 := HS3.f1
  refine wp_seq_text [] (StR.move (StR.no HPbk2)) ?_
  refine Seq.load rfl rfl rfl rfl (by repeat (first | exact mC | apply mT)) (n := 4) rfl (by kernel_rfl) ?_
  simp only [Act.put, nA, nB, nC]
  refine Seq.store rfl rfl rfl rfl rfl (by repeat (first | exact rS | refine rN (by assumption) ?_)) (n := 4) rfl rfl (by kernel_rfl) (TC_one _ _) ?_
  simp only [Act.put, nA, nB, nC]
  refine Seq.done fun ws4 hws => ?_
  have HS4 := hws.list1 (p := bk2) (by repeat (first | exact rS | refine rN (by assumption) ?_))
  clear HS3 hws HPbk2
  go_wp2_with fail
  exact ret_own rfl rfl rfl HS4 (by repeat (first | exact mC | apply mT)) (n := 4) rfl (by kernel_rfl) ⟨rfl, HS4.below⟩
set_option maxHeartbeats 2000000 in
set_option maxRecDepth 20000 in
theorem ssub_w {k : Nat} {al ah : Rat} {ag : Bool} {a1 a2 : RT} {bl bh : Rat} {bg : Bool} {b1 b2 : RT} {z0 : Rat} {z1 : Rat} {W : World} {l : List Own} (hT : Tab W) (Za : RawS k al ah ag a1 a2) (Zb : RawS k bl bh bg b1 b2) (hz0 : al - bh = z0) (hz1 : ah - bl = z1) (hk0 : 2 ≤ k) (hk : k ≤ 999999999996) (w : World) (h : St W l w) :
    Calls Tryd.prog 83 #[.agg (SW a1 a2), .agg (SW b1 b2)] w fun e w' => e = .returned (.agg (VC z0 z1)) ∧ Below w.heap.size w w' := by
  subst hz0
  subst hz1
  have HT := Lib.hid (tabS hT h); clear hT h
  have Z_a := Lib.hid Za; clear Za
  have Z_b := Lib.hid Zb; clear Zb
  go_enter Tryd.func83, Tryd.ntmps83
  have HS : St w [] w := St.start
  go_upto_region 0 with (fail)
  refine wp_seq_text [] (StR.no HS) ?_
  refine Seq.box rfl rfl rfl (v := .agg (SW a1 a2)) (cs := SW a1 a2) rfl rfl ?_
  intro bk2 _ _ hbk2_r
  simp only [Act.put, nA, nB, nC]
  refine Seq.box rfl rfl rfl (v := .agg (SW b1 b2)) (cs := SW b1 b2) rfl rfl ?_
  intro bk3 _ _ hbk3_r
  obtain ⟨ne_bk3_bk2, hbk3_r⟩ := Reg.ne_of_put hbk3_r
  have ne_bk2_bk3 := Ne.symm ne_bk3_bk2
  simp only [Act.put, nA, nB, nC]
  refine Seq.alloc rfl rfl rfl (z := .agg (SW rz0 rz0)) (by kernel_rfl) rfl ?_
  intro bk4 _ _ hbk4_r
  obtain ⟨ne_bk4_bk3, hbk4_r⟩ := Reg.ne_of_put hbk4_r
  have ne_bk3_bk4 := Ne.symm ne_bk4_bk3
  obtain ⟨ne_bk4_bk2, hbk4_r⟩ := Reg.ne_of_put hbk4_r
  have ne_bk2_bk4 := Ne.symm ne_bk4_bk2
  simp only [Act.put, nA, nB, nC]
  refine Seq.done fun ws1 hws => ?_
  have HS1 := hws.list3 (p := bk2) (q := bk3) (r := bk4) (by repeat (first | exact rS | refine rN (by assumption) ?_)) (by repeat (first | exact rS | refine rN (by assumption) ?_)) (by repeat (first | exact rS | refine rN (by assumption) ?_)) (by assumption) (by assumption) (by assumption)
  clear HS hws
  go_upto_region 1 with (fail)
  have HPbk3 := HS1.f1
  have HPbk2 := HPbk3.f1
  refine wp_seq [0, 4] (by kernel_rfl) (by kernel_rfl) (Reg.fin.put (Reg.fin.put Reg.fin_no _ _) _ _) (StR.move (StR.move (StR.no HPbk2))) ?_
  refine Seq.get rfl rfl rfl rfl (by repeat (first | exact rS | refine rN (by assumption) ?_)) (n := 6) rfl (by kernel_rfl) ?_
  simp only [Act.put, nA, nB, nC]
  refine Seq.call rfl rfl rfl rfl (by kernel_rfl) (sfit_w (k := (1 * k + 2)) (a1 := a1) (a2 := a2) HT.out (Z_a.out.more (by omega))  rfl rfl (by omega) (by omega)) ?_
  simp only [Act.put, nA, nB, nC]
  refine Seq.get rfl rfl rfl rfl (by repeat (first | exact rS | refine rN (by assumption) ?_)) (n := 6) rfl (by kernel_rfl) ?_
  simp only [Act.put, nA, nB, nC]
  refine Seq.call rfl rfl rfl rfl (by kernel_rfl) (sfit_w (k := (1 * k + 2)) (a1 := b1) (a2 := b2) HT.out (Z_b.out.more (by omega))  rfl rfl (by omega) (by omega)) ?_
  simp only [Act.put, nA, nB, nC]
  refine Seq.store rfl rfl rfl rfl rfl (by repeat (first | exact rS | refine rN (by assumption) ?_)) (n := 6) rfl rfl (by kernel_rfl) (VC_one _ _) ?_
  simp only [Act.put, nA, nB, nC]
  refine Seq.store rfl rfl rfl rfl rfl (by repeat (first | exact rS | refine rN (by assumption) ?_)) (n := 6) rfl rfl (by kernel_rfl) (VC_one _ _) ?_
  simp only [Act.put, nA, nB, nC]
  refine Seq.done fun ws2 hws => ?_
  have HS2 := hws.list2 (p := bk2) (q := bk3) (by repeat (first | exact rS | refine rN (by assumption) ?_)) (by repeat (first | exact rS | refine rN (by assumption) ?_)) (by assumption)
  clear HS1 hws HPbk3 HPbk2
  go_upto_region 2 with (fail)
  have HPbk4 := HS2.f2
  refine wp_seq [] (by kernel_rfl) (by kernel_rfl) (Reg.fin.put Reg.fin_no _ _) (StR.move (StR.no HPbk4)) ?_
  refine Seq.pure rfl rfl (by intro w; go_simp; try rfl) ?_
  simp only [Act.put, nA, nB, nC]
  refine Seq.loadAt rfl rfl rfl rfl (by repeat (first | exact mC | apply mT)) (n := 3) (cs' := RC al) (Nat.le_of_ble_eq_true rfl) (by kernel_rfl) rfl ?_
  simp only [Act.put, nA, nB, nC]
  refine Seq.pure rfl rfl (by intro w; go_simp; try rfl) ?_
  simp only [Act.put, nA, nB, nC]
  refine Seq.loadAt rfl rfl rfl rfl (by repeat (first | exact mC | apply mT)) (n := 3) (cs' := RC bh) (Nat.le_of_ble_eq_true rfl) (by kernel_rfl) rfl ?_
  simp only [Act.put, nA, nB, nC]
  refine Seq.call rfl rfl rfl rfl (by kernel_rfl) (sub_q (k := (1 * k + 0)) HT.out ((Z_a.out.rz (by omega)).1.more (by omega)) ((Z_b.out.rz (by omega)).2.more (by omega)) rfl (by omega)) ?_
  simp only [Act.put, nA, nB, nC]
  refine Seq.pure rfl rfl (by intro w; go_simp; try rfl) ?_
  simp only [Act.put, nA, nB, nC]
  refine Seq.loadAt rfl rfl rfl rfl (by repeat (first | exact mC | apply mT)) (n := 3) (cs' := RC ah) (Nat.le_of_ble_eq_true rfl) (by kernel_rfl) rfl ?_
  simp only [Act.put, nA, nB, nC]
  refine Seq.pure rfl rfl (by intro w; go_simp; try rfl) ?_
  simp only [Act.put, nA, nB, nC]
  refine Seq.loadAt rfl rfl rfl rfl (by repeat (first | exact mC | apply mT)) (n := 3) (cs' := RC bl) (Nat.le_of_ble_eq_true rfl) (by kernel_rfl) rfl ?_
  simp only [Act.put, nA, nB, nC]
  refine Seq.call rfl rfl rfl rfl (by kernel_rfl) (sub_q (k := (1 * k + 0)) HT.out ((Z_a.out.rz (by omega)).2.more (by omega)) ((Z_b.out.rz (by omega)).1.more (by omega)) rfl (by omega)) ?_
  simp only [Act.put, nA, nB, nC]
  refine Seq.pure (v := .agg (VC (al - bh) (ah - bl))) rfl rfl (fun w => bld_Span rfl rfl rfl w) ?_
  simp only [Act.put, nA, nB, nC]
  refine Seq.store rfl rfl rfl rfl rfl (by repeat (first | exact rS | refine rN (by assumption) ?_)) (n := 6) rfl rfl (by kernel_rfl) (VC_one _ _) ?_
  simp only [Act.put, nA, nB, nC]
  refine Seq.done fun ws3 hws => ?_
  have HS3 := hws.list1 (p := bk4) (by repeat (first | exact rS | refine rN (by assumption) ?_))
  clear HS2 hws HPbk4
  go_wp2_with fail
  exact ret_own rfl rfl rfl HS3 (by repeat (first | exact mC | apply mT)) (n := 6) rfl (by kernel_rfl) ⟨rfl, HS3.below⟩
set_option maxHeartbeats 2000000 in
set_option maxRecDepth 20000 in
theorem sadd_w {k : Nat} {al ah : Rat} {ag : Bool} {a1 a2 : RT} {bl bh : Rat} {bg : Bool} {b1 b2 : RT} {z0 : Rat} {z1 : Rat} {W : World} {l : List Own} (hT : Tab W) (Za : RawS k al ah ag a1 a2) (Zb : RawS k bl bh bg b1 b2) (hz0 : al + bl = z0) (hz1 : ah + bh = z1) (hk0 : 2 ≤ k) (hk : k ≤ 999999999996) (w : World) (h : St W l w) :
    Calls Tryd.prog 86 #[.agg (SW a1 a2), .agg (SW b1 b2)] w fun e w' => e = .returned (.agg (VC z0 z1)) ∧ Below w.heap.size w w' := by
  subst hz0
  subst hz1
  have HT := Lib.hid (tabS hT h); clear hT h
  have Z_a := Lib.hid Za; clear Za
  have Z_b := Lib.hid Zb; clear Zb
  go_enter Tryd.func86, Tryd.ntmps86
  have HS : St w [] w := St.start
  go_upto_region 0 with (fail)
  refine wp_seq_text [] (StR.no HS) ?_
  refine Seq.box rfl rfl rfl (v := .agg (SW a1 a2)) (cs := SW a1 a2) rfl rfl ?_
  intro bk2 _ _ hbk2_r
  simp only [Act.put, nA, nB, nC]
  refine Seq.box rfl rfl rfl (v := .agg (SW b1 b2)) (cs := SW b1 b2) rfl rfl ?_
  intro bk3 _ _ hbk3_r
  obtain ⟨ne_bk3_bk2, hbk3_r⟩ := Reg.ne_of_put hbk3_r
  have ne_bk2_bk3 := Ne.symm ne_bk3_bk2
  simp only [Act.put, nA, nB, nC]
  refine Seq.alloc rfl rfl rfl (z := .agg (SW rz0 rz0)) (by kernel_rfl) rfl ?_
  intro bk4 _ _ hbk4_r
  obtain ⟨ne_bk4_bk3, hbk4_r⟩ := Reg.ne_of_put hbk4_r
  have ne_bk3_bk4 := Ne.symm ne_bk4_bk3
  obtain ⟨ne_bk4_bk2, hbk4_r⟩ := Reg.ne_of_put hbk4_r
  have ne_bk2_bk4 := Ne.symm ne_bk4_bk2
  simp only [Act.put, nA, nB, nC]
  refine Seq.done fun ws1 hws => ?_
  have HS1 := hws.list3 (p := bk2) (q := bk3) (r := bk4) (by repeat (first | exact rS | refine rN (by assumption) ?_)) (by repeat (first | exact rS | refine rN (by assumption) ?_)) (by repeat (first | exact rS | refine rN (by assumption) ?_)) (by assumption) (by assumption) (by assumption)
  clear HS hws
  go_upto_region 1 with (fail)
  have HPbk3 := HS1.f1
  have HPbk2 := HPbk3.f1
  refine wp_seq [0, 4] (by kernel_rfl) (by kernel_rfl) (Reg.fin.put (Reg.fin.put Reg.fin_no _ _) _ _) (StR.move (StR.move (StR.no HPbk2))) ?_
  refine Seq.get rfl rfl rfl rfl (by repeat (first | exact rS | refine rN (by assumption) ?_)) (n := 6) rfl (by kernel_rfl) ?_
  simp only [Act.put, nA, nB, nC]
  refine Seq.call rfl rfl rfl rfl (by kernel_rfl) (sfit_w (k := (1 * k + 2)) (a1 := a1) (a2 := a2) HT.out (Z_a.out.more (by omega))  rfl rfl (by omega) (by omega)) ?_
  simp only [Act.put, nA, nB, nC]
  refine Seq.get rfl rfl rfl rfl (by repeat (first | exact rS | refine rN (by assumption) ?_)) (n := 6) rfl (by kernel_rfl) ?_
  simp only [Act.put, nA, nB, nC]
  refine Seq.call rfl rfl rfl rfl (by kernel_rfl) (sfit_w (k := (1 * k + 2)) (a1 := b1) (a2 := b2) HT.out (Z_b.out.more (by omega))  rfl rfl (by omega) (by omega)) ?_
  simp only [Act.put, nA, nB, nC]
  refine Seq.store rfl rfl rfl rfl rfl (by repeat (first | exact rS | refine rN (by assumption) ?_)) (n := 6) rfl rfl (by kernel_rfl) (VC_one _ _) ?_
  simp only [Act.put, nA, nB, nC]
  refine Seq.store rfl rfl rfl rfl rfl (by repeat (first | exact rS | refine rN (by assumption) ?_)) (n := 6) rfl rfl (by kernel_rfl) (VC_one _ _) ?_
  simp only [Act.put, nA, nB, nC]
  refine Seq.done fun ws2 hws => ?_
  have HS2 := hws.list2 (p := bk2) (q := bk3) (by repeat (first | exact rS | refine rN (by assumption) ?_)) (by repeat (first | exact rS | refine rN (by assumption) ?_)) (by assumption)
  clear HS1 hws HPbk3 HPbk2
  go_upto_region 2 with (fail)
  have HPbk4 := HS2.f2
  refine wp_seq [] (by kernel_rfl) (by kernel_rfl) (Reg.fin.put Reg.fin_no _ _) (StR.move (StR.no HPbk4)) ?_
  refine Seq.pure rfl rfl (by intro w; go_simp; try rfl) ?_
  simp only [Act.put, nA, nB, nC]
  refine Seq.loadAt rfl rfl rfl rfl (by repeat (first | exact mC | apply mT)) (n := 3) (cs' := RC al) (Nat.le_of_ble_eq_true rfl) (by kernel_rfl) rfl ?_
  simp only [Act.put, nA, nB, nC]
  refine Seq.pure rfl rfl (by intro w; go_simp; try rfl) ?_
  simp only [Act.put, nA, nB, nC]
  refine Seq.loadAt rfl rfl rfl rfl (by repeat (first | exact mC | apply mT)) (n := 3) (cs' := RC bl) (Nat.le_of_ble_eq_true rfl) (by kernel_rfl) rfl ?_
  simp only [Act.put, nA, nB, nC]
  refine Seq.call rfl rfl rfl rfl (by kernel_rfl) (add_q (k := (1 * k + 0)) HT.out ((Z_a.out.rz (by omega)).1.more (by omega)) ((Z_b.out.rz (by omega)).1.more (by omega)) rfl (by omega)) ?_
  simp only [Act.put, nA, nB, nC]
  refine Seq.pure rfl rfl (by intro w; go_simp; try rfl) ?_
  simp only [Act.put, nA, nB, nC]
  refine Seq.loadAt rfl rfl rfl rfl (by repeat (first | exact mC | apply mT)) (n := 3) (cs' := RC ah) (Nat.le_of_ble_eq_true rfl) (by kernel_rfl) rfl ?_
  simp only [Act.put, nA, nB, nC]
  refine Seq.pure rfl rfl (by intro w; go_simp; try rfl) ?_
  simp only [Act.put, nA, nB, nC]
  refine Seq.loadAt rfl rfl rfl rfl (by repeat (first | exact mC | apply mT)) (n := 3) (cs' := RC bh) (Nat.le_of_ble_eq_true rfl) (by kernel_rfl) rfl ?_
  simp only [Act.put, nA, nB, nC]
  refine Seq.call rfl rfl rfl rfl (by kernel_rfl) (add_q (k := (1 * k + 0)) HT.out ((Z_a.out.rz (by omega)).2.more (by omega)) ((Z_b.out.rz (by omega)).2.more (by omega)) rfl (by omega)) ?_
  simp only [Act.put, nA, nB, nC]
  refine Seq.pure (v := .agg (VC (al + bl) (ah + bh))) rfl rfl (fun w => bld_Span rfl rfl rfl w) ?_
  simp only [Act.put, nA, nB, nC]
  refine Seq.store rfl rfl rfl rfl rfl (by repeat (first | exact rS | refine rN (by assumption) ?_)) (n := 6) rfl rfl (by kernel_rfl) (VC_one _ _) ?_
  simp only [Act.put, nA, nB, nC]
  refine Seq.done fun ws3 hws => ?_
  have HS3 := hws.list1 (p := bk4) (by repeat (first | exact rS | refine rN (by assumption) ?_))
  clear HS2 hws HPbk4
  go_wp2_with fail
  exact ret_own rfl rfl rfl HS3 (by repeat (first | exact mC | apply mT)) (n := 6) rfl (by kernel_rfl) ⟨rfl, HS3.below⟩
set_option maxHeartbeats 2000000 in
set_option maxRecDepth 20000 in
theorem smul_w {k : Nat} {al ah : Rat} {ag : Bool} {a1 a2 : RT} {bl bh : Rat} {bg : Bool} {b1 b2 : RT} {z0 : Rat} {z1 : Rat} {W : World} {l : List Own} (hT : Tab W) (Za : RawS k al ah ag a1 a2) (Zb : RawS k bl bh bg b1 b2) (hz0 : minQ (minQ (minQ (al * bl) (al * bh)) (ah * bl)) (ah * bh) = z0) (hz1 : maxQ (maxQ (maxQ (al * bl) (al * bh)) (ah * bl)) (ah * bh) = z1) (hk0 : 2 ≤ k) (hk : k ≤ 500000000000) (w : World) (h : St W l w) :
    Calls Tryd.prog 109 #[.agg (SW a1 a2), .agg (SW b1 b2)] w fun e w' => e = .returned (.agg (VC z0 z1)) ∧ Below w.heap.size w w' := by
  subst hz0
  subst hz1
  have HT := Lib.hid (tabS hT h); clear hT h
  have Z_a := Lib.hid Za; clear Za
  have Z_b := Lib.hid Zb; clear Zb
  go_enter Tryd.func109, Tryd.ntmps109
  have HS : St w [] w := St.start
  go_upto_region 0 with (fail)
  refine wp_seq_text [] (StR.no HS) ?_
  refine Seq.box rfl rfl rfl (v := .agg (SW a1 a2)) (cs := SW a1 a2) rfl rfl ?_
  intro bk2 _ _ hbk2_r
  simp only [Act.put, nA, nB, nC]
  refine Seq.box rfl rfl rfl (v := .agg (SW b1 b2)) (cs := SW b1 b2) rfl rfl ?_
  intro bk3 _ _ hbk3_r
  obtain ⟨ne_bk3_bk2, hbk3_r⟩ := Reg.ne_of_put hbk3_r
  have ne_bk2_bk3 := Ne.symm ne_bk3_bk2
  simp only [Act.put, nA, nB, nC]
  refine Seq.alloc rfl rfl rfl (z := .agg (SW rz0 rz0)) (by kernel_rfl) rfl ?_
  intro bk4 _ _ hbk4_r
  obtain ⟨ne_bk4_bk3, hbk4_r⟩ := Reg.ne_of_put hbk4_r
  have ne_bk3_bk4 := Ne.symm ne_bk4_bk3
  obtain ⟨ne_bk4_bk2, hbk4_r⟩ := Reg.ne_of_put hbk4_r
  have ne_bk2_bk4 := Ne.symm ne_bk4_bk2
  simp only [Act.put, nA, nB, nC]
  refine Seq.done fun ws1 hws => ?_
  have HS1 := hws.list3 (p := bk2) (q := bk3) (r := bk4) (by repeat (first | exact rS | refine rN (by assumption) ?_)) (by repeat (first | exact rS | refine rN (by assumption) ?_)) (by repeat (first | exact rS | refine rN (by assumption) ?_)) (by assumption) (by assumption) (by assumption)
  clear HS hws
  go_upto_region 1 with (fail)
  have HPbk3 := HS1.f1
  have HPbk2 := HPbk3.f1
  refine wp_seq [0, 4] (by kernel_rfl) (by kernel_rfl) (Reg.fin.put (Reg.fin.put Reg.fin_no _ _) _ _) (StR.move (StR.move (StR.no HPbk2))) ?_
  refine Seq.get rfl rfl rfl rfl (by repeat (first | exact rS | refine rN (by assumption) ?_)) (n := 6) rfl (by kernel_rfl) ?_
  simp only [Act.put, nA, nB, nC]
  refine Seq.call rfl rfl rfl rfl (by kernel_rfl) (sfit_w (k := (1 * k + 2)) (a1 := a1) (a2 := a2) HT.out (Z_a.out.more (by omega))  rfl rfl (by omega) (by omega)) ?_
  simp only [Act.put, nA, nB, nC]
  refine Seq.get rfl rfl rfl rfl (by repeat (first | exact rS | refine rN (by assumption) ?_)) (n := 6) rfl (by kernel_rfl) ?_
  simp only [Act.put, nA, nB, nC]
  refine Seq.call rfl rfl rfl rfl (by kernel_rfl) (sfit_w (k := (1 * k + 2)) (a1 := b1) (a2 := b2) HT.out (Z_b.out.more (by omega))  rfl rfl (by omega) (by omega)) ?_
  simp only [Act.put, nA, nB, nC]
  refine Seq.store rfl rfl rfl rfl rfl (by repeat (first | exact rS | refine rN (by assumption) ?_)) (n := 6) rfl rfl (by kernel_rfl) (VC_one _ _) ?_
  simp only [Act.put, nA, nB, nC]
  refine Seq.store rfl rfl rfl rfl rfl (by repeat (first | exact rS | refine rN (by assumption) ?_)) (n := 6) rfl rfl (by kernel_rfl) (VC_one _ _) ?_
  simp only [Act.put, nA, nB, nC]
  refine Seq.done fun ws2 hws => ?_
  have HS2 := hws.list2 (p := bk2) (q := bk3) (by repeat (first | exact rS | refine rN (by assumption) ?_)) (by repeat (first | exact rS | refine rN (by assumption) ?_)) (by assumption)
  clear HS1 hws HPbk3 HPbk2
  go_upto_region 2 with (fail)
  have HPbk4 := HS2.f2
  refine wp_seq [43] (by kernel_rfl) (by kernel_rfl) (Reg.fin.put Reg.fin_no _ _) (StR.move (StR.no HPbk4)) ?_
  refine Seq.pure rfl rfl (by intro w; go_simp; try rfl) ?_
  simp only [Act.put, nA, nB, nC]
  refine Seq.loadAt rfl rfl rfl rfl (by repeat (first | exact mC | apply mT)) (n := 3) (cs' := RC al) (Nat.le_of_ble_eq_true rfl) (by kernel_rfl) rfl ?_
  simp only [Act.put, nA, nB, nC]
  refine Seq.pure rfl rfl (by intro w; go_simp; try rfl) ?_
  simp only [Act.put, nA, nB, nC]
  refine Seq.loadAt rfl rfl rfl rfl (by repeat (first | exact mC | apply mT)) (n := 3) (cs' := RC bl) (Nat.le_of_ble_eq_true rfl) (by kernel_rfl) rfl ?_
  simp only [Act.put, nA, nB, nC]
  refine Seq.call rfl rfl rfl rfl (by kernel_rfl) (mul_q (k := (1 * k + 0)) HT.out ((Z_a.out.rz (by omega)).1.more (by omega)) ((Z_b.out.rz (by omega)).1.more (by omega)) rfl (by omega)) ?_
  simp only [Act.put, nA, nB, nC]
  refine Seq.pure rfl rfl (by intro w; go_simp; try rfl) ?_
  simp only [Act.put, nA, nB, nC]
  refine Seq.loadAt rfl rfl rfl rfl (by repeat (first | exact mC | apply mT)) (n := 3) (cs' := RC al) (Nat.le_of_ble_eq_true rfl) (by kernel_rfl) rfl ?_
  simp only [Act.put, nA, nB, nC]
  refine Seq.pure rfl rfl (by intro w; go_simp; try rfl) ?_
  simp only [Act.put, nA, nB, nC]
  refine Seq.loadAt rfl rfl rfl rfl (by repeat (first | exact mC | apply mT)) (n := 3) (cs' := RC bh) (Nat.le_of_ble_eq_true rfl) (by kernel_rfl) rfl ?_
  simp only [Act.put, nA, nB, nC]
  refine Seq.call rfl rfl rfl rfl (by kernel_rfl) (mul_q (k := (1 * k + 0)) HT.out ((Z_a.out.rz (by omega)).1.more (by omega)) ((Z_b.out.rz (by omega)).2.more (by omega)) rfl (by omega)) ?_
  simp only [Act.put, nA, nB, nC]
  refine Seq.pure rfl rfl (by intro w; go_simp; try rfl) ?_
  simp only [Act.put, nA, nB, nC]
  refine Seq.loadAt rfl rfl rfl rfl (by repeat (first | exact mC | apply mT)) (n := 3) (cs' := RC ah) (Nat.le_of_ble_eq_true rfl) (by kernel_rfl) rfl ?_
  simp only [Act.put, nA, nB, nC]
  refine Seq.pure rfl rfl (by intro w; go_simp; try rfl) ?_
  simp only [Act.put, nA, nB, nC]
  refine Seq.loadAt rfl rfl rfl rfl (by repeat (first | exact mC | apply mT)) (n := 3) (cs' := RC bl) (Nat.le_of_ble_eq_true rfl) (by kernel_rfl) rfl ?_
  simp only [Act.put, nA, nB, nC]
  refine Seq.call rfl rfl rfl rfl (by kernel_rfl) (mul_q (k := (1 * k + 0)) HT.out ((Z_a.out.rz (by omega)).2.more (by omega)) ((Z_b.out.rz (by omega)).1.more (by omega)) rfl (by omega)) ?_
  simp only [Act.put, nA, nB, nC]
  refine Seq.pure rfl rfl (by intro w; go_simp; try rfl) ?_
  simp only [Act.put, nA, nB, nC]
  refine Seq.loadAt rfl rfl rfl rfl (by repeat (first | exact mC | apply mT)) (n := 3) (cs' := RC ah) (Nat.le_of_ble_eq_true rfl) (by kernel_rfl) rfl ?_
  simp only [Act.put, nA, nB, nC]
  refine Seq.pure rfl rfl (by intro w; go_simp; try rfl) ?_
  simp only [Act.put, nA, nB, nC]
  refine Seq.loadAt rfl rfl rfl rfl (by repeat (first | exact mC | apply mT)) (n := 3) (cs' := RC bh) (Nat.le_of_ble_eq_true rfl) (by kernel_rfl) rfl ?_
  simp only [Act.put, nA, nB, nC]
  refine Seq.call rfl rfl rfl rfl (by kernel_rfl) (mul_q (k := (1 * k + 0)) HT.out ((Z_a.out.rz (by omega)).2.more (by omega)) ((Z_b.out.rz (by omega)).2.more (by omega)) rfl (by omega)) ?_
  simp only [Act.put, nA, nB, nC]
  refine Seq.slice (n := 4) (e := 23) (cs := SL4 (al * bl) (al * bh) (ah * bl) (ah * bh)) rfl rfl (fun w => slc_4 rfl rfl rfl rfl rfl w) ?_
  intro bk29 _ _ hbk29_r
  obtain ⟨ne_bk29_bk4, hbk29_r⟩ := Reg.ne_of_put hbk29_r
  have ne_bk4_bk29 := Ne.symm ne_bk29_bk4
  simp only [Act.put, nA, nB, nC]
  refine Seq.callAny rfl rfl rfl rfl (by kernel_rfl) (fun w h => around_4 (k := (2 * k + 0)) HT.out (((Z_a.out.rz (by omega)).1.mul (Z_b.out.rz (by omega)).1).more (by omega)) (((Z_a.out.rz (by omega)).1.mul (Z_b.out.rz (by omega)).2).more (by omega)) (((Z_a.out.rz (by omega)).2.mul (Z_b.out.rz (by omega)).1).more (by omega)) (((Z_a.out.rz (by omega)).2.mul (Z_b.out.rz (by omega)).2).more (by omega)) rfl rfl (by omega) _ w h.st (h.reg _ _ _ (by repeat (first | exact rS | refine rN (by assumption) ?_))).2.2) ?_
  simp only [Act.put, nA, nB, nC]
  refine Seq.store rfl rfl rfl rfl rfl (by repeat (first | exact rS | refine rN (by assumption) ?_)) (n := 6) rfl rfl (by kernel_rfl) (VC_one _ _) ?_
  simp only [Act.put, nA, nB, nC]
  refine Seq.done fun ws3 hws => ?_
  have HS3 := hws.list2 (p := bk4) (q := bk29) (by repeat (first | exact rS | refine rN (by assumption) ?_)) (by repeat (first | exact rS | refine rN (by assumption) ?_)) (by assumption)
  clear HS2 hws HPbk4
  go_wp2_with fail
  exact ret_own rfl rfl rfl HS3 (by repeat (first | exact mC | apply mT)) (n := 6) rfl (by kernel_rfl) ⟨rfl, HS3.below⟩
set_option maxHeartbeats 2000000 in
set_option maxRecDepth 20000 in
theorem cends_w {k : Nat} {al ah : Rat} {ag : Bool} {a1 a2 : RT} {z0 : Rat} {z1 : Rat} {W : World} {l : List Own} (hT : Tab W) (Za : RawS k al ah ag a1 a2) (hz0 : al = z0) (hz1 : ah = z1) (hk0 : 2 ≤ k) (hk : k ≤ 999999999998) (w : World) (h : St W l w) :
    Calls Tryd.prog 105 #[.agg (SW a1 a2)] w fun e w' => e = .returned (.tuple #[.agg (RC z0), .agg (RC z1)]) ∧ Below w.heap.size w w' := by
  subst hz0
  subst hz1
  have HT := Lib.hid (tabS hT h); clear hT h
  have Z_a := Lib.hid Za; clear Za
  have HZ := Lib.hid (Z_a.out.rz hk0)
  cases ag
  · obtain ⟨hE1, hE2⟩ := Z_a.out.no rfl
    have HG : Hid (false = false) := Lib.hid rfl
    have HR := Lib.hid (show Value.tuple #[.agg (RC 0), .agg (RC 0)] = .tuple #[.agg (RC al), .agg (RC ah)] from by rw [hE1, hE2]); clear hE1 hE2
    go_enter Tryd.func105, Tryd.ntmps105
    have HS : St w [] w := St.start
    go_upto_region 0 with (fail)
    refine wp_seq_text [] (StR.no HS) ?_
    refine Seq.box rfl rfl rfl (v := .agg (SW a1 a2)) (cs := SW a1 a2) rfl rfl ?_
    intro bk1 _ _ hbk1_r
    simp only [Act.put, nA, nB, nC]
    refine Seq.alloc rfl rfl rfl (z := .agg (RT.c rz0)) (by kernel_rfl) rfl ?_
    intro bk2 _ _ hbk2_r
    obtain ⟨ne_bk2_bk1, hbk2_r⟩ := Reg.ne_of_put hbk2_r
    have ne_bk1_bk2 := Ne.symm ne_bk2_bk1
    simp only [Act.put, nA, nB, nC]
    refine Seq.alloc rfl rfl rfl (z := .agg (RT.c rz0)) (by kernel_rfl) rfl ?_
    intro bk3 _ _ hbk3_r
    obtain ⟨ne_bk3_bk2, hbk3_r⟩ := Reg.ne_of_put hbk3_r
    have ne_bk2_bk3 := Ne.symm ne_bk3_bk2
    obtain ⟨ne_bk3_bk1, hbk3_r⟩ := Reg.ne_of_put hbk3_r
    have ne_bk1_bk3 := Ne.symm ne_bk3_bk1
    simp only [Act.put, nA, nB, nC]
    refine Seq.done fun ws1 hws => ?_
    have HS1 := hws.list3 (p := bk1) (q := bk2) (r := bk3) (by repeat (first | exact rS | refine rN (by assumption) ?_)) (by repeat (first | exact rS | refine rN (by assumption) ?_)) (by repeat (first | exact rS | refine rN (by assumption) ?_)) (by assumption) (by assumption) (by assumption)
    clear HS hws
    go_upto_region 1 with (fail)
    refine wp_seq_text [] (StR.no HS1) ?_
    refine Seq.load rfl rfl rfl rfl (by repeat (first | exact mC | apply mT)) (n := 6) rfl (by kernel_rfl) ?_
    simp only [Act.put, nA, nB, nC]
    refine Seq.call rfl rfl rfl rfl (by kernel_rfl) (sgood_w (k := (1 * k + 2)) (a1 := a1) (a2 := a2) HT.out (Z_a.out.more (by omega))  HG.out (by omega) (by omega)) ?_
    simp only [Act.put, nA, nB, nC]
    refine Seq.pure rfl rfl (by intro w; go_simp; try rfl) ?_
    simp only [Act.put, nA, nB, nC]
    refine Seq.done fun ws2 hws => ?_
    have HS2 := hws.st
    clear HS1 hws
    go_upto_region 2 with (fail)
    have HPbk3 := HS2.f2
    have HPbk2 := HPbk3.f2
    refine wp_seq_text [] (StR.move (StR.move (StR.no HPbk2))) ?_
    refine Seq.call rfl rfl rfl rfl (by kernel_rfl) (of_q HT.out (by omega) (by omega) (show ((0 : Int) : Rat) = (0 : Rat) from rfl)) ?_
    simp only [Act.put, nA, nB, nC]
    refine Seq.call rfl rfl rfl rfl (by kernel_rfl) (of_q HT.out (by omega) (by omega) (show ((0 : Int) : Rat) = (0 : Rat) from rfl)) ?_
    simp only [Act.put, nA, nB, nC]
    refine Seq.store rfl rfl rfl rfl rfl (by repeat (first | exact rS | refine rN (by assumption) ?_)) (n := 3) rfl rfl (by kernel_rfl) (RC_one _) ?_
    simp only [Act.put, nA, nB, nC]
    refine Seq.store rfl rfl rfl rfl rfl (by repeat (first | exact rS | refine rN (by assumption) ?_)) (n := 3) rfl rfl (by kernel_rfl) (RC_one _) ?_
    simp only [Act.put, nA, nB, nC]
    refine Seq.done fun ws3 hws => ?_
    have HS3 := hws.list2 (p := bk2) (q := bk3) (by repeat (first | exact rS | refine rN (by assumption) ?_)) (by repeat (first | exact rS | refine rN (by assumption) ?_)) (by assumption)
    clear HS2 hws HPbk3 HPbk2
    go_wp2_with fail
    exact ret_cells rfl rfl rfl rfl HS3 (by repeat (first | exact mC | apply mT)) (by repeat (first | exact mC | apply mT)) (n := 3) (n2 := 3) rfl rfl (by kernel_rfl) (by kernel_rfl) ⟨congrArg Ending.returned HR.out, HS3.below⟩
  · obtain ⟨hE1, hE2, hle⟩ := Z_a.out.yes
    have HG : Hid (true = true) := Lib.hid rfl
    go_enter Tryd.func105, Tryd.ntmps105
    have HS : St w [] w := St.start
    go_upto_region 0 with (fail)
    refine wp_seq_text [] (StR.no HS) ?_
    refine Seq.box rfl rfl rfl (v := .agg (SW a1 a2)) (cs := SW a1 a2) rfl rfl ?_
    intro bk1 _ _ hbk1_r
    simp only [Act.put, nA, nB, nC]
    refine Seq.alloc rfl rfl rfl (z := .agg (RT.c rz0)) (by kernel_rfl) rfl ?_
    intro bk2 _ _ hbk2_r
    obtain ⟨ne_bk2_bk1, hbk2_r⟩ := Reg.ne_of_put hbk2_r
    have ne_bk1_bk2 := Ne.symm ne_bk2_bk1
    simp only [Act.put, nA, nB, nC]
    refine Seq.alloc rfl rfl rfl (z := .agg (RT.c rz0)) (by kernel_rfl) rfl ?_
    intro bk3 _ _ hbk3_r
    obtain ⟨ne_bk3_bk2, hbk3_r⟩ := Reg.ne_of_put hbk3_r
    have ne_bk2_bk3 := Ne.symm ne_bk3_bk2
    obtain ⟨ne_bk3_bk1, hbk3_r⟩ := Reg.ne_of_put hbk3_r
    have ne_bk1_bk3 := Ne.symm ne_bk3_bk1
    simp only [Act.put, nA, nB, nC]
    refine Seq.done fun ws1 hws => ?_
    have HS1 := hws.list3 (p := bk1) (q := bk2) (r := bk3) (by repeat (first | exact rS | refine rN (by assumption) ?_)) (by repeat (first | exact rS | refine rN (by assumption) ?_)) (by repeat (first | exact rS | refine rN (by assumption) ?_)) (by assumption) (by assumption) (by assumption)
    clear HS hws
    go_upto_region 1 with (fail)
    refine wp_seq_text [] (StR.no HS1) ?_
    refine Seq.load rfl rfl rfl rfl (by repeat (first | exact mC | apply mT)) (n := 6) rfl (by kernel_rfl) ?_
    simp only [Act.put, nA, nB, nC]
    refine Seq.call rfl rfl rfl rfl (by kernel_rfl) (sgood_w (k := (1 * k + 2)) (a1 := a1) (a2 := a2) HT.out (Z_a.out.more (by omega))  HG.out (by omega) (by omega)) ?_
    simp only [Act.put, nA, nB, nC]
    refine Seq.pure rfl rfl (by intro w; go_simp; try rfl) ?_
    simp only [Act.put, nA, nB, nC]
    refine Seq.done fun ws2 hws => ?_
    have HS2 := hws.st
    clear HS1 hws
    subst hE1 hE2
    go_upto_region 3 with (fail)
    have HPbk3 := HS2.f2
    have HPbk2 := HPbk3.f2
    refine wp_seq [] (by kernel_rfl) (by kernel_rfl) (Reg.fin.put (Reg.fin.put Reg.fin_no _ _) _ _) (StR.move (StR.move (StR.no HPbk2))) ?_
    refine Seq.pure rfl rfl (by intro w; go_simp; try rfl) ?_
    simp only [Act.put, nA, nB, nC]
    refine Seq.loadAt rfl rfl rfl rfl (by repeat (first | exact mC | apply mT)) (n := 3) (cs' := RC al) (Nat.le_of_ble_eq_true rfl) (by kernel_rfl) rfl ?_
    simp only [Act.put, nA, nB, nC]
    refine Seq.pure rfl rfl (by intro w; go_simp; try rfl) ?_
    simp only [Act.put, nA, nB, nC]
    refine Seq.loadAt rfl rfl rfl rfl (by repeat (first | exact mC | apply mT)) (n := 3) (cs' := RC ah) (Nat.le_of_ble_eq_true rfl) (by kernel_rfl) rfl ?_
    simp only [Act.put, nA, nB, nC]
    refine Seq.store rfl rfl rfl rfl rfl (by repeat (first | exact rS | refine rN (by assumption) ?_)) (n := 3) rfl rfl (by kernel_rfl) (RC_one _) ?_
    simp only [Act.put, nA, nB, nC]
    refine Seq.store rfl rfl rfl rfl rfl (by repeat (first | exact rS | refine rN (by assumption) ?_)) (n := 3) rfl rfl (by kernel_rfl) (RC_one _) ?_
    simp only [Act.put, nA, nB, nC]
    refine Seq.done fun ws3 hws => ?_
    have HS3 := hws.list2 (p := bk2) (q := bk3) (by repeat (first | exact rS | refine rN (by assumption) ?_)) (by repeat (first | exact rS | refine rN (by assumption) ?_)) (by assumption)
    clear HS2 hws HPbk3 HPbk2
    go_wp2_with fail
    exact ret_cells rfl rfl rfl rfl HS3 (by repeat (first | exact mC | apply mT)) (by repeat (first | exact mC | apply mT)) (n := 3) (n2 := 3) rfl rfl (by kernel_rfl) (by kernel_rfl) ⟨rfl, HS3.below⟩
set_option maxHeartbeats 2000000 in
set_option maxRecDepth 20000 in
theorem cadd_w {k : Nat} {t : Rat} {a : Rat} {a_g : Bool} {a_t : RT} {z0 : Rat} {z1 : Rat} {W : World} {l : List Own} (hT : Tab W) (Zt : Rz k t) (Za : RawT k a a_g a_t) (hz0 : t + a = z0) (hz1 : (1 : Rat) - (a * t) = z1) (hk0 : 2 ≤ k) (hk : k ≤ 1000000000000) (w : World) (h : St W l w) :
    Calls Tryd.prog 106 #[.agg (RC t), .agg (RT.c a_t)] w fun e w' => e = .returned (.tuple #[.agg (RC z0), .agg (RC z1)]) ∧ Below w.heap.size w w' := by
  subst hz0
  subst hz1
  have HT := Lib.hid (tabS hT h); clear hT h
  have Z_t := Lib.hid Zt; clear Zt
  have Z_a := Lib.hid Za; clear Za
  go_enter Tryd.func106, Tryd.ntmps106
  have HS : St w [] w := St.start
  go_upto_region 0 with (fail)
  refine wp_seq_text [] (StR.no HS) ?_
  refine Seq.box rfl rfl rfl (v := .agg (RC t)) (cs := RC t) rfl rfl ?_
  intro bk2 _ _ hbk2_r
  simp only [Act.put, nA, nB, nC]
  refine Seq.box rfl rfl rfl (v := .agg (RT.c a_t)) (cs := RT.c a_t) rfl rfl ?_
  intro bk3 _ _ hbk3_r
  obtain ⟨ne_bk3_bk2, hbk3_r⟩ := Reg.ne_of_put hbk3_r
  have ne_bk2_bk3 := Ne.symm ne_bk3_bk2
  simp only [Act.put, nA, nB, nC]
  refine Seq.alloc rfl rfl rfl (z := .agg (RT.c rz0)) (by kernel_rfl) rfl ?_
  intro bk4 _ _ hbk4_r
  obtain ⟨ne_bk4_bk3, hbk4_r⟩ := Reg.ne_of_put hbk4_r
  have ne_bk3_bk4 := Ne.symm ne_bk4_bk3
  obtain ⟨ne_bk4_bk2, hbk4_r⟩ := Reg.ne_of_put hbk4_r
  have ne_bk2_bk4 := Ne.symm ne_bk4_bk2
  simp only [Act.put, nA, nB, nC]
  refine Seq.alloc rfl rfl rfl (z := .agg (RT.c rz0)) (by kernel_rfl) rfl ?_
  intro bk5 _ _ hbk5_r
  obtain ⟨ne_bk5_bk4, hbk5_r⟩ := Reg.ne_of_put hbk5_r
  have ne_bk4_bk5 := Ne.symm ne_bk5_bk4
  obtain ⟨ne_bk5_bk3, hbk5_r⟩ := Reg.ne_of_put hbk5_r
  have ne_bk3_bk5 := Ne.symm ne_bk5_bk3
  obtain ⟨ne_bk5_bk2, hbk5_r⟩ := Reg.ne_of_put hbk5_r
  have ne_bk2_bk5 := Ne.symm ne_bk5_bk2
  simp only [Act.put, nA, nB, nC]
  refine Seq.done fun ws1 hws => ?_
  have HS1 : St w [(bk2, 23, RC t), (bk3, 23, RT.c a_t), (bk4, 23, RT.c rz0), (bk5, 23, RT.c rz0)] ws1 := hws.listN [(bk2, 23, RC t), (bk3, 23, RT.c a_t), (bk4, 23, RT.c rz0), (bk5, 23, RT.c rz0)] (by simp [*]) (by intro e he; simp only [List.mem_cons, List.not_mem_nil, or_false] at he; rcases he with rfl | rfl | rfl | rfl <;> first | exact Reg.put_same _ _ _ | (simp [Reg.put, *]; done) | (simp [Reg.put, *]; rfl))
  clear HS hws
  go_upto_region 1 with (fail)
  have HPbk5 := HS1.f3
  have HPbk4 := HPbk5.f3
  refine wp_seq [] (by kernel_rfl) (by kernel_rfl) (Reg.fin.put (Reg.fin.put Reg.fin_no _ _) _ _) (StR.move (StR.move (StR.no HPbk4))) ?_
  refine Seq.load rfl rfl rfl rfl (by repeat (first | exact mC | apply mT)) (n := 3) rfl (by kernel_rfl) ?_
  simp only [Act.put, nA, nB, nC]
  refine Seq.load rfl rfl rfl rfl (by repeat (first | exact mC | apply mT)) (n := 3) rfl (by kernel_rfl) ?_
  simp only [Act.put, nA, nB, nC]
  refine Seq.call rfl rfl rfl rfl (by kernel_rfl) (add_qw (k := (1 * k + 2)) HT.out (Z_t.out.more (by omega)) (Z_a.out.more (by omega)) rfl (by omega)) ?_
  simp only [Act.put, nA, nB, nC]
  refine Seq.call rfl rfl rfl rfl (by kernel_rfl) (of_q HT.out (by omega) (by omega) (show ((1 : Int) : Rat) = (1 : Rat) from rfl)) ?_
  simp only [Act.put, nA, nB, nC]
  refine Seq.load rfl rfl rfl rfl (by repeat (first | exact mC | apply mT)) (n := 3) rfl (by kernel_rfl) ?_
  simp only [Act.put, nA, nB, nC]
  refine Seq.load rfl rfl rfl rfl (by repeat (first | exact mC | apply mT)) (n := 3) rfl (by kernel_rfl) ?_
  simp only [Act.put, nA, nB, nC]
  refine Seq.call rfl rfl rfl rfl (by kernel_rfl) (mul_wq (k := (1 * k + 2)) HT.out (Z_a.out.more (by omega)) (Z_t.out.more (by omega)) rfl (by omega)) ?_
  simp only [Act.put, nA, nB, nC]
  refine Seq.call rfl rfl rfl rfl (by kernel_rfl) (sub_q (k := (2 * k + 2)) HT.out ((show Rz 2 (1 : Rat) from Rz.lit (z := 1) rfl (by decide)).more (by omega)) ((Rz.mul Z_a.out.rz Z_t.out).more (by omega)) rfl (by omega)) ?_
  simp only [Act.put, nA, nB, nC]
  refine Seq.store rfl rfl rfl rfl rfl (by repeat (first | exact rS | refine rN (by assumption) ?_)) (n := 3) rfl rfl (by kernel_rfl) (RC_one _) ?_
  simp only [Act.put, nA, nB, nC]
  refine Seq.store rfl rfl rfl rfl rfl (by repeat (first | exact rS | refine rN (by assumption) ?_)) (n := 3) rfl rfl (by kernel_rfl) (RC_one _) ?_
  simp only [Act.put, nA, nB, nC]
  refine Seq.done fun ws2 hws => ?_
  have HS2 := hws.list2 (p := bk4) (q := bk5) (by repeat (first | exact rS | refine rN (by assumption) ?_)) (by repeat (first | exact rS | refine rN (by assumption) ?_)) (by assumption)
  clear HS1 hws HPbk5 HPbk4
  go_wp2_with fail
  exact ret_cells rfl rfl rfl rfl HS2 (by repeat (first | exact mC | apply mT)) (by repeat (first | exact mC | apply mT)) (n := 3) (n2 := 3) rfl rfl (by kernel_rfl) (by kernel_rfl) ⟨rfl, HS2.below⟩
set_option maxHeartbeats 2000000 in
set_option maxRecDepth 20000 in
theorem turned_no {k : Nat} {sl sh : Rat} {sg : Bool} {s1 s2 : RT} {a : Rat} {a_g : Bool} {a_t : RT} {W : World} {l : List Own} (hT : Tab W) (Zs : RawS k sl sh sg s1 s2) (Za : RawT k a a_g a_t) (hok : tOk a sl sh = false) (hk0 : 2 ≤ k) (hk : k ≤ 999999999996) (w : World) (h : St W l w) :
    Calls Tryd.prog 81 #[.agg (SW s1 s2), .agg (RT.c a_t)] w fun e w' => e = .returned (.tuple #[.agg (SW rz0 rz0), .int .i64 18]) ∧ Below w.heap.size w w' := by
  have HT := Lib.hid (tabS hT h); clear hT h
  have Z_s := Lib.hid Zs; clear Zs
  have Z_a := Lib.hid Za; clear Za
  obtain ⟨v0, hv0⟩ : ∃ v, sgnQ (1 - a * sl) = v := ⟨_, rfl⟩
  obtain ⟨v1, hv1⟩ : ∃ v, sgnQ (1 - a * sh) = v := ⟨_, rfl⟩
  obtain ⟨pv, hpv, rpv⟩ : ∃ v, IntKind.i64.wrap (v0 * v1) = v ∧ decide (v ≤ 0) = true := ⟨_, rfl, by rw [← hv0, ← hv1, sgnQ_mul]; exact decide_eq_true (by rcases sgn_val ((1 - a * sl) * (1 - a * sh)) with h | h | h <;> rw [h.1] <;> first | decide | exact absurd h.2 (of_decide_eq_false hok))⟩
  have HV0 := Lib.hid hv0; clear hv0
  have HV1 := Lib.hid hv1; clear hv1
  have HPV := Lib.hid hpv; clear hpv
  clear hok
  go_enter Tryd.func81, Tryd.ntmps81
  have HS : St w [] w := St.start
  go_upto_region 0 with (fail)
  refine wp_seq_text [] (StR.no HS) ?_
  refine Seq.box rfl rfl rfl (v := .agg (SW s1 s2)) (cs := SW s1 s2) rfl rfl ?_
  intro bk2 _ _ hbk2_r
  simp only [Act.put, nA, nB, nC]
  refine Seq.box rfl rfl rfl (v := .agg (RT.c a_t)) (cs := RT.c a_t) rfl rfl ?_
  intro bk3 _ _ hbk3_r
  obtain ⟨ne_bk3_bk2, hbk3_r⟩ := Reg.ne_of_put hbk3_r
  have ne_bk2_bk3 := Ne.symm ne_bk3_bk2
  simp only [Act.put, nA, nB, nC]
  refine Seq.alloc rfl rfl rfl (z := .agg (SW rz0 rz0)) (by kernel_rfl) rfl ?_
  intro bk4 _ _ hbk4_r
  obtain ⟨ne_bk4_bk3, hbk4_r⟩ := Reg.ne_of_put hbk4_r
  have ne_bk3_bk4 := Ne.symm ne_bk4_bk3
  obtain ⟨ne_bk4_bk2, hbk4_r⟩ := Reg.ne_of_put hbk4_r
  have ne_bk2_bk4 := Ne.symm ne_bk4_bk2
  simp only [Act.put, nA, nB, nC]
  refine Seq.pure rfl rfl (by intro w; go_simp; try rfl) ?_
  simp only [Act.put, nA, nB, nC]
  refine Seq.done fun ws1 hws => ?_
  have HS1 := hws.list3 (p := bk2) (q := bk3) (r := bk4) (by repeat (first | exact rS | refine rN (by assumption) ?_)) (by repeat (first | exact rS | refine rN (by assumption) ?_)) (by repeat (first | exact rS | refine rN (by assumption) ?_)) (by assumption) (by assumption) (by assumption)
  clear HS hws
  go_upto_region 1 with (fail)
  refine wp_seq_text [] (StR.no HS1) ?_
  refine Seq.load rfl rfl rfl rfl (by repeat (first | exact mC | apply mT)) (n := 6) rfl (by kernel_rfl) ?_
  simp only [Act.put, nA, nB, nC]
  refine Seq.call rfl rfl rfl rfl (by kernel_rfl) (cends_w (k := (1 * k + 2)) (a1 := s1) (a2 := s2) HT.out (Z_s.out.more (by omega))  rfl rfl (by omega) (by omega)) ?_
  simp only [Act.put, nA, nB, nC]
  refine Seq.pure rfl rfl (by intro w; go_simp; try rfl) ?_
  simp only [Act.put, nA, nB, nC]
  refine Seq.pure (v := .agg (RC sl)) rfl rfl (fun w => rfl) ?_
  simp only [Act.put, nA, nB, nC]
  refine Seq.pure (v := .agg (RC sh)) rfl rfl (fun w => rfl) ?_
  simp only [Act.put, nA, nB, nC]
  refine Seq.alloc rfl rfl rfl (z := .agg (RT.c rz0)) (by kernel_rfl) rfl ?_
  intro bk6 _ _ hbk6_r
  simp only [Act.put, nA, nB, nC]
  refine Seq.alloc rfl rfl rfl (z := .agg (RT.c rz0)) (by kernel_rfl) rfl ?_
  intro bk7 _ _ hbk7_r
  obtain ⟨ne_bk7_bk6, hbk7_r⟩ := Reg.ne_of_put hbk7_r
  have ne_bk6_bk7 := Ne.symm ne_bk7_bk6
  simp only [Act.put, nA, nB, nC]
  refine Seq.store rfl rfl rfl rfl rfl (by repeat (first | exact rS | refine rN (by assumption) ?_)) (n := 3) rfl rfl (by kernel_rfl) (RC_one _) ?_
  simp only [Act.put, nA, nB, nC]
  refine Seq.store rfl rfl rfl rfl rfl (by repeat (first | exact rS | refine rN (by assumption) ?_)) (n := 3) rfl rfl (by kernel_rfl) (RC_one _) ?_
  simp only [Act.put, nA, nB, nC]
  refine Seq.done fun ws2 hws => ?_
  have HS2 := hws.list2 (p := bk6) (q := bk7) (by repeat (first | exact rS | refine rN (by assumption) ?_)) (by repeat (first | exact rS | refine rN (by assumption) ?_)) (by assumption)
  clear HS1 hws
  go_upto_region 2 with (fail)
  refine wp_seq_text [] (StR.no HS2) ?_
  refine Seq.load rfl rfl rfl rfl (by repeat (first | exact mC | apply mT)) (n := 3) rfl (by kernel_rfl) ?_
  simp only [Act.put, nA, nB, nC]
  refine Seq.load rfl rfl rfl rfl (by repeat (first | exact mC | apply mT)) (n := 3) rfl (by kernel_rfl) ?_
  simp only [Act.put, nA, nB, nC]
  refine Seq.call rfl rfl rfl rfl (by kernel_rfl) (cadd_w (k := (1 * k + 2)) (a_t := a_t) HT.out ((Z_s.out.rz (by omega)).1.more (by omega)) (Z_a.out.more (by omega))  rfl rfl (by omega) (by omega)) ?_
  simp only [Act.put, nA, nB, nC]
  refine Seq.pure rfl rfl (by intro w; go_simp; try rfl) ?_
  simp only [Act.put, nA, nB, nC]
  refine Seq.pure (v := .agg (RC (sl + a))) rfl rfl (fun w => rfl) ?_
  simp only [Act.put, nA, nB, nC]
  refine Seq.pure (v := .agg (RC ((1 : Rat) - (a * sl)))) rfl rfl (fun w => rfl) ?_
  simp only [Act.put, nA, nB, nC]
  refine Seq.alloc rfl rfl rfl (z := .agg (RT.c rz0)) (by kernel_rfl) rfl ?_
  intro bk8 _ _ hbk8_r
  simp only [Act.put, nA, nB, nC]
  refine Seq.alloc rfl rfl rfl (z := .agg (RT.c rz0)) (by kernel_rfl) rfl ?_
  intro bk9 _ _ hbk9_r
  obtain ⟨ne_bk9_bk8, hbk9_r⟩ := Reg.ne_of_put hbk9_r
  have ne_bk8_bk9 := Ne.symm ne_bk9_bk8
  simp only [Act.put, nA, nB, nC]
  refine Seq.store rfl rfl rfl rfl rfl (by repeat (first | exact rS | refine rN (by assumption) ?_)) (n := 3) rfl rfl (by kernel_rfl) (RC_one _) ?_
  simp only [Act.put, nA, nB, nC]
  refine Seq.store rfl rfl rfl rfl rfl (by repeat (first | exact rS | refine rN (by assumption) ?_)) (n := 3) rfl rfl (by kernel_rfl) (RC_one _) ?_
  simp only [Act.put, nA, nB, nC]
  refine Seq.done fun ws3 hws => ?_
  have HS3 := hws.list2 (p := bk8) (q := bk9) (by repeat (first | exact rS | refine rN (by assumption) ?_)) (by repeat (first | exact rS | refine rN (by assumption) ?_)) (by assumption)
  clear HS2 hws
  go_upto_region 3 with (fail)
  refine wp_seq_text [] (StR.no HS3) ?_
  refine Seq.load rfl rfl rfl rfl (by repeat (first | exact mC | apply mT)) (n := 3) rfl (by kernel_rfl) ?_
  simp only [Act.put, nA, nB, nC]
  refine Seq.load rfl rfl rfl rfl (by repeat (first | exact mC | apply mT)) (n := 3) rfl (by kernel_rfl) ?_
  simp only [Act.put, nA, nB, nC]
  refine Seq.call rfl rfl rfl rfl (by kernel_rfl) (cadd_w (k := (1 * k + 2)) (a_t := a_t) HT.out ((Z_s.out.rz (by omega)).2.more (by omega)) (Z_a.out.more (by omega))  rfl rfl (by omega) (by omega)) ?_
  simp only [Act.put, nA, nB, nC]
  refine Seq.pure rfl rfl (by intro w; go_simp; try rfl) ?_
  simp only [Act.put, nA, nB, nC]
  refine Seq.pure (v := .agg (RC (sh + a))) rfl rfl (fun w => rfl) ?_
  simp only [Act.put, nA, nB, nC]
  refine Seq.pure (v := .agg (RC ((1 : Rat) - (a * sh)))) rfl rfl (fun w => rfl) ?_
  simp only [Act.put, nA, nB, nC]
  refine Seq.alloc rfl rfl rfl (z := .agg (RT.c rz0)) (by kernel_rfl) rfl ?_
  intro bk10 _ _ hbk10_r
  simp only [Act.put, nA, nB, nC]
  refine Seq.alloc rfl rfl rfl (z := .agg (RT.c rz0)) (by kernel_rfl) rfl ?_
  intro bk11 _ _ hbk11_r
  obtain ⟨ne_bk11_bk10, hbk11_r⟩ := Reg.ne_of_put hbk11_r
  have ne_bk10_bk11 := Ne.symm ne_bk11_bk10
  simp only [Act.put, nA, nB, nC]
  refine Seq.store rfl rfl rfl rfl rfl (by repeat (first | exact rS | refine rN (by assumption) ?_)) (n := 3) rfl rfl (by kernel_rfl) (RC_one _) ?_
  simp only [Act.put, nA, nB, nC]
  refine Seq.store rfl rfl rfl rfl rfl (by repeat (first | exact rS | refine rN (by assumption) ?_)) (n := 3) rfl rfl (by kernel_rfl) (RC_one _) ?_
  simp only [Act.put, nA, nB, nC]
  refine Seq.done fun ws4 hws => ?_
  have HS4 := hws.list2 (p := bk10) (q := bk11) (by repeat (first | exact rS | refine rN (by assumption) ?_)) (by repeat (first | exact rS | refine rN (by assumption) ?_)) (by assumption)
  clear HS3 hws
  go_upto_region 4 with (fail)
  refine wp_seq [] (by kernel_rfl) (by kernel_rfl) Reg.fin_no (StR.no HS4) ?_
  refine Seq.load rfl rfl rfl rfl (by repeat (first | exact mC | apply mT)) (n := 3) rfl (by kernel_rfl) ?_
  simp only [Act.put, nA, nB, nC]
  refine Seq.call rfl rfl rfl rfl (by kernel_rfl) (sign_q (k := (4 * k + 5)) HT.out ((Rz.one2.sub (Z_a.out.rz.mul (Z_s.out.rz (by omega)).1)).more (by omega)) HV0.out (by omega)) ?_
  simp only [Act.put, nA, nB, nC]
  refine Seq.load rfl rfl rfl rfl (by repeat (first | exact mC | apply mT)) (n := 3) rfl (by kernel_rfl) ?_
  simp only [Act.put, nA, nB, nC]
  refine Seq.call rfl rfl rfl rfl (by kernel_rfl) (sign_q (k := (4 * k + 5)) HT.out ((Rz.one2.sub (Z_a.out.rz.mul (Z_s.out.rz (by omega)).2)).more (by omega)) HV1.out (by omega)) ?_
  simp only [Act.put, nA, nB, nC]
  refine Seq.pure (v := .int .i64 pv) rfl rfl (by intro w; go_simp <;> (first | (rw [HPV.out]; done) | exact HPV.out | (simp [HPV.out]; done) | (trace_state; done))) ?_
  simp only [Act.put, nA, nB, nC]
  refine Seq.pure rfl rfl (by intro w; go_simp; try rfl) ?_
  simp only [Act.put, nA, nB, nC]
  refine Seq.done fun ws5 hws => ?_
  have HS5 := hws.st
  clear HS4 hws
  go_upto_region 5 with (fail)
  have HPbk4 := HS5.f8
  refine wp_seq_text [] (StR.move (StR.no HPbk4)) ?_
  refine Seq.pure (v := .agg (SW rz0 rz0)) rfl rfl (by intro w; go_simp; try rfl) ?_
  simp only [Act.put, nA, nB, nC]
  refine Seq.store rfl rfl rfl rfl rfl (by repeat (first | exact rS | refine rN (by assumption) ?_)) (n := 6) rfl rfl (by kernel_rfl) (SW_one _ _) ?_
  simp only [Act.put, nA, nB, nC]
  refine Seq.pure rfl rfl (by intro w; go_simp; try rfl) ?_
  simp only [Act.put, nA, nB, nC]
  refine Seq.done fun ws6 hws => ?_
  have HS6 := hws.list1 (p := bk4) (by repeat (first | exact rS | refine rN (by assumption) ?_))
  clear HS5 hws HPbk4
  go_wp2_with fail
  exact ret_own2 rfl rfl rfl rfl HS6 (by repeat (first | exact mC | apply mT)) (n := 6) rfl (by kernel_rfl) ⟨rfl, HS6.below⟩
set_option maxHeartbeats 2000000 in
set_option maxRecDepth 20000 in
theorem turned_ok {k : Nat} {sl sh : Rat} {sg : Bool} {s1 s2 : RT} {a : Rat} {a_g : Bool} {a_t : RT} {z0 : Rat} {z1 : Rat} {W : World} {l : List Own} (hT : Tab W) (Zs : RawS k sl sh sg s1 s2) (Za : RawT k a a_g a_t) (hok : tOk a sl sh = true) (hz0 : tuQ a sl = z0) (hz1 : tuQ a sh = z1) (hk0 : 2 ≤ k) (hk : k ≤ 999999999996) (w : World) (h : St W l w) :
    Calls Tryd.prog 81 #[.agg (SW s1 s2), .agg (RT.c a_t)] w fun e w' => e = .returned (.tuple #[.agg (VC z0 z1), .int .i64 0]) ∧ Below w.heap.size w w' := by
  subst hz0
  subst hz1
  have HT := Lib.hid (tabS hT h); clear hT h
  have Z_s := Lib.hid Zs; clear Zs
  have Z_a := Lib.hid Za; clear Za
  have HNE := Lib.hid (tOk_ne hok)
  obtain ⟨v0, hv0⟩ : ∃ v, sgnQ (1 - a * sl) = v := ⟨_, rfl⟩
  obtain ⟨v1, hv1⟩ : ∃ v, sgnQ (1 - a * sh) = v := ⟨_, rfl⟩
  obtain ⟨pv, hpv, rpv⟩ : ∃ v, IntKind.i64.wrap (v0 * v1) = v ∧ decide (v ≤ 0) = false := ⟨_, rfl, by rw [← hv0, ← hv1, sgnQ_mul]; exact decide_eq_false (fun h => by rw [sgn_of_pos (of_decide_eq_true hok)] at h; exact absurd h (by decide))⟩
  have HV0 := Lib.hid hv0; clear hv0
  have HV1 := Lib.hid hv1; clear hv1
  have HPV := Lib.hid hpv; clear hpv
  clear hok
  go_enter Tryd.func81, Tryd.ntmps81
  have HS : St w [] w := St.start
  go_upto_region 0 with (fail)
  refine wp_seq_text [] (StR.no HS) ?_
  refine Seq.box rfl rfl rfl (v := .agg (SW s1 s2)) (cs := SW s1 s2) rfl rfl ?_
  intro bk2 _ _ hbk2_r
  simp only [Act.put, nA, nB, nC]
  refine Seq.box rfl rfl rfl (v := .agg (RT.c a_t)) (cs := RT.c a_t) rfl rfl ?_
  intro bk3 _ _ hbk3_r
  obtain ⟨ne_bk3_bk2, hbk3_r⟩ := Reg.ne_of_put hbk3_r
  have ne_bk2_bk3 := Ne.symm ne_bk3_bk2
  simp only [Act.put, nA, nB, nC]
  refine Seq.alloc rfl rfl rfl (z := .agg (SW rz0 rz0)) (by kernel_rfl) rfl ?_
  intro bk4 _ _ hbk4_r
  obtain ⟨ne_bk4_bk3, hbk4_r⟩ := Reg.ne_of_put hbk4_r
  have ne_bk3_bk4 := Ne.symm ne_bk4_bk3
  obtain ⟨ne_bk4_bk2, hbk4_r⟩ := Reg.ne_of_put hbk4_r
  have ne_bk2_bk4 := Ne.symm ne_bk4_bk2
  simp only [Act.put, nA, nB, nC]
  refine Seq.pure rfl rfl (by intro w; go_simp; try rfl) ?_
  simp only [Act.put, nA, nB, nC]
  refine Seq.done fun ws1 hws => ?_
  have HS1 := hws.list3 (p := bk2) (q := bk3) (r := bk4) (by repeat (first | exact rS | refine rN (by assumption) ?_)) (by repeat (first | exact rS | refine rN (by assumption) ?_)) (by repeat (first | exact rS | refine rN (by assumption) ?_)) (by assumption) (by assumption) (by assumption)
  clear HS hws
  go_upto_region 1 with (fail)
  refine wp_seq_text [] (StR.no HS1) ?_
  refine Seq.load rfl rfl rfl rfl (by repeat (first | exact mC | apply mT)) (n := 6) rfl (by kernel_rfl) ?_
  simp only [Act.put, nA, nB, nC]
  refine Seq.call rfl rfl rfl rfl (by kernel_rfl) (cends_w (k := (1 * k + 2)) (a1 := s1) (a2 := s2) HT.out (Z_s.out.more (by omega))  rfl rfl (by omega) (by omega)) ?_
  simp only [Act.put, nA, nB, nC]
  refine Seq.pure rfl rfl (by intro w; go_simp; try rfl) ?_
  simp only [Act.put, nA, nB, nC]
  refine Seq.pure (v := .agg (RC sl)) rfl rfl (fun w => rfl) ?_
  simp only [Act.put, nA, nB, nC]
  refine Seq.pure (v := .agg (RC sh)) rfl rfl (fun w => rfl) ?_
  simp only [Act.put, nA, nB, nC]
  refine Seq.alloc rfl rfl rfl (z := .agg (RT.c rz0)) (by kernel_rfl) rfl ?_
  intro bk6 _ _ hbk6_r
  simp only [Act.put, nA, nB, nC]
  refine Seq.alloc rfl rfl rfl (z := .agg (RT.c rz0)) (by kernel_rfl) rfl ?_
  intro bk7 _ _ hbk7_r
  obtain ⟨ne_bk7_bk6, hbk7_r⟩ := Reg.ne_of_put hbk7_r
  have ne_bk6_bk7 := Ne.symm ne_bk7_bk6
  simp only [Act.put, nA, nB, nC]
  refine Seq.store rfl rfl rfl rfl rfl (by repeat (first | exact rS | refine rN (by assumption) ?_)) (n := 3) rfl rfl (by kernel_rfl) (RC_one _) ?_
  simp only [Act.put, nA, nB, nC]
  refine Seq.store rfl rfl rfl rfl rfl (by repeat (first | exact rS | refine rN (by assumption) ?_)) (n := 3) rfl rfl (by kernel_rfl) (RC_one _) ?_
  simp only [Act.put, nA, nB, nC]
  refine Seq.done fun ws2 hws => ?_
  have HS2 := hws.list2 (p := bk6) (q := bk7) (by repeat (first | exact rS | refine rN (by assumption) ?_)) (by repeat (first | exact rS | refine rN (by assumption) ?_)) (by assumption)
  clear HS1 hws
  go_upto_region 2 with (fail)
  refine wp_seq_text [] (StR.no HS2) ?_
  refine Seq.load rfl rfl rfl rfl (by repeat (first | exact mC | apply mT)) (n := 3) rfl (by kernel_rfl) ?_
  simp only [Act.put, nA, nB, nC]
  refine Seq.load rfl rfl rfl rfl (by repeat (first | exact mC | apply mT)) (n := 3) rfl (by kernel_rfl) ?_
  simp only [Act.put, nA, nB, nC]
  refine Seq.call rfl rfl rfl rfl (by kernel_rfl) (cadd_w (k := (1 * k + 2)) (a_t := a_t) HT.out ((Z_s.out.rz (by omega)).1.more (by omega)) (Z_a.out.more (by omega))  rfl rfl (by omega) (by omega)) ?_
  simp only [Act.put, nA, nB, nC]
  refine Seq.pure rfl rfl (by intro w; go_simp; try rfl) ?_
  simp only [Act.put, nA, nB, nC]
  refine Seq.pure (v := .agg (RC (sl + a))) rfl rfl (fun w => rfl) ?_
  simp only [Act.put, nA, nB, nC]
  refine Seq.pure (v := .agg (RC ((1 : Rat) - (a * sl)))) rfl rfl (fun w => rfl) ?_
  simp only [Act.put, nA, nB, nC]
  refine Seq.alloc rfl rfl rfl (z := .agg (RT.c rz0)) (by kernel_rfl) rfl ?_
  intro bk8 _ _ hbk8_r
  simp only [Act.put, nA, nB, nC]
  refine Seq.alloc rfl rfl rfl (z := .agg (RT.c rz0)) (by kernel_rfl) rfl ?_
  intro bk9 _ _ hbk9_r
  obtain ⟨ne_bk9_bk8, hbk9_r⟩ := Reg.ne_of_put hbk9_r
  have ne_bk8_bk9 := Ne.symm ne_bk9_bk8
  simp only [Act.put, nA, nB, nC]
  refine Seq.store rfl rfl rfl rfl rfl (by repeat (first | exact rS | refine rN (by assumption) ?_)) (n := 3) rfl rfl (by kernel_rfl) (RC_one _) ?_
  simp only [Act.put, nA, nB, nC]
  refine Seq.store rfl rfl rfl rfl rfl (by repeat (first | exact rS | refine rN (by assumption) ?_)) (n := 3) rfl rfl (by kernel_rfl) (RC_one _) ?_
  simp only [Act.put, nA, nB, nC]
  refine Seq.done fun ws3 hws => ?_
  have HS3 := hws.list2 (p := bk8) (q := bk9) (by repeat (first | exact rS | refine rN (by assumption) ?_)) (by repeat (first | exact rS | refine rN (by assumption) ?_)) (by assumption)
  clear HS2 hws
  go_upto_region 3 with (fail)
  refine wp_seq_text [] (StR.no HS3) ?_
  refine Seq.load rfl rfl rfl rfl (by repeat (first | exact mC | apply mT)) (n := 3) rfl (by kernel_rfl) ?_
  simp only [Act.put, nA, nB, nC]
  refine Seq.load rfl rfl rfl rfl (by repeat (first | exact mC | apply mT)) (n := 3) rfl (by kernel_rfl) ?_
  simp only [Act.put, nA, nB, nC]
  refine Seq.call rfl rfl rfl rfl (by kernel_rfl) (cadd_w (k := (1 * k + 2)) (a_t := a_t) HT.out ((Z_s.out.rz (by omega)).2.more (by omega)) (Z_a.out.more (by omega))  rfl rfl (by omega) (by omega)) ?_
  simp only [Act.put, nA, nB, nC]
  refine Seq.pure rfl rfl (by intro w; go_simp; try rfl) ?_
  simp only [Act.put, nA, nB, nC]
  refine Seq.pure (v := .agg (RC (sh + a))) rfl rfl (fun w => rfl) ?_
  simp only [Act.put, nA, nB, nC]
  refine Seq.pure (v := .agg (RC ((1 : Rat) - (a * sh)))) rfl rfl (fun w => rfl) ?_
  simp only [Act.put, nA, nB, nC]
  refine Seq.alloc rfl rfl rfl (z := .agg (RT.c rz0)) (by kernel_rfl) rfl ?_
  intro bk10 _ _ hbk10_r
  simp only [Act.put, nA, nB, nC]
  refine Seq.alloc rfl rfl rfl (z := .agg (RT.c rz0)) (by kernel_rfl) rfl ?_
  intro bk11 _ _ hbk11_r
  obtain ⟨ne_bk11_bk10, hbk11_r⟩ := Reg.ne_of_put hbk11_r
  have ne_bk10_bk11 := Ne.symm ne_bk11_bk10
  simp only [Act.put, nA, nB, nC]
  refine Seq.store rfl rfl rfl rfl rfl (by repeat (first | exact rS | refine rN (by assumption) ?_)) (n := 3) rfl rfl (by kernel_rfl) (RC_one _) ?_
  simp only [Act.put, nA, nB, nC]
  refine Seq.store rfl rfl rfl rfl rfl (by repeat (first | exact rS | refine rN (by assumption) ?_)) (n := 3) rfl rfl (by kernel_rfl) (RC_one _) ?_
  simp only [Act.put, nA, nB, nC]
  refine Seq.done fun ws4 hws => ?_
  have HS4 := hws.list2 (p := bk10) (q := bk11) (by repeat (first | exact rS | refine rN (by assumption) ?_)) (by repeat (first | exact rS | refine rN (by assumption) ?_)) (by assumption)
  clear HS3 hws
  go_upto_region 4 with (fail)
  refine wp_seq [] (by kernel_rfl) (by kernel_rfl) Reg.fin_no (StR.no HS4) ?_
  refine Seq.load rfl rfl rfl rfl (by repeat (first | exact mC | apply mT)) (n := 3) rfl (by kernel_rfl) ?_
  simp only [Act.put, nA, nB, nC]
  refine Seq.call rfl rfl rfl rfl (by kernel_rfl) (sign_q (k := (4 * k + 5)) HT.out ((Rz.one2.sub (Z_a.out.rz.mul (Z_s.out.rz (by omega)).1)).more (by omega)) HV0.out (by omega)) ?_
  simp only [Act.put, nA, nB, nC]
  refine Seq.load rfl rfl rfl rfl (by repeat (first | exact mC | apply mT)) (n := 3) rfl (by kernel_rfl) ?_
  simp only [Act.put, nA, nB, nC]
  refine Seq.call rfl rfl rfl rfl (by kernel_rfl) (sign_q (k := (4 * k + 5)) HT.out ((Rz.one2.sub (Z_a.out.rz.mul (Z_s.out.rz (by omega)).2)).more (by omega)) HV1.out (by omega)) ?_
  simp only [Act.put, nA, nB, nC]
  refine Seq.pure (v := .int .i64 pv) rfl rfl (by intro w; go_simp <;> (first | (rw [HPV.out]; done) | exact HPV.out | (simp [HPV.out]; done) | (trace_state; done))) ?_
  simp only [Act.put, nA, nB, nC]
  refine Seq.pure rfl rfl (by intro w; go_simp; try rfl) ?_
  simp only [Act.put, nA, nB, nC]
  refine Seq.done fun ws5 hws => ?_
  have HS5 := hws.st
  clear HS4 hws
  go_upto_region 6 with (fail)
  refine wp_seq_text [] (StR.no HS5) ?_
  refine Seq.load rfl rfl rfl rfl (by repeat (first | exact mC | apply mT)) (n := 3) rfl (by kernel_rfl) ?_
  simp only [Act.put, nA, nB, nC]
  refine Seq.load rfl rfl rfl rfl (by repeat (first | exact mC | apply mT)) (n := 3) rfl (by kernel_rfl) ?_
  simp only [Act.put, nA, nB, nC]
  refine Seq.call rfl rfl rfl rfl (by kernel_rfl) (div_q (k := (4 * k + 5)) HT.out (((Z_s.out.rz (by omega)).1.add Z_a.out.rz).more (by omega)) ((Rz.one2.sub (Z_a.out.rz.mul (Z_s.out.rz (by omega)).1)).more (by omega)) HNE.out.1 rfl (by omega)) ?_
  simp only [Act.put, nA, nB, nC]
  refine Seq.pure rfl rfl (by intro w; go_simp; try rfl) ?_
  simp only [Act.put, nA, nB, nC]
  refine Seq.pure (v := .agg (RC (tuQ a sl))) rfl rfl (fun w => rfl) ?_
  simp only [Act.put, nA, nB, nC]
  refine Seq.pure (v := .int .i64 0) rfl rfl (fun w => rfl) ?_
  simp only [Act.put, nA, nB, nC]
  refine Seq.alloc rfl rfl rfl (z := .agg (RT.c rz0)) (by kernel_rfl) rfl ?_
  intro bk12 _ _ hbk12_r
  simp only [Act.put, nA, nB, nC]
  refine Seq.store rfl rfl rfl rfl rfl (by repeat (first | exact rS | refine rN (by assumption) ?_)) (n := 3) rfl rfl (by kernel_rfl) (RC_one _) ?_
  simp only [Act.put, nA, nB, nC]
  refine Seq.pure rfl rfl (by intro w; go_simp; try rfl) ?_
  simp only [Act.put, nA, nB, nC]
  refine Seq.done fun ws6 hws => ?_
  have HS6 := hws.list1 (p := bk12) (by repeat (first | exact rS | refine rN (by assumption) ?_))
  clear HS5 hws
  go_upto_region 7 with (fail)
  refine wp_seq_text [] (StR.no HS6) ?_
  refine Seq.load rfl rfl rfl rfl (by repeat (first | exact mC | apply mT)) (n := 3) rfl (by kernel_rfl) ?_
  simp only [Act.put, nA, nB, nC]
  refine Seq.load rfl rfl rfl rfl (by repeat (first | exact mC | apply mT)) (n := 3) rfl (by kernel_rfl) ?_
  simp only [Act.put, nA, nB, nC]
  refine Seq.call rfl rfl rfl rfl (by kernel_rfl) (div_q (k := (4 * k + 5)) HT.out (((Z_s.out.rz (by omega)).2.add Z_a.out.rz).more (by omega)) ((Rz.one2.sub (Z_a.out.rz.mul (Z_s.out.rz (by omega)).2)).more (by omega)) HNE.out.2 rfl (by omega)) ?_
  simp only [Act.put, nA, nB, nC]
  refine Seq.pure rfl rfl (by intro w; go_simp; try rfl) ?_
  simp only [Act.put, nA, nB, nC]
  refine Seq.pure (v := .agg (RC (tuQ a sh))) rfl rfl (fun w => rfl) ?_
  simp only [Act.put, nA, nB, nC]
  refine Seq.pure (v := .int .i64 0) rfl rfl (fun w => rfl) ?_
  simp only [Act.put, nA, nB, nC]
  refine Seq.alloc rfl rfl rfl (z := .agg (RT.c rz0)) (by kernel_rfl) rfl ?_
  intro bk14 _ _ hbk14_r
  simp only [Act.put, nA, nB, nC]
  refine Seq.store rfl rfl rfl rfl rfl (by repeat (first | exact rS | refine rN (by assumption) ?_)) (n := 3) rfl rfl (by kernel_rfl) (RC_one _) ?_
  simp only [Act.put, nA, nB, nC]
  refine Seq.pure rfl rfl (by intro w; go_simp; try rfl) ?_
  simp only [Act.put, nA, nB, nC]
  refine Seq.done fun ws7 hws => ?_
  have HS7 := hws.list1 (p := bk14) (by repeat (first | exact rS | refine rN (by assumption) ?_))
  clear HS6 hws
  go_upto_region 8 with (fail)
  have HPbk4 := HS7.f10
  refine wp_seq_text [] (StR.move (StR.no HPbk4)) ?_
  refine Seq.load rfl rfl rfl rfl (by repeat (first | exact mC | apply mT)) (n := 3) rfl (by kernel_rfl) ?_
  simp only [Act.put, nA, nB, nC]
  refine Seq.load rfl rfl rfl rfl (by repeat (first | exact mC | apply mT)) (n := 3) rfl (by kernel_rfl) ?_
  simp only [Act.put, nA, nB, nC]
  refine Seq.pure (v := .agg (VC (tuQ a sl) (tuQ a sh))) rfl rfl (fun w => bld_Span rfl rfl rfl w) ?_
  simp only [Act.put, nA, nB, nC]
  refine Seq.store rfl rfl rfl rfl rfl (by repeat (first | exact rS | refine rN (by assumption) ?_)) (n := 6) rfl rfl (by kernel_rfl) (VC_one _ _) ?_
  simp only [Act.put, nA, nB, nC]
  refine Seq.pure rfl rfl (by intro w; go_simp; try rfl) ?_
  simp only [Act.put, nA, nB, nC]
  refine Seq.done fun ws8 hws => ?_
  have HS8 := hws.list1 (p := bk4) (by repeat (first | exact rS | refine rN (by assumption) ?_))
  clear HS7 hws HPbk4
  go_wp2_with fail
  exact ret_own2 rfl rfl rfl rfl HS8 (by repeat (first | exact mC | apply mT)) (n := 6) rfl (by kernel_rfl) ⟨rfl, HS8.below⟩
set_option maxHeartbeats 2000000 in
set_option maxRecDepth 20000 in
theorem rotate_w {k : Nat} {xl xh : Rat} {xg : Bool} {x1 x2 : RT} {yl yh : Rat} {yg : Bool} {y1 y2 : RT} {t : Rat} {t_g : Bool} {t_t : RT} {z0 : Rat} {z1 : Rat} {z2 : Rat} {z3 : Rat} {W : World} {l : List Own} (hT : Tab W) (Zx : RawS k xl xh xg x1 x2) (Zy : RawS k yl yh yg y1 y2) (Zt : RawT k t t_g t_t) (hz0 : rX0 (cosT false t) (sinT t) xl xh yl yh = z0) (hz1 : rX1 (cosT false t) (sinT t) xl xh yl yh = z1) (hz2 : rY0 (cosT false t) (sinT t) xl xh yl yh = z2) (hz3 : rY1 (cosT false t) (sinT t) xl xh yl yh = z3) (hk0 : 2 ≤ k) (hk : k ≤ 62499999998) (w : World) (h : St W l w) :
    Calls Tryd.prog 82 #[.agg (SW x1 x2), .agg (SW y1 y2), .agg (UW false t_t)] w fun e w' => e = .returned (.tuple #[.agg (VC z0 z1), .agg (VC z2 z3)]) ∧ Below w.heap.size w w' := by
  subst hz0
  subst hz1
  subst hz2
  subst hz3
  have HT := Lib.hid (tabS hT h); clear hT h
  have Z_x := Lib.hid Zx; clear Zx
  have Z_y := Lib.hid Zy; clear Zy
  have Z_t := Lib.hid Zt; clear Zt
  obtain ⟨c, hc⟩ : ∃ c, cosT false t = c := ⟨_, rfl⟩
  obtain ⟨s, hs⟩ : ∃ c, sinT t = c := ⟨_, rfl⟩
  have Z_c := Lib.hid (show Rz (8 * k + 10) c from hc ▸ Rz.cosT false Z_t.out.rz)
  have Z_s := Lib.hid (show Rz (8 * k + 10) s from hs ▸ Rz.sinT Z_t.out.rz)
  have HR := Lib.hid (show Ending.returned (.tuple #[.agg (VC (rX0 c s xl xh yl yh) (rX1 c s xl xh yl yh)), .agg (VC (rY0 c s xl xh yl yh) (rY1 c s xl xh yl yh))]) = .returned (.tuple #[.agg (VC (rX0 (cosT false t) (sinT t) xl xh yl yh) (rX1 (cosT false t) (sinT t) xl xh yl yh)), .agg (VC (rY0 (cosT false t) (sinT t) xl xh yl yh) (rY1 (cosT false t) (sinT t) xl xh yl yh))]) from by rw [hc, hs])
  have HC := Lib.hid hc; clear hc
  have HS0 := Lib.hid hs; clear hs
  go_enter Tryd.func82, Tryd.ntmps82
  have HS : St w [] w := St.start
  go_upto_region 0 with (fail)
  refine wp_seq_text [] (StR.no HS) ?_
  refine Seq.box rfl rfl rfl (v := .agg (SW x1 x2)) (cs := SW x1 x2) rfl rfl ?_
  intro bk3 _ _ hbk3_r
  simp only [Act.put, nA, nB, nC]
  refine Seq.box rfl rfl rfl (v := .agg (SW y1 y2)) (cs := SW y1 y2) rfl rfl ?_
  intro bk4 _ _ hbk4_r
  obtain ⟨ne_bk4_bk3, hbk4_r⟩ := Reg.ne_of_put hbk4_r
  have ne_bk3_bk4 := Ne.symm ne_bk4_bk3
  simp only [Act.put, nA, nB, nC]
  refine Seq.box rfl rfl rfl (v := .agg (UW false t_t)) (cs := UW false t_t) rfl rfl ?_
  intro bk5 _ _ hbk5_r
  obtain ⟨ne_bk5_bk4, hbk5_r⟩ := Reg.ne_of_put hbk5_r
  have ne_bk4_bk5 := Ne.symm ne_bk5_bk4
  obtain ⟨ne_bk5_bk3, hbk5_r⟩ := Reg.ne_of_put hbk5_r
  have ne_bk3_bk5 := Ne.symm ne_bk5_bk3
  simp only [Act.put, nA, nB, nC]
  refine Seq.alloc rfl rfl rfl (z := .agg (SW rz0 rz0)) (by kernel_rfl) rfl ?_
  intro bk6 _ _ hbk6_r
  obtain ⟨ne_bk6_bk5, hbk6_r⟩ := Reg.ne_of_put hbk6_r
  have ne_bk5_bk6 := Ne.symm ne_bk6_bk5
  obtain ⟨ne_bk6_bk4, hbk6_r⟩ := Reg.ne_of_put hbk6_r
  have ne_bk4_bk6 := Ne.symm ne_bk6_bk4
  obtain ⟨ne_bk6_bk3, hbk6_r⟩ := Reg.ne_of_put hbk6_r
  have ne_bk3_bk6 := Ne.symm ne_bk6_bk3
  simp only [Act.put, nA, nB, nC]
  refine Seq.alloc rfl rfl rfl (z := .agg (SW rz0 rz0)) (by kernel_rfl) rfl ?_
  intro bk7 _ _ hbk7_r
  obtain ⟨ne_bk7_bk6, hbk7_r⟩ := Reg.ne_of_put hbk7_r
  have ne_bk6_bk7 := Ne.symm ne_bk7_bk6
  obtain ⟨ne_bk7_bk5, hbk7_r⟩ := Reg.ne_of_put hbk7_r
  have ne_bk5_bk7 := Ne.symm ne_bk7_bk5
  obtain ⟨ne_bk7_bk4, hbk7_r⟩ := Reg.ne_of_put hbk7_r
  have ne_bk4_bk7 := Ne.symm ne_bk7_bk4
  obtain ⟨ne_bk7_bk3, hbk7_r⟩ := Reg.ne_of_put hbk7_r
  have ne_bk3_bk7 := Ne.symm ne_bk7_bk3
  simp only [Act.put, nA, nB, nC]
  refine Seq.done fun ws1 hws => ?_
  have HS1 : St w [(bk3, 25, SW x1 x2), (bk4, 25, SW y1 y2), (bk5, 31, UW false t_t), (bk6, 25, SW rz0 rz0), (bk7, 25, SW rz0 rz0)] ws1 := hws.listN [(bk3, 25, SW x1 x2), (bk4, 25, SW y1 y2), (bk5, 31, UW false t_t), (bk6, 25, SW rz0 rz0), (bk7, 25, SW rz0 rz0)] (by simp [*]) (by intro e he; simp only [List.mem_cons, List.not_mem_nil, or_false] at he; rcases he with rfl | rfl | rfl | rfl | rfl <;> first | exact Reg.put_same _ _ _ | (simp [Reg.put, *]; done) | (simp [Reg.put, *]; rfl))
  clear HS hws
  go_upto_region 1 with (fail)
  refine wp_seq [] (by kernel_rfl) (by kernel_rfl) Reg.fin_no (StR.no HS1) ?_
  refine Seq.load rfl rfl rfl rfl (by repeat (first | exact mC | apply mT)) (n := 4) rfl (by kernel_rfl) ?_
  simp only [Act.put, nA, nB, nC]
  refine Seq.call rfl rfl rfl rfl (by kernel_rfl) (tcos_w (k := (1 * k + 2)) (t_t := t_t) HT.out (Z_t.out.more (by omega))  HC.out (by omega) (by omega)) ?_
  simp only [Act.put, nA, nB, nC]
  refine Seq.call rfl rfl rfl rfl (by kernel_rfl) (sof_w (k := (8 * k + 10)) (t_t := (rt c)) HT.out (RawT.rc (Z_c.out.more (by omega)))  rfl rfl (by omega) (by omega)) ?_
  simp only [Act.put, nA, nB, nC]
  refine Seq.load rfl rfl rfl rfl (by repeat (first | exact mC | apply mT)) (n := 4) rfl (by kernel_rfl) ?_
  simp only [Act.put, nA, nB, nC]
  refine Seq.call rfl rfl rfl rfl (by kernel_rfl) (tsin_w (k := (1 * k + 2)) (t_t := t_t) HT.out (Z_t.out.more (by omega))  HS0.out (by omega) (by omega)) ?_
  simp only [Act.put, nA, nB, nC]
  refine Seq.call rfl rfl rfl rfl (by kernel_rfl) (sof_w (k := (8 * k + 10)) (t_t := (rt s)) HT.out (RawT.rc (Z_s.out.more (by omega)))  rfl rfl (by omega) (by omega)) ?_
  simp only [Act.put, nA, nB, nC]
  refine Seq.alloc rfl rfl rfl (z := .agg (SW rz0 rz0)) (by kernel_rfl) rfl ?_
  intro bk8 _ _ hbk8_r
  simp only [Act.put, nA, nB, nC]
  refine Seq.alloc rfl rfl rfl (z := .agg (SW rz0 rz0)) (by kernel_rfl) rfl ?_
  intro bk9 _ _ hbk9_r
  obtain ⟨ne_bk9_bk8, hbk9_r⟩ := Reg.ne_of_put hbk9_r
  have ne_bk8_bk9 := Ne.symm ne_bk9_bk8
  simp only [Act.put, nA, nB, nC]
  refine Seq.store rfl rfl rfl rfl rfl (by repeat (first | exact rS | refine rN (by assumption) ?_)) (n := 6) rfl rfl (by kernel_rfl) (VC_one _ _) ?_
  simp only [Act.put, nA, nB, nC]
  refine Seq.store rfl rfl rfl rfl rfl (by repeat (first | exact rS | refine rN (by assumption) ?_)) (n := 6) rfl rfl (by kernel_rfl) (VC_one _ _) ?_
  simp only [Act.put, nA, nB, nC]
  refine Seq.done fun ws2 hws => ?_
  have HS2 := hws.list2 (p := bk8) (q := bk9) (by repeat (first | exact rS | refine rN (by assumption) ?_)) (by repeat (first | exact rS | refine rN (by assumption) ?_)) (by assumption)
  clear HS1 hws
  go_upto_region 2 with (fail)
  have HPbk7 := HS2.f6
  have HPbk6 := HPbk7.f6
  refine wp_seq [] (by kernel_rfl) (by kernel_rfl) (Reg.fin.put (Reg.fin.put Reg.fin_no _ _) _ _) (StR.move (StR.move (StR.no HPbk6))) ?_
  refine Seq.load rfl rfl rfl rfl (by repeat (first | exact mC | apply mT)) (n := 6) rfl (by kernel_rfl) ?_
  simp only [Act.put, nA, nB, nC]
  refine Seq.load rfl rfl rfl rfl (by repeat (first | exact mC | apply mT)) (n := 6) rfl (by kernel_rfl) ?_
  simp only [Act.put, nA, nB, nC]
  refine Seq.call rfl rfl rfl rfl (by kernel_rfl) (smul_w (k := (8 * k + 10)) (a1 := (rt c)) (a2 := (rt c)) (b1 := x1) (b2 := x2) HT.out (RawS.of Rat.le_refl (Z_c.out.more (by omega)) (Z_c.out.more (by omega))) (Z_x.out.more (by omega))  (min4' _ _) (max4' _ _) (by omega) (by omega)) ?_
  simp only [Act.put, nA, nB, nC]
  refine Seq.load rfl rfl rfl rfl (by repeat (first | exact mC | apply mT)) (n := 6) rfl (by kernel_rfl) ?_
  simp only [Act.put, nA, nB, nC]
  refine Seq.load rfl rfl rfl rfl (by repeat (first | exact mC | apply mT)) (n := 6) rfl (by kernel_rfl) ?_
  simp only [Act.put, nA, nB, nC]
  refine Seq.call rfl rfl rfl rfl (by kernel_rfl) (smul_w (k := (8 * k + 10)) (a1 := (rt s)) (a2 := (rt s)) (b1 := y1) (b2 := y2) HT.out (RawS.of Rat.le_refl (Z_s.out.more (by omega)) (Z_s.out.more (by omega))) (Z_y.out.more (by omega))  (min4' _ _) (max4' _ _) (by omega) (by omega)) ?_
  simp only [Act.put, nA, nB, nC]
  refine Seq.call rfl rfl rfl rfl (by kernel_rfl) (ssub_w (k := (9 * k + 10)) (a1 := (rt (minQ (c * xl) (c * xh)))) (a2 := (rt (maxQ (c * xl) (c * xh)))) (b1 := (rt (minQ (s * yl) (s * yh)))) (b2 := (rt (maxQ (s * yl) (s * yh)))) HT.out (RawS.of (minmax_le _ _) ((Rz.min (k := (9 * k + 10)) ((Z_c.out.mul (Z_x.out.rz (by omega)).1).more (by omega)) ((Z_c.out.mul (Z_x.out.rz (by omega)).2).more (by omega))).more (by omega)) ((Rz.max (k := (9 * k + 10)) ((Z_c.out.mul (Z_x.out.rz (by omega)).1).more (by omega)) ((Z_c.out.mul (Z_x.out.rz (by omega)).2).more (by omega))).more (by omega))) (RawS.of (minmax_le _ _) ((Rz.min (k := (9 * k + 10)) ((Z_s.out.mul (Z_y.out.rz (by omega)).1).more (by omega)) ((Z_s.out.mul (Z_y.out.rz (by omega)).2).more (by omega))).more (by omega)) ((Rz.max (k := (9 * k + 10)) ((Z_s.out.mul (Z_y.out.rz (by omega)).1).more (by omega)) ((Z_s.out.mul (Z_y.out.rz (by omega)).2).more (by omega))).more (by omega)))  rfl rfl (by omega) (by omega)) ?_
  simp only [Act.put, nA, nB, nC]
  refine Seq.load rfl rfl rfl rfl (by repeat (first | exact mC | apply mT)) (n := 6) rfl (by kernel_rfl) ?_
  simp only [Act.put, nA, nB, nC]
  refine Seq.load rfl rfl rfl rfl (by repeat (first | exact mC | apply mT)) (n := 6) rfl (by kernel_rfl) ?_
  simp only [Act.put, nA, nB, nC]
  refine Seq.call rfl rfl rfl rfl (by kernel_rfl) (smul_w (k := (8 * k + 10)) (a1 := (rt s)) (a2 := (rt s)) (b1 := x1) (b2 := x2) HT.out (RawS.of Rat.le_refl (Z_s.out.more (by omega)) (Z_s.out.more (by omega))) (Z_x.out.more (by omega))  (min4' _ _) (max4' _ _) (by omega) (by omega)) ?_
  simp only [Act.put, nA, nB, nC]
  refine Seq.load rfl rfl rfl rfl (by repeat (first | exact mC | apply mT)) (n := 6) rfl (by kernel_rfl) ?_
  simp only [Act.put, nA, nB, nC]
  refine Seq.load rfl rfl rfl rfl (by repeat (first | exact mC | apply mT)) (n := 6) rfl (by kernel_rfl) ?_
  simp only [Act.put, nA, nB, nC]
  refine Seq.call rfl rfl rfl rfl (by kernel_rfl) (smul_w (k := (8 * k + 10)) (a1 := (rt c)) (a2 := (rt c)) (b1 := y1) (b2 := y2) HT.out (RawS.of Rat.le_refl (Z_c.out.more (by omega)) (Z_c.out.more (by omega))) (Z_y.out.more (by omega))  (min4' _ _) (max4' _ _) (by omega) (by omega)) ?_
  simp only [Act.put, nA, nB, nC]
  refine Seq.call rfl rfl rfl rfl (by kernel_rfl) (sadd_w (k := (9 * k + 10)) (a1 := (rt (minQ (s * xl) (s * xh)))) (a2 := (rt (maxQ (s * xl) (s * xh)))) (b1 := (rt (minQ (c * yl) (c * yh)))) (b2 := (rt (maxQ (c * yl) (c * yh)))) HT.out (RawS.of (minmax_le _ _) ((Rz.min (k := (9 * k + 10)) ((Z_s.out.mul (Z_x.out.rz (by omega)).1).more (by omega)) ((Z_s.out.mul (Z_x.out.rz (by omega)).2).more (by omega))).more (by omega)) ((Rz.max (k := (9 * k + 10)) ((Z_s.out.mul (Z_x.out.rz (by omega)).1).more (by omega)) ((Z_s.out.mul (Z_x.out.rz (by omega)).2).more (by omega))).more (by omega))) (RawS.of (minmax_le _ _) ((Rz.min (k := (9 * k + 10)) ((Z_c.out.mul (Z_y.out.rz (by omega)).1).more (by omega)) ((Z_c.out.mul (Z_y.out.rz (by omega)).2).more (by omega))).more (by omega)) ((Rz.max (k := (9 * k + 10)) ((Z_c.out.mul (Z_y.out.rz (by omega)).1).more (by omega)) ((Z_c.out.mul (Z_y.out.rz (by omega)).2).more (by omega))).more (by omega)))  rfl rfl (by omega) (by omega)) ?_
  simp only [Act.put, nA, nB, nC]
  refine Seq.store rfl rfl rfl rfl rfl (by repeat (first | exact rS | refine rN (by assumption) ?_)) (n := 6) rfl rfl (by kernel_rfl) (VC_one _ _) ?_
  simp only [Act.put, nA, nB, nC]
  refine Seq.store rfl rfl rfl rfl rfl (by repeat (first | exact rS | refine rN (by assumption) ?_)) (n := 6) rfl rfl (by kernel_rfl) (VC_one _ _) ?_
  simp only [Act.put, nA, nB, nC]
  refine Seq.done fun ws3 hws => ?_
  have HS3 := hws.list2 (p := bk6) (q := bk7) (by repeat (first | exact rS | refine rN (by assumption) ?_)) (by repeat (first | exact rS | refine rN (by assumption) ?_)) (by assumption)
  clear HS2 hws HPbk7 HPbk6
  go_wp2_with fail
  exact ret_cells rfl rfl rfl rfl HS3 (by repeat (first | exact mC | apply mT)) (by repeat (first | exact mC | apply mT)) (n := 6) (n2 := 6) rfl rfl (by kernel_rfl) (by kernel_rfl) ⟨HR.out, HS3.below⟩
end Go.Proofs.YtoejojfjiikogaaDoor
