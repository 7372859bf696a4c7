/- Joined texts: ShL Sp6. -/
import Derived.Test.YtmchjmflkaiakaaGreatDoorSp3
/- Plain laws: what is taken from spans is in the result. -/
namespace Go.Proofs.YtmchjmflkaiakaaGreatDoor
open Go.RowKit
set_option linter.unusedVariables false
set_option linter.unusedSimpArgs false
theorem mul_le_r {a b c : Rat} (h : a ≤ b) (hc : 0 ≤ c) : a * c ≤ b * c := by
 rcases rat_tri a b with h1 | h1 | h1
 ·rcases rat_tri c 0 with h2 | h2 | h2
  ·grind
  ·subst h2; grind
  ·have := mul_lt_r h1 h2; grind
 ·subst h1; grind
 ·grind
theorem mul_ge_r {a b c : Rat} (h : a ≤ b) (hc : c ≤ 0) : b * c ≤ a * c := by
 have := mul_le_r h (show 0 ≤ -c by grind); grind
theorem lin_lo {l h a : Rat} (b : Rat) (h1 : l ≤ a) (h2 : a ≤ h) : minQ (l * b) (h * b) ≤ a * b := by
 have e1 := min_le_l (l * b) (h * b)
 have e2 := min_le_r (l * b) (h * b)
 rcases rat_tri b 0 with hb | hb | hb
 ·have := mul_ge_r h2 (show b ≤ 0 by grind); grind
 ·subst hb; grind
 ·have := mul_le_r h1 (show 0 ≤ b by grind); grind
theorem lin_hi {l h a : Rat} (b : Rat) (h1 : l ≤ a) (h2 : a ≤ h) : a * b ≤ maxQ (l * b) (h * b) := by
 have e1 := le_max_l (l * b) (h * b)
 have e2 := le_max_r (l * b) (h * b)
 rcases rat_tri b 0 with hb | hb | hb
 ·have := mul_ge_r h1 (show b ≤ 0 by grind); grind
 ·subst hb; grind
 ·have := mul_le_r h2 (show 0 ≤ b by grind); grind
theorem min4_le (x y z u : Rat) : minQ (minQ (minQ x y) z) u ≤ x ∧ minQ (minQ (minQ x y) z) u ≤ y ∧ minQ (minQ (minQ x y) z) u ≤ z ∧ minQ (minQ (minQ x y) z) u ≤ u := by
 have a := min_le_l x y
 have b := min_le_r x y
 have c := min_le_l (minQ x y) z
 have d := min_le_r (minQ x y) z
 have e := min_le_l (minQ (minQ x y) z) u
 have f := min_le_r (minQ (minQ x y) z) u
 grind
theorem le_max4 (x y z u : Rat) : x ≤ maxQ (maxQ (maxQ x y) z) u ∧ y ≤ maxQ (maxQ (maxQ x y) z) u ∧ z ≤ maxQ (maxQ (maxQ x y) z) u ∧ u ≤ maxQ (maxQ (maxQ x y) z) u := by
 have a := le_max_l x y
 have b := le_max_r x y
 have c := le_max_l (maxQ x y) z
 have d := le_max_r (maxQ x y) z
 have e := le_max_l (maxQ (maxQ x y) z) u
 have f := le_max_r (maxQ (maxQ x y) z) u
 grind
theorem mul_in {l h u v a b : Rat} (h1 : l ≤ a) (h2 : a ≤ h) (h3 : u ≤ b) (h4 : b ≤ v) :
  minQ (minQ (minQ (l * u) (l * v)) (h * u)) (h * v) ≤ a * b ∧ a * b ≤ maxQ (maxQ (maxQ (l * u) (l * v)) (h * u)) (h * v) := by
 obtain ⟨m1, m2, m3, m4⟩ := min4_le (l * u) (l * v) (h * u) (h * v)
 obtain ⟨n1, n2, n3, n4⟩ := le_max4 (l * u) (l * v) (h * u) (h * v)
 have a1 := lin_lo b h1 h2
 have a2 := lin_hi b h1 h2
 have b1 := lin_lo l h3 h4
 have b2 := lin_hi l h3 h4
 have c1 := lin_lo h h3 h4
 have c2 := lin_hi h h3 h4
 have d1 := le_min (show minQ (minQ (minQ (l * u) (l * v)) (h * u)) (h * v) ≤ u * l by grind) (show minQ (minQ (minQ (l * u) (l * v)) (h * u)) (h * v) ≤ v * l by grind)
 have d2 := le_min (show minQ (minQ (minQ (l * u) (l * v)) (h * u)) (h * v) ≤ u * h by grind) (show minQ (minQ (minQ (l * u) (l * v)) (h * u)) (h * v) ≤ v * h by grind)
 have d3 := max_le (show u * l ≤ maxQ (maxQ (maxQ (l * u) (l * v)) (h * u)) (h * v) by grind) (show v * l ≤ maxQ (maxQ (maxQ (l * u) (l * v)) (h * u)) (h * v) by grind)
 have d4 := max_le (show u * h ≤ maxQ (maxQ (maxQ (l * u) (l * v)) (h * u)) (h * v) by grind) (show v * h ≤ maxQ (maxQ (maxQ (l * u) (l * v)) (h * u)) (h * v) by grind)
 generalize minQ (minQ (minQ (l * u) (l * v)) (h * u)) (h * v) = L at *
 generalize maxQ (maxQ (maxQ (l * u) (l * v)) (h * u)) (h * v) = H at *
 have f1 := le_min (show L ≤ l * b by grind) (show L ≤ h * b by grind)
 have f2 := max_le (show l * b ≤ H by grind) (show h * b ≤ H by grind)
 grind
theorem sub_in {l h u v a b : Rat} (h1 : l ≤ a) (h2 : a ≤ h) (h3 : u ≤ b) (h4 : b ≤ v) : l - v ≤ a - b ∧ a - b ≤ h - u := by grind
theorem sq_hi {l h a : Rat} (h1 : l ≤ a) (h2 : a ≤ h) : a * a ≤ maxQ (l * l) (h * h) := by
 have e1 := le_max_l (l * l) (h * h)
 have e2 := le_max_r (l * l) (h * h)
 rcases rat_tri a 0 with ha | ha | ha
 ·have a1 := mul_ge_r h1 (show a ≤ 0 by grind)
  have a2 := mul_ge_r h1 (show l ≤ 0 by grind)
  grind
 ·subst ha; have := sq_nonneg l; grind
 ·have a1 := mul_le_r h2 (show 0 ≤ a by grind)
  have a2 := mul_le_r h2 (show 0 ≤ h by grind)
  grind
theorem sq_lo {l h a : Rat} (h1 : l ≤ a) (h2 : a ≤ h) (h0 : ¬ (l ≤ 0 ∧ 0 ≤ h)) : minQ (l * l) (h * h) ≤ a * a := by
 have e1 := min_le_l (l * l) (h * h)
 have e2 := min_le_r (l * l) (h * h)
 rcases rat_tri l 0 with hl | hl | hl
 ·have a1 := mul_ge_r h2 (show a ≤ 0 by grind)
  have a2 := mul_ge_r h2 (show h ≤ 0 by grind)
  grind
 ·grind
 ·have a1 := mul_le_r h1 (show 0 ≤ a by grind)
  have a2 := mul_le_r h1 (show 0 ≤ l by grind)
  grind
def sqLo (l h : Rat) : Rat := if l ≤ 0 ∧ 0 ≤ h then 0 else minQ (l * l) (h * h)
theorem sq_in {l h a : Rat} (h1 : l ≤ a) (h2 : a ≤ h) : sqLo l h ≤ a * a ∧ a * a ≤ maxQ (l * l) (h * h) := by
 refine ⟨?_, sq_hi h1 h2⟩
 unfold sqLo
 by_cases h0 : l ≤ 0 ∧ 0 ≤ h
 ·rw [if_pos h0]; exact sq_nonneg a
 ·rw [if_neg h0]; exact sq_lo h1 h2 h0
theorem inv_le {u v b : Rat} (h1 : u ≤ b) (h2 : b ≤ v) (h0 : ¬ (u ≤ 0 ∧ 0 ≤ v)) : (1 : Rat) / v ≤ 1 / b := by
 have hb : b ≠ 0 := by intro e; subst e; exact h0 ⟨h1, h2⟩
 have hv : v ≠ 0 := by intro e; subst e; exact h0 ⟨by grind, by grind⟩
 have e1 : (1 / v) * (b * v) = b := by grind
 have e2 : (1 / b) * (b * v) = v := by grind
 have hp : 0 < b * v := by
  rcases rat_tri b 0 with hb1 | hb1 | hb1
  ·have hv1 : v < 0 := by grind
   have := mul_lt_r (show 0 < -b by grind) (show 0 < -v by grind); grind
  ·exact absurd hb1 hb
  ·have := mul_lt_r hb1 (show 0 < v by grind); grind
 refine le_of_mul hp ?_
 rw [e1, e2]; exact h2
theorem inv_le2 {u v b : Rat} (h1 : u ≤ b) (h2 : b ≤ v) (h0 : ¬ (u ≤ 0 ∧ 0 ≤ v)) : (1 : Rat) / b ≤ 1 / u :=
 inv_le (Rat.le_refl (a := u)) h1 (fun h => h0 ⟨h.1, by grind⟩)
theorem div_in {l h u v a b : Rat} (h1 : l ≤ a) (h2 : a ≤ h) (h3 : u ≤ b) (h4 : b ≤ v) (h0 : ¬ (u ≤ 0 ∧ 0 ≤ v)) :
  minQ (minQ (minQ (l * (1 / v)) (l * (1 / u))) (h * (1 / v))) (h * (1 / u)) ≤ a / b ∧ a / b ≤ maxQ (maxQ (maxQ (l * (1 / v)) (l * (1 / u))) (h * (1 / v))) (h * (1 / u)) := by
 have e : a / b = a * (1 / b) := by grind
 rw [e]
 exact mul_in h1 h2 (inv_le h3 h4 h0) (inv_le2 h3 h4 h0)
theorem sgn_in {u v : Rat} (h : u ≤ v) (h0 : ¬ (u ≤ 0 ∧ 0 ≤ v)) : sgnQ u * sgnQ v = 1 := by
 unfold sgnQ; unfold cmpQ
 rcases rat_tri u 0 with hu | hu | hu <;> rcases rat_tri v 0 with hv | hv | hv <;> grind
theorem sgn_cases (u : Rat) : sgnQ u = -1 ∨ sgnQ u = 0 ∨ sgnQ u = 1 := by
 unfold sgnQ; unfold cmpQ; grind
def ptQ (l h : Rat) (k : Int) : Rat := l + (((belowN k 9 : Nat) : Int) : Rat) / ((8 : Int) : Rat) * (h - l)
theorem pt_in {l h : Rat} (k : Int) (hle : l ≤ h) : l ≤ ptQ l h k ∧ ptQ l h k ≤ h := by
 have hm := belowN_lt k (show 0 < 9 by omega)
 unfold ptQ
 have h8 : ((8 : Int) : Rat) = 8 := rfl
 have m0 : (0 : Rat) ≤ (((belowN k 9 : Nat) : Int) : Rat) := by
  have : ((0 : Int) : Rat) ≤ (((belowN k 9 : Nat) : Int) : Rat) := Rat.intCast_le_intCast.2 (by omega)
  exact this
 have m8 : (((belowN k 9 : Nat) : Int) : Rat) ≤ 8 := by
  have : (((belowN k 9 : Nat) : Int) : Rat) ≤ ((8 : Int) : Rat) := Rat.intCast_le_intCast.2 (by omega)
  exact this
 rw [h8]
 generalize (((belowN k 9 : Nat) : Int) : Rat) = m at *
 have e1 : m / 8 * (h - l) * 8 = m * (h - l) := by grind
 have e2 : 0 * (h - l) ≤ m * (h - l) := mul_le_r m0 (by grind)
 have e3 : m * (h - l) ≤ 8 * (h - l) := mul_le_r m8 (by grind)
 constructor <;> grind
set_option maxHeartbeats 2000000
set_option maxRecDepth 20000
theorem ssq_q {k : Nat} {al ah z0 z1 : Rat} {W : World} {l : List Own} (hT : Tab W) (Zal : Rz k al) (Zah : Rz k ah) (hlea : al ≤ ah) (hz0 : sqLo al ah = z0) (hz1 : maxQ (al * al) (ah * ah) = z1) (hk : k ≤ 100000000000) (w : World) (h : St W l w) :
  Calls Tryz.prog 41 #[.agg (VC al ah)] w fun e w' => e = .returned (.agg (VC z0 z1)) ∧ Below w.heap.size w w' := by
 unfold sqLo at hz0
 by_cases hin : al ≤ 0 ∧ 0 ≤ ah
 ·rw [if_pos hin] at hz0; exact ssq0_q hT Zal Zah hlea hin hz0 hz1 hk w h
 ·rw [if_neg hin] at hz0; exact ssq1_q hT Zal Zah hlea hin hz0 hz1 hk w h
theorem Rz.sqLo {k : Nat} {l h : Rat} (hl : Rz k l) (hh : Rz k h) : Rz (k + k + 2) (sqLo l h) := by
 unfold Go.Proofs.YtmchjmflkaiakaaGreatDoor.sqLo
 split
 ·exact Rz.zero2.more (by omega)
 ·exact ((hl.mul hl).min (hh.mul hh)).more (by omega)
theorem sdiv_1 {k : Nat} {al ah bl bh z0 z1 : Rat} {W : World} {l : List Own} (hT : Tab W) (Zal : Rz k al) (Zah : Rz k ah) (Zbl : Rz k bl) (Zbh : Rz k bh) (hlea : al ≤ ah) (hleb : bl ≤ bh) (hin : ¬ (bl ≤ 0 ∧ 0 ≤ bh)) (hz0 : minQ (minQ (minQ (al * ((1 : Rat) / bh)) (al * ((1 : Rat) / bl))) (ah * ((1 : Rat) / bh))) (ah * ((1 : Rat) / bl)) = z0) (hz1 : maxQ (maxQ (maxQ (al * ((1 : Rat) / bh)) (al * ((1 : Rat) / bl))) (ah * ((1 : Rat) / bh))) (ah * ((1 : Rat) / bl)) = z1) (hk : k ≤ 499999999998) (w : World) (h : St W l w) :
  Calls Tryz.prog 43 #[.agg (VC al ah), .agg (VC bl bh)] w fun e w' => e = .returned (.tuple #[.agg (VC z0 z1), .int .i64 0]) ∧ Below w.heap.size w w' := by
 subst hz0
 subst hz1
 have HT := Lib.hid (tabS hT h); clear hT h
 have Z_al := Lib.hid Zal; clear Zal
 have Z_ah := Lib.hid Zah; clear Zah
 have Z_bl := Lib.hid Zbl; clear Zbl
 have Z_bh := Lib.hid Zbh; clear Zbh
 obtain ⟨v1, hv1⟩ : ∃ v, sgnQ bl = v := ⟨_, rfl⟩
 obtain ⟨v2, hv2⟩ : ∃ v, sgnQ bh = v := ⟨_, rfl⟩
 have hp : v1 * v2 = 1 := by rw [← hv1, ← hv2]; exact sgn_in hleb hin
 have b1 : v1 = -1 ∨ v1 = 0 ∨ v1 = 1 := by rw [← hv1]; exact sgn_cases bl
 have b2 : v2 = -1 ∨ v2 = 0 ∨ v2 = 1 := by rw [← hv2]; exact sgn_cases bh
 obtain ⟨v, hw, hpr⟩ : ∃ v, IntKind.i64.wrap (v1 * v2) = v ∧ decide (v ≤ 0) = false := ⟨v1 * v2, by rcases b1 with rfl | rfl | rfl <;> rcases b2 with rfl | rfl | rfl <;> rfl, decide_eq_false (by omega)⟩
 clear hp b1 b2
 have H1 := Lib.hid hv1; clear hv1
 have H2 := Lib.hid hv2; clear hv2
 have HLA := Lib.hid hlea; clear hlea
 have HLB := Lib.hid hleb; clear hleb
 have HN := Lib.hid (show bl ≠ 0 ∧ bh ≠ 0 from ⟨fun e => hin ⟨by grind, by have := HLB.out; grind⟩, fun e => hin ⟨by have := HLB.out; grind, by grind⟩⟩)
 have HLI := Lib.hid (show (1 : Rat) / bh ≤ 1 / bl from inv_le (Rat.le_refl (a := bl)) HLB.out hin)
 clear hin
 go_enter Tryz.func43, Tryz.ntmps43
 have HS : St w [] w := St.start
 go_upto_region 0 with fail
 refine rgT [] HS ?_
 refine bX (VC al ah) ?_
 intro bk2 _ _ hbk2_r
 refine nZ ?_
 refine bX (VC bl bh) ?_
 intro bk3 _ _ hbk3_r
 obtain ⟨_, _, hbk3_r⟩ := Reg.ne2 hbk3_r
 refine nZ ?_
 refine aL6 ?_
 intro bk4 _ _ hbk4_r
 obtain ⟨_, _, hbk4_r⟩ := Reg.ne2 hbk4_r
 obtain ⟨_, _, hbk4_r⟩ := Reg.ne2 hbk4_r
 refine nZ ?_
 refine pW ?_
 refine Seq.done fun ws1 hws => ?_
 have HS1 := hws.q3 (p := bk2) (q := bk3) (r := bk4)
 clear HS hws
 go_upto_region 1 with fail
 have HPbk3 := HS1.p1
 have HPbk2 := HPbk3.p1
 refine wS [0, 4] (Reg.fin.put (Reg.fin.put Reg.fin_no _ _) _ _) (StR.move (StR.move (StR.no HPbk2))) ?_
 refine gV ?_
 refine cX rfl rfl (sfit_q (k := (1 * k + 0)) HT.out (Z_al.out.more (by omega)) (Z_ah.out.more (by omega)) HLA.out rfl rfl (by omega)) ?_
 refine gV ?_
 refine cX rfl rfl (sfit_q (k := (1 * k + 0)) HT.out (Z_bl.out.more (by omega)) (Z_bh.out.more (by omega)) HLB.out rfl rfl (by omega)) ?_
 refine sV (VC_one _ _) ?_
 refine sV (VC_one _ _) ?_
 refine Seq.done fun ws2 hws => ?_
 have HS2 : St w [(bk2, 32, VC al ah), (bk3, 32, VC bl bh), (bk4, 32, #[.bool false, .string ⟨#[]⟩, .string ⟨#[]⟩, .bool false, .string ⟨#[]⟩, .string ⟨#[]⟩])] ws2 := hws.q2
 clear HS1 hws HPbk3 HPbk2
 go_upto_region 2 with fail
 refine rgW [] HS2 ?_
 refine pV (.pointer (some ⟨bk3, 0, none⟩)) (by intro w; go_simp; try first | with_reducible rfl | rfl) ?_
 refine Seq.loadAt rfl rfl rfl rfl (by repeat first|exact mC|apply mT) (n := 3) (cs' := RC bl) (by first | decide | exact Nat.le_refl _ | (simp [VC, TC, FC, BC, RC]; done)) (by kernel_rfl) (by first | rfl | (simp [VC, TC, FC, BC, RC]; done)) (nZ ?_)
 refine cX rfl rfl (sign_q (k := (1 * k + 0)) HT.out (Z_bl.out.more (by omega)) H1.out (by omega)) ?_
 refine pV (.pointer (some ⟨bk3, 3, none⟩)) (by intro w; go_simp; try first | with_reducible rfl | rfl) ?_
 refine Seq.loadAt rfl rfl rfl rfl (by repeat first|exact mC|apply mT) (n := 3) (cs' := RC bh) (by first | decide | exact Nat.le_refl _ | (simp [VC, TC, FC, BC, RC]; done)) (by kernel_rfl) (by first | rfl | (simp [VC, TC, FC, BC, RC]; done)) (nZ ?_)
 refine cX rfl rfl (sign_q (k := (1 * k + 0)) HT.out (Z_bh.out.more (by omega)) H2.out (by omega)) ?_
 iterate 2 refine pW ?_
 refine dS fun _ HS3=>?_
 clear HS2
 go_upto_region 4 with fail
 refine rgW [] HS3 ?_
 refine cX rfl rfl (of_q HT.out (by omega) (by omega) (show ((1 : Int) : Rat) = (1 : Rat) from rfl)) ?_
 refine pV (.pointer (some ⟨bk3, 3, none⟩)) (by intro w; go_simp; try first | with_reducible rfl | rfl) ?_
 refine Seq.loadAt rfl rfl rfl rfl (by repeat first|exact mC|apply mT) (n := 3) (cs' := RC bh) (by first | decide | exact Nat.le_refl _ | (simp [VC, TC, FC, BC, RC]; done)) (by kernel_rfl) (by first | rfl | (simp [VC, TC, FC, BC, RC]; done)) (nZ ?_)
 refine cX rfl rfl (div_q (k := (1 * k + 2)) HT.out ((show Rz 2 (1 : Rat) from Rz.lit (z := 1) rfl (by decide)).more (by omega)) (Z_bh.out.more (by omega)) HN.out.2 rfl (by omega)) ?_
 refine pW ?_
 refine pV (.agg (RC ((1 : Rat) / bh))) (fun w => rfl) ?_
 refine pV (.int .i64 0) (fun w => rfl) ?_
 refine aL3 ?_
 intro bk6 _ _ hbk6_r
 refine nZ ?_
 refine sV (RC_one _) ?_
 refine pW ?_
 refine d1 bk6 fun _ HS4=>?_
 clear HS3
 go_upto_region 5 with fail
 refine rgW [] HS4 ?_
 refine cX rfl rfl (of_q HT.out (by omega) (by omega) (show ((1 : Int) : Rat) = (1 : Rat) from rfl)) ?_
 refine pV (.pointer (some ⟨bk3, 0, none⟩)) (by intro w; go_simp; try first | with_reducible rfl | rfl) ?_
 refine Seq.loadAt rfl rfl rfl rfl (by repeat first|exact mC|apply mT) (n := 3) (cs' := RC bl) (by first | decide | exact Nat.le_refl _ | (simp [VC, TC, FC, BC, RC]; done)) (by kernel_rfl) (by first | rfl | (simp [VC, TC, FC, BC, RC]; done)) (nZ ?_)
 refine cX rfl rfl (div_q (k := (1 * k + 2)) HT.out ((show Rz 2 (1 : Rat) from Rz.lit (z := 1) rfl (by decide)).more (by omega)) (Z_bl.out.more (by omega)) HN.out.1 rfl (by omega)) ?_
 refine pW ?_
 refine pV (.agg (RC ((1 : Rat) / bl))) (fun w => rfl) ?_
 refine pV (.int .i64 0) (fun w => rfl) ?_
 refine aL3 ?_
 intro bk8 _ _ hbk8_r
 refine nZ ?_
 refine sV (RC_one _) ?_
 refine pW ?_
 refine d1 bk8 fun _ HS5=>?_
 clear HS4
 go_upto_region 6 with fail
 have HPbk4 := HS5.p4
 refine wp_seq_text [] (StR.move (StR.no HPbk4)) ?_
 iterate 3 refine lV ?_
 refine pV (.agg (VC ((1 : Rat) / bh) ((1 : Rat) / bl))) (fun w => bld_Span rfl rfl rfl w) ?_
 refine cX rfl rfl (smul_q (k := (1 * k + 2)) HT.out (Z_al.out.more (by omega)) (Z_ah.out.more (by omega)) (((show Rz 2 (1 : Rat) from Rz.lit (z := 1) rfl (by decide)).div Z_bh.out HN.out.2).more (by omega)) (((show Rz 2 (1 : Rat) from Rz.lit (z := 1) rfl (by decide)).div Z_bl.out HN.out.1).more (by omega)) HLA.out HLI.out rfl rfl (by omega)) ?_
 refine sV (VC_one _ _) ?_
 refine pW ?_
 refine d1 bk4 fun _ HS6=>?_
 clear HS5 HPbk4
 go_wp2_with fail
 exact ret_own2 rfl rfl rfl rfl HS6 (by repeat first|exact mC|apply mT) (n := 6) rfl (by kernel_rfl) ⟨rfl, HS6.below⟩
theorem ptQ_rz {k : Nat} {l h : Rat} (x : Int) (hl : Rz k l) (hh : Rz k h) : Rz (10 * k + 20) (ptQ l h x) := by
 unfold ptQ
 have hm : (((belowN x 9 : Nat) : Int)).natAbs < 65536 := by have := belowN_lt x (show 0 < 9 by omega); omega
 exact (hl.add ((num_s _ 8 hm (by decide) (by decide)).mul (hh.sub hl))).more (by omega)
end Go.Proofs.YtmchjmflkaiakaaGreatDoor
