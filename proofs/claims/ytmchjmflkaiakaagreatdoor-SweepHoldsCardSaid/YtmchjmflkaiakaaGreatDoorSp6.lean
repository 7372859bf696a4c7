/- Joined texts: ShL Sp6. -/
import Derived.Test.YtmchjmflkaiakaaGreatDoorSp3
/- Plain laws: what is taken from spans is in the result. -/
namespace Go.Proofs.YtmchjmflkaiakaaGreatDoor
open Go.RowKit
set_option linter.unusedVariables false
set_option linter.unusedSimpArgs false

theorem mul_le_r {a b c : Rat} (h : a ≤ b) (hc : 0 ≤ c) : a * c ≤ b * c := by
 rcases rat_tri a b with h1 | h1 | h1
 ·rcases rat_tri c 0 with h2 | h2 | h2
  ·grind
  ·subst h2; grind
  ·have := mul_lt_r h1 h2; grind
 ·subst h1; grind
 ·grind
theorem mul_ge_r {a b c : Rat} (h : a ≤ b) (hc : c ≤ 0) : b * c ≤ a * c := by
 have := mul_le_r h (show 0 ≤ -c by grind); grind
theorem lin_lo {l h a : Rat} (b : Rat) (h1 : l ≤ a) (h2 : a ≤ h) : minQ (l * b) (h * b) ≤ a * b := by
 have e1 := min_le_l (l * b) (h * b)
 have e2 := min_le_r (l * b) (h * b)
 rcases rat_tri b 0 with hb | hb | hb
 ·have := mul_ge_r h2 (show b ≤ 0 by grind); grind
 ·subst hb; grind
 ·have := mul_le_r h1 (show 0 ≤ b by grind); grind
theorem lin_hi {l h a : Rat} (b : Rat) (h1 : l ≤ a) (h2 : a ≤ h) : a * b ≤ maxQ (l * b) (h * b) := by
 have e1 := le_max_l (l * b) (h * b)
 have e2 := le_max_r (l * b) (h * b)
 rcases rat_tri b 0 with hb | hb | hb
 ·have := mul_ge_r h1 (show b ≤ 0 by grind); grind
 ·subst hb; grind
 ·have := mul_le_r h2 (show 0 ≤ b by grind); grind
theorem min4_le (x y z u : Rat) : minQ (minQ (minQ x y) z) u ≤ x ∧ minQ (minQ (minQ x y) z) u ≤ y ∧ minQ (minQ (minQ x y) z) u ≤ z ∧ minQ (minQ (minQ x y) z) u ≤ u := by
 have a := min_le_l x y
 have b := min_le_r x y
 have c := min_le_l (minQ x y) z
 have d := min_le_r (minQ x y) z
 have e := min_le_l (minQ (minQ x y) z) u
 have f := min_le_r (minQ (minQ x y) z) u
 grind
theorem le_max4 (x y z u : Rat) : x ≤ maxQ (maxQ (maxQ x y) z) u ∧ y ≤ maxQ (maxQ (maxQ x y) z) u ∧ z ≤ maxQ (maxQ (maxQ x y) z) u ∧ u ≤ maxQ (maxQ (maxQ x y) z) u := by
 have a := le_max_l x y
 have b := le_max_r x y
 have c := le_max_l (maxQ x y) z
 have d := le_max_r (maxQ x y) z
 have e := le_max_l (maxQ (maxQ x y) z) u
 have f := le_max_r (maxQ (maxQ x y) z) u
 grind
theorem mul_in {l h u v a b : Rat} (h1 : l ≤ a) (h2 : a ≤ h) (h3 : u ≤ b) (h4 : b ≤ v) :
  minQ (minQ (minQ (l * u) (l * v)) (h * u)) (h * v) ≤ a * b ∧ a * b ≤ maxQ (maxQ (maxQ (l * u) (l * v)) (h * u)) (h * v) := by
 obtain ⟨m1, m2, m3, m4⟩ := min4_le (l * u) (l * v) (h * u) (h * v)
 obtain ⟨n1, n2, n3, n4⟩ := le_max4 (l * u) (l * v) (h * u) (h * v)
 have a1 := lin_lo b h1 h2
 have a2 := lin_hi b h1 h2
 have b1 := lin_lo l h3 h4
 have b2 := lin_hi l h3 h4
 have c1 := lin_lo h h3 h4
 have c2 := lin_hi h h3 h4
 have d1 := le_min (show minQ (minQ (minQ (l * u) (l * v)) (h * u)) (h * v) ≤ u * l by grind) (show minQ (minQ (minQ (l * u) (l * v)) (h * u)) (h * v) ≤ v * l by grind)
 have d2 := le_min (show minQ (minQ (minQ (l * u) (l * v)) (h * u)) (h * v) ≤ u * h by grind) (show minQ (minQ (minQ (l * u) (l * v)) (h * u)) (h * v) ≤ v * h by grind)
 have d3 := max_le (show u * l ≤ maxQ (maxQ (maxQ (l * u) (l * v)) (h * u)) (h * v) by grind) (show v * l ≤ maxQ (maxQ (maxQ (l * u) (l * v)) (h * u)) (h * v) by grind)
 have d4 := max_le (show u * h ≤ maxQ (maxQ (maxQ (l * u) (l * v)) (h * u)) (h * v) by grind) (show v * h ≤ maxQ (maxQ (maxQ (l * u) (l * v)) (h * u)) (h * v) by grind)
 generalize minQ (minQ (minQ (l * u) (l * v)) (h * u)) (h * v) = L at *
 generalize maxQ (maxQ (maxQ (l * u) (l * v)) (h * u)) (h * v) = H at *
 have f1 := le_min (show L ≤ l * b by grind) (show L ≤ h * b by grind)
 have f2 := max_le (show l * b ≤ H by grind) (show h * b ≤ H by grind)
 grind
theorem sq_hi {l h a : Rat} (h1 : l ≤ a) (h2 : a ≤ h) : a * a ≤ maxQ (l * l) (h * h) := by
 have e1 := le_max_l (l * l) (h * h)
 have e2 := le_max_r (l * l) (h * h)
 rcases rat_tri a 0 with ha | ha | ha
 ·have a1 := mul_ge_r h1 (show a ≤ 0 by grind)
  have a2 := mul_ge_r h1 (show l ≤ 0 by grind)
  grind
 ·subst ha; have := sq_nonneg l; grind
 ·have a1 := mul_le_r h2 (show 0 ≤ a by grind)
  have a2 := mul_le_r h2 (show 0 ≤ h by grind)
  grind
theorem sq_lo {l h a : Rat} (h1 : l ≤ a) (h2 : a ≤ h) (h0 : ¬ (l ≤ 0 ∧ 0 ≤ h)) : minQ (l * l) (h * h) ≤ a * a := by
 have e1 := min_le_l (l * l) (h * h)
 have e2 := min_le_r (l * l) (h * h)
 rcases rat_tri l 0 with hl | hl | hl
 ·have a1 := mul_ge_r h2 (show a ≤ 0 by grind)
  have a2 := mul_ge_r h2 (show h ≤ 0 by grind)
  grind
 ·grind
 ·have a1 := mul_le_r h1 (show 0 ≤ a by grind)
  have a2 := mul_le_r h1 (show 0 ≤ l by grind)
  grind
def sqLo (l h : Rat) : Rat := if l ≤ 0 ∧ 0 ≤ h then 0 else minQ (l * l) (h * h)
theorem sq_in {l h a : Rat} (h1 : l ≤ a) (h2 : a ≤ h) : sqLo l h ≤ a * a ∧ a * a ≤ maxQ (l * l) (h * h) := by
 refine ⟨?_, sq_hi h1 h2⟩
 unfold sqLo
 by_cases h0 : l ≤ 0 ∧ 0 ≤ h
 ·rw [if_pos h0]; exact sq_nonneg a
 ·rw [if_neg h0]; exact sq_lo h1 h2 h0
def ptQ (l h : Rat) (k : Int) : Rat := l + (((belowN k 9 : Nat) : Int) : Rat) / ((8 : Int) : Rat) * (h - l)
theorem pt_in {l h : Rat} (k : Int) (hle : l ≤ h) : l ≤ ptQ l h k ∧ ptQ l h k ≤ h := by
 have hm := belowN_lt k (show 0 < 9 by omega)
 unfold ptQ
 have h8 : ((8 : Int) : Rat) = 8 := rfl
 have m0 : (0 : Rat) ≤ (((belowN k 9 : Nat) : Int) : Rat) := by
  have : ((0 : Int) : Rat) ≤ (((belowN k 9 : Nat) : Int) : Rat) := Rat.intCast_le_intCast.2 (by omega)
  exact this
 have m8 : (((belowN k 9 : Nat) : Int) : Rat) ≤ 8 := by
  have : (((belowN k 9 : Nat) : Int) : Rat) ≤ ((8 : Int) : Rat) := Rat.intCast_le_intCast.2 (by omega)
  exact this
 rw [h8]
 generalize (((belowN k 9 : Nat) : Int) : Rat) = m at *
 have e1 : m / 8 * (h - l) * 8 = m * (h - l) := by grind
 have e2 : 0 * (h - l) ≤ m * (h - l) := mul_le_r m0 (by grind)
 have e3 : m * (h - l) ≤ 8 * (h - l) := mul_le_r m8 (by grind)
 constructor <;> grind
theorem ssq_q {k : Nat} {al ah z0 z1 : Rat} {W : World} {l : List Own} (hT : Tab W) (Zal : Rz k al) (Zah : Rz k ah) (hlea : al ≤ ah) (hz0 : sqLo al ah = z0) (hz1 : maxQ (al * al) (ah * ah) = z1) (hk : k ≤ 100000000000) (w : World) (h : St W l w) :
  Calls Tryz.prog 41 #[.agg (VC al ah)] w fun e w' => e = .returned (.agg (VC z0 z1)) ∧ Below w.heap.size w w' := by
 unfold sqLo at hz0
 by_cases hin : al ≤ 0 ∧ 0 ≤ ah
 ·rw [if_pos hin] at hz0; exact ssq0_q hT Zal Zah hlea hin hz0 hz1 hk w h
 ·rw [if_neg hin] at hz0; exact ssq1_q hT Zal Zah hlea hin hz0 hz1 hk w h
theorem Rz.sqLo {k : Nat} {l h : Rat} (hl : Rz k l) (hh : Rz k h) : Rz (k + k + 2) (sqLo l h) := by
 unfold Go.Proofs.YtmchjmflkaiakaaGreatDoor.sqLo
 split
 ·exact Rz.zero2.more (by omega)
 ·exact ((hl.mul hl).min (hh.mul hh)).more (by omega)
set_option maxHeartbeats 2000000 in
set_option maxRecDepth 20000 in
theorem part_q {k : Nat} {al ah z0 : Rat} {x : Int} {W : World} {l : List Own} (hT : Tab W) (Zal : Rz k al) (Zah : Rz k ah) (hx : (-9223372036854775808 ≤ x ∧ x ≤ 9223372036854775807)) (hz0 : ptQ al ah x = z0) (hk : k ≤ 1000000000000) (w : World) (h : St W l w) :
  Calls Tryz.prog 21 #[.agg (VC al ah), .int .i64 x] w fun e w' => e = .returned (.agg (RC z0)) ∧ Below w.heap.size w w' := by
 subst hz0
 unfold ptQ
 have HT := Lib.hid (tabS hT h); clear hT h
 have Z_al := Lib.hid Zal; clear Zal
 have Z_ah := Lib.hid Zah; clear Zah
 have HI := Lib.hid hx; clear hx
 have HM := Lib.hid (show (((belowN x 9 : Nat) : Int)).natAbs < 65536 from by have := belowN_lt x (show 0 < 9 by omega); omega)
 go_enter Tryz.func21, Tryz.ntmps21
 have HS : St w [] w := St.start
 go_upto_region 0 with (fail)
 refine rgT [] HS ?_
 refine bX (VC al ah) ?_
 intro bk2 _ _ hbk2_r
 refine nZ ?_
 refine aL3 ?_
 intro bk4 _ _ hbk4_r
 obtain ⟨_, _, hbk4_r⟩ := Reg.ne2 hbk4_r
 refine nZ ?_
 refine Seq.done fun ws1 hws => ?_
 have HS1 : St w [(bk2, 32, VC al ah), (bk4, 27, #[.bool false, .string ⟨#[]⟩, .string ⟨#[]⟩])] ws1 := hws.q2
 clear HS hws
 go_upto_region 1 with (fail)
 have HPbk4 := HS1.p1
 refine wS [] (Reg.fin.put Reg.fin_no _ _) (StR.move (StR.no HPbk4)) ?_
 refine pV (.pointer (some ⟨bk2, 0, none⟩)) (by intro w; go_simp; try first | with_reducible rfl | rfl) ?_
 refine Seq.loadAt rfl rfl rfl rfl (by repeat first|exact mC|apply mT) (n := 3) (cs' := RC al) (by first | decide | exact Nat.le_refl _ | (simp [VC, TC, FC, BC, RC]; done)) (by kernel_rfl) (by first | rfl | (simp [VC, TC, FC, BC, RC]; done)) (nZ ?_)
 refine pW ?_
 refine cX rfl rfl (below_q (n := 9) HI.out.1 HI.out.2 (by omega) (by omega)) ?_
 refine cX rfl rfl (num_q HT.out HM.out (by decide) (by decide) rfl) ?_
 refine pV (.pointer (some ⟨bk2, 3, none⟩)) (by intro w; go_simp; try first | with_reducible rfl | rfl) ?_
 refine Seq.loadAt rfl rfl rfl rfl (by repeat first|exact mC|apply mT) (n := 3) (cs' := RC ah) (by first | decide | exact Nat.le_refl _ | (simp [VC, TC, FC, BC, RC]; done)) (by kernel_rfl) (by first | rfl | (simp [VC, TC, FC, BC, RC]; done)) (nZ ?_)
 refine pV (.pointer (some ⟨bk2, 0, none⟩)) (by intro w; go_simp; try first | with_reducible rfl | rfl) ?_
 refine Seq.loadAt rfl rfl rfl rfl (by repeat first|exact mC|apply mT) (n := 3) (cs' := RC al) (by first | decide | exact Nat.le_refl _ | (simp [VC, TC, FC, BC, RC]; done)) (by kernel_rfl) (by first | rfl | (simp [VC, TC, FC, BC, RC]; done)) (nZ ?_)
 refine cX rfl rfl (sub_q (k := (1 * k + 0)) HT.out (Z_ah.out.more (by omega)) (Z_al.out.more (by omega)) rfl (by omega)) ?_
 refine cX rfl rfl (mul_q (k := (4 * k + 4)) HT.out ((num_s _ 8 HM.out (by decide) (by decide)).more (by omega)) ((Z_ah.out.sub Z_al.out).more (by omega)) rfl (by omega)) ?_
 refine cX rfl rfl (add_q (k := (4 * k + 5)) HT.out (Z_al.out.more (by omega)) (((num_s _ 8 HM.out (by decide) (by decide)).mul (Z_ah.out.sub Z_al.out)).more (by omega)) rfl (by omega)) ?_
 refine Seq.store rfl rfl rfl rfl rfl (by repeat first|exact rS|refine rN ‹_› ?_) (n := 3) rfl rfl (by kernel_rfl) (RC_one _) (nZ ?_)
 refine Seq.done fun ws2 hws => ?_
 have HS2 := hws.q1 (p := bk4)
 clear HS1 hws HPbk4
 go_wp2_with fail
 exact rO HS2 ⟨rfl, HS2.below⟩
end Go.Proofs.YtmchjmflkaiakaaGreatDoor
