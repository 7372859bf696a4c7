/- Joined texts: Sp0 SpL Sp1 Sp2. -/
import Derived.Test.YtmchjmflkaiakaaGreatDoorSpQ
/- Turns: what the functions compute, and how large it is. -/
namespace Go.Proofs.YtmchjmflkaiakaaGreatDoor
open Go.RowKit
set_option linter.unusedVariables false
set_option linter.unusedSimpArgs false

def GoodT (h : Bool) (t : Rat) : Prop := h = true → t = 0
def cosT (h : Bool) (t : Rat) : Rat := if h = true then -1 else (1 - t * t) / (1 + t * t)
def sinT (t : Rat) : Rat := (t + t) / (1 + t * t)
theorem sq_nonneg (t : Rat) : 0 ≤ t * t := by
 rcases rat_tri t 0 with h | h | h
 ·have := mul_lt_r (show 0 < -t by grind) (show 0 < -t by grind); grind
 ·subst h; grind
 ·have := mul_lt_r h h; grind
theorem one_sq (t : Rat) : (1 : Rat) + t * t ≠ 0 := by have := sq_nonneg t; grind
theorem Rz.one2 : Rz 2 (1 : Rat) := Rz.lit (z := 1) rfl (by decide)
theorem Rz.neg1 : Rz 2 (-1 : Rat) := Rz.lit (z := -1) rfl (by decide)
theorem Rz.zero2 : Rz 2 (0 : Rat) := Rz.lit (z := 0) rfl (by decide)
theorem Rz.cosT {k : Nat} {t : Rat} (h : Bool) (ht : Rz k t) : Rz (8 * k + 10) (cosT h t) := by
 unfold Go.Proofs.YtmchjmflkaiakaaGreatDoor.cosT
 split
 ·exact Rz.neg1.more (by omega)
 ·exact ((Rz.one2.sub (ht.mul ht)).div (Rz.one2.add (ht.mul ht)) (one_sq t)).more (by omega)
theorem Rz.sinT {k : Nat} {t : Rat} (ht : Rz k t) : Rz (8 * k + 10) (sinT t) := by
 unfold Go.Proofs.YtmchjmflkaiakaaGreatDoor.sinT
 exact ((ht.add ht).div (Rz.one2.add (ht.mul ht)) (one_sq t)).more (by omega)
theorem sin_back (t : Rat) : sinT (-t) = -sinT t := by
 unfold sinT
 have : -t * -t = t * t := by grind
 rw [this]
 have := one_sq t
 grind
set_option maxHeartbeats 2000000 in
set_option maxRecDepth 20000 in
theorem tof_q {k : Nat} {t : Rat} {z0 : Rat} {W : World} {l : List Own} (hT : Tab W) (Zt : Rz k t)  (hz0 : t = z0) (hk : k ≤ 1000000000000) (w : World) (h : St W l w) :
  Calls Tryz.prog 20 #[.agg (RC t)] w fun e w' => e = .returned (.agg (TC false z0)) ∧ Below w.heap.size w w' := by
 subst hz0
 have HT := Lib.hid (tabS hT h); clear hT h
 have Z_t := Lib.hid Zt; clear Zt
 go_enter Tryz.func20, Tryz.ntmps20
 have HS : St w [] w := St.start
 go_upto_region 0 with (fail)
 refine rgT [] HS ?_
 refine bX (RC t) ?_
 intro bk1 _ _ hbk1_r
 refine nZ ?_
 refine Seq.alloc rfl rfl rfl (z := .agg #[.bool false, .bool false, .string ⟨#[]⟩, .string ⟨#[]⟩]) (by kernel_rfl) rfl ?_
 intro bk2 _ _ hbk2_r
 obtain ⟨_, _, hbk2_r⟩ := Reg.ne2 hbk2_r
 refine nZ ?_
 refine Seq.done fun ws1 hws => ?_
 have HS1 := hws.q2 (p := bk1) (q := bk2)
 clear HS hws
 go_upto_region 1 with (fail)
 have HPbk2 := HS1.p1
 refine wp_seq_text [] (StR.move (StR.no HPbk2)) ?_
 refine lV ?_
 refine lV ?_
 refine cX rfl rfl (min_q (k := (1 * k + 0)) HT.out (Z_t.out.more (by omega)) (Z_t.out.more (by omega)) (min_self _) (by omega)) ?_
 refine pV (.agg (TC false t)) (fun w => bld_Turn1 rfl rfl w) ?_
 refine sV (TC_one _ _) ?_
 refine Seq.done fun ws2 hws => ?_
 have HS2 := hws.q1 (p := bk2)
 clear HS1 hws HPbk2
 go_wp2_with fail
 exact rO HS2 ⟨rfl, HS2.below⟩
set_option maxHeartbeats 2000000 in
set_option maxRecDepth 20000 in
theorem half_q {k : Nat} {z0 : Rat} {W : World} {l : List Own} (hT : Tab W)   (hz0 : (0 : Rat) = z0) (hk : k ≤ 1000000000000) (w : World) (h : St W l w) :
  Calls Tryz.prog 177 #[] w fun e w' => e = .returned (.agg (TC true z0)) ∧ Below w.heap.size w w' := by
 subst hz0
 have HT := Lib.hid (tabS hT h); clear hT h
 go_enter Tryz.func177, Tryz.ntmps177
 have HS : St w [] w := St.start
 go_upto_region 0 with (fail)
 refine rgT [] HS ?_
 refine Seq.alloc rfl rfl rfl (z := .agg #[.bool false, .bool false, .string ⟨#[]⟩, .string ⟨#[]⟩]) (by kernel_rfl) rfl ?_
 intro bk0 _ _ hbk0_r
 refine nZ ?_
 refine Seq.done fun ws1 hws => ?_
 have HS1 := hws.q1 (p := bk0)
 clear HS hws
 go_upto_region 1 with (fail)
 refine wp_seq_text [] (StR.move (StR.no HS1)) ?_
 refine cX rfl rfl (of_q HT.out (by omega) (by omega) (show ((0 : Int) : Rat) = (0 : Rat) from rfl)) ?_
 refine pV (.agg (TC true (0 : Rat))) (fun w => bld_Turn rfl rfl rfl w) ?_
 refine sV (TC_one _ _) ?_
 refine Seq.done fun ws2 hws => ?_
 have HS2 := hws.q1 (p := bk0)
 clear HS1 hws
 go_wp2_with fail
 exact rO HS2 ⟨rfl, HS2.below⟩
set_option maxHeartbeats 2000000 in
set_option maxRecDepth 20000 in
theorem tfit_f {k : Nat} {t : Rat} {z0 : Rat} {W : World} {l : List Own} (hT : Tab W) (Zt : Rz k t)  (hz0 : t = z0) (hk : k ≤ 1000000000000) (w : World) (h : St W l w) :
  Calls Tryz.prog 145 #[.agg (TC false t)] w fun e w' => e = .returned (.agg (TC false z0)) ∧ Below w.heap.size w w' := by
 subst hz0
 have HT := Lib.hid (tabS hT h); clear hT h
 have Z_t := Lib.hid Zt; clear Zt
 go_enter Tryz.func145, Tryz.ntmps145
 have HS : St w [] w := St.start
 go_upto_region 0 with (fail)
 refine rgT [] HS ?_
 refine bX (TC false t) ?_
 intro bk1 _ _ hbk1_r
 refine nZ ?_
 refine Seq.alloc rfl rfl rfl (z := .agg #[.bool false, .bool false, .string ⟨#[]⟩, .string ⟨#[]⟩]) (by kernel_rfl) rfl ?_
 intro bk2 _ _ hbk2_r
 obtain ⟨_, _, hbk2_r⟩ := Reg.ne2 hbk2_r
 refine nZ ?_
 refine Seq.done fun ws1 hws => ?_
 have HS1 := hws.q2 (p := bk1) (q := bk2)
 clear HS hws
 go_upto_region 1 with (fail)
 refine rgT [] HS1 ?_
 refine pU ?_
 refine Seq.loadCell rfl rfl rfl rfl (by repeat first|exact mC|apply mT) (v := .bool false) rfl (by kernel_rfl) rfl (nZ ?_)
 refine Seq.done fun ws2 hws => ?_
 have HS2 := hws.st
 clear HS1 hws
 go_upto_region 3 with (fail)
 have HPbk2 := HS2.p1
 refine wp_seq_text [] (StR.move (StR.no HPbk2)) ?_
 refine pU ?_
 refine lA (RC t) ?_
 refine cX rfl rfl (tof_q (k := (1 * k + 0)) HT.out (Z_t.out.more (by omega))  rfl (by omega)) ?_
 refine sV (TC_one _ _) ?_
 refine Seq.done fun ws3 hws => ?_
 have HS3 := hws.q1 (p := bk2)
 clear HS2 hws HPbk2
 go_wp2_with fail
 exact rO HS3 ⟨rfl, HS3.below⟩
set_option maxHeartbeats 2000000 in
set_option maxRecDepth 20000 in
theorem tfit_t {k : Nat} {t : Rat} {z0 : Rat} {W : World} {l : List Own} (hT : Tab W) (Zt : Rz k t)  (hz0 : (0 : Rat) = z0) (hk : k ≤ 1000000000000) (w : World) (h : St W l w) :
  Calls Tryz.prog 145 #[.agg (TC true t)] w fun e w' => e = .returned (.agg (TC true z0)) ∧ Below w.heap.size w w' := by
 subst hz0
 have HT := Lib.hid (tabS hT h); clear hT h
 have Z_t := Lib.hid Zt; clear Zt
 go_enter Tryz.func145, Tryz.ntmps145
 have HS : St w [] w := St.start
 go_upto_region 0 with (fail)
 refine rgT [] HS ?_
 refine bX (TC true t) ?_
 intro bk1 _ _ hbk1_r
 refine nZ ?_
 refine Seq.alloc rfl rfl rfl (z := .agg #[.bool false, .bool false, .string ⟨#[]⟩, .string ⟨#[]⟩]) (by kernel_rfl) rfl ?_
 intro bk2 _ _ hbk2_r
 obtain ⟨_, _, hbk2_r⟩ := Reg.ne2 hbk2_r
 refine nZ ?_
 refine Seq.done fun ws1 hws => ?_
 have HS1 := hws.q2 (p := bk1) (q := bk2)
 clear HS hws
 go_upto_region 1 with (fail)
 refine rgT [] HS1 ?_
 refine pU ?_
 refine Seq.loadCell rfl rfl rfl rfl (by repeat first|exact mC|apply mT) (v := .bool true) rfl (by kernel_rfl) rfl (nZ ?_)
 refine Seq.done fun ws2 hws => ?_
 have HS2 := hws.st
 clear HS1 hws
 go_upto_region 2 with (fail)
 have HPbk2 := HS2.p1
 refine wp_seq_text [] (StR.move (StR.no HPbk2)) ?_
 refine cX rfl rfl (half_q (k := 1) HT.out   rfl (by omega)) ?_
 refine sV (TC_one _ _) ?_
 refine Seq.done fun ws3 hws => ?_
 have HS3 := hws.q1 (p := bk2)
 clear HS2 hws HPbk2
 go_wp2_with fail
 exact rO HS3 ⟨rfl, HS3.below⟩
theorem tfit_q {k : Nat} {t : Rat} {h0 : Bool} {z0 : Bool} {z1 : Rat} {W : World} {l : List Own} (hT : Tab W) (Zt : Rz k t) (hg : GoodT h0 t) (hz0 : h0 = z0) (hz1 : t = z1) (hk : k ≤ 1000000000000) (w : World) (h : St W l w) :
  Calls Tryz.prog 145 #[.agg (TC h0 t)] w fun e w' => e = .returned (.agg (TC z0 z1)) ∧ Below w.heap.size w w' := by
 subst hz0 hz1
 cases h0
 ·exact tfit_f (k := k) hT Zt rfl hk w h
 ·have := hg rfl; subst this
  exact tfit_t (k := k) hT Zt rfl hk w h
set_option maxHeartbeats 2000000 in
set_option maxRecDepth 20000 in
theorem cos_f {k : Nat} {t : Rat} {z0 : Rat} {W : World} {l : List Own} (hT : Tab W) (Zt : Rz k t)  (hz0 : (1 - t * t) / (1 + t * t) = z0) (hk : k ≤ 1000000000000) (w : World) (h : St W l w) :
  Calls Tryz.prog 146 #[.agg (TC false t)] w fun e w' => e = .returned (.agg (RC z0)) ∧ Below w.heap.size w w' := by
 subst hz0
 have HT := Lib.hid (tabS hT h); clear hT h
 have Z_t := Lib.hid Zt; clear Zt
 go_enter Tryz.func146, Tryz.ntmps146
 have HS : St w [] w := St.start
 go_upto_region 0 with (fail)
 refine rgT [] HS ?_
 refine bX (TC false t) ?_
 intro bk1 _ _ hbk1_r
 refine nZ ?_
 refine aL3 ?_
 intro bk2 _ _ hbk2_r
 obtain ⟨_, _, hbk2_r⟩ := Reg.ne2 hbk2_r
 refine nZ ?_
 refine Seq.done fun ws1 hws => ?_
 have HS1 := hws.q2 (p := bk1) (q := bk2)
 clear HS hws
 go_upto_region 1 with (fail)
 refine wp_seq_text [0] (StR.move (StR.no HS1)) ?_
 refine gV ?_
 refine cX rfl rfl (tfit_q (k := (1 * k + 0)) HT.out (Z_t.out.more (by omega)) (fun h => by cases h) rfl rfl (by omega)) ?_
 refine sV (TC_one _ _) ?_
 refine Seq.done fun ws2 hws => ?_
 have HS2 := hws.q1 (p := bk1)
 clear HS1 hws
 go_upto_region 2 with (fail)
 refine rgT [] HS2 ?_
 refine pU ?_
 refine Seq.loadCell rfl rfl rfl rfl (by repeat first|exact mC|apply mT) (v := .bool false) rfl (by kernel_rfl) rfl (nZ ?_)
 refine Seq.done fun ws3 hws => ?_
 have HS3 := hws.st
 clear HS2 hws
 go_upto_region 4 with (fail)
 refine rgT [] HS3 ?_
 refine pU ?_
 refine lA (RC t) ?_
 refine pU ?_
 refine lA (RC t) ?_
 refine cX rfl rfl (mul_q (k := (1 * k + 0)) HT.out (Z_t.out.more (by omega)) (Z_t.out.more (by omega)) rfl (by omega)) ?_
 refine aL3 ?_
 intro bk3 _ _ hbk3_r
 refine nZ ?_
 refine sV (RC_one _) ?_
 refine Seq.done fun ws4 hws => ?_
 have HS4 := hws.q1 (p := bk3)
 clear HS3 hws
 go_upto_region 5 with (fail)
 refine rgW [] HS4 ?_
 refine cX rfl rfl (of_q HT.out (by omega) (by omega) (show ((1 : Int) : Rat) = (1 : Rat) from rfl)) ?_
 refine lV ?_
 refine cX rfl rfl (sub_q (k := (2 * k + 2)) HT.out ((show Rz 2 (1 : Rat) from Rz.lit (z := 1) rfl (by decide)).more (by omega)) ((Z_t.out.mul Z_t.out).more (by omega)) rfl (by omega)) ?_
 refine cX rfl rfl (of_q HT.out (by omega) (by omega) (show ((1 : Int) : Rat) = (1 : Rat) from rfl)) ?_
 refine lV ?_
 refine cX rfl rfl (add_q (k := (2 * k + 2)) HT.out ((show Rz 2 (1 : Rat) from Rz.lit (z := 1) rfl (by decide)).more (by omega)) ((Z_t.out.mul Z_t.out).more (by omega)) rfl (by omega)) ?_
 refine cX rfl rfl (div_q (k := (4 * k + 5)) HT.out (((show Rz 2 (1 : Rat) from Rz.lit (z := 1) rfl (by decide)).sub (Z_t.out.mul Z_t.out)).more (by omega)) (((show Rz 2 (1 : Rat) from Rz.lit (z := 1) rfl (by decide)).add (Z_t.out.mul Z_t.out)).more (by omega)) (one_sq t) rfl (by omega)) ?_
 refine pU ?_
 refine pV (.agg (RC (((1 : Rat) - (t * t)) / ((1 : Rat) + (t * t))))) (fun w => rfl) ?_
 refine pV (.int .i64 0) (fun w => rfl) ?_
 refine aL3 ?_
 intro bk4 _ _ hbk4_r
 refine nZ ?_
 refine sV (RC_one _) ?_
 refine pU ?_
 refine Seq.done fun ws5 hws => ?_
 have HS5 := hws.q1 (p := bk4)
 clear HS4 hws
 go_upto_region 6 with (fail)
 have HPbk2 := HS5.p3
 refine wp_seq_text [] (StR.move (StR.no HPbk2)) ?_
 refine lV ?_
 refine sV (RC_one _) ?_
 refine Seq.done fun ws6 hws => ?_
 have HS6 := hws.q1 (p := bk2)
 clear HS5 hws HPbk2
 go_wp2_with fail
 exact rO HS6 ⟨rfl, HS6.below⟩
set_option maxHeartbeats 2000000 in
set_option maxRecDepth 20000 in
theorem cos_t {k : Nat} {t : Rat} {z0 : Rat} {W : World} {l : List Own} (hT : Tab W) (Zt : Rz k t) (hg : GoodT true t) (hz0 : (-1 : Rat) = z0) (hk : k ≤ 1000000000000) (w : World) (h : St W l w) :
  Calls Tryz.prog 146 #[.agg (TC true t)] w fun e w' => e = .returned (.agg (RC z0)) ∧ Below w.heap.size w w' := by
 subst hz0
 have HT := Lib.hid (tabS hT h); clear hT h
 have Z_t := Lib.hid Zt; clear Zt
 go_enter Tryz.func146, Tryz.ntmps146
 have HS : St w [] w := St.start
 go_upto_region 0 with (fail)
 refine rgT [] HS ?_
 refine bX (TC true t) ?_
 intro bk1 _ _ hbk1_r
 refine nZ ?_
 refine aL3 ?_
 intro bk2 _ _ hbk2_r
 obtain ⟨_, _, hbk2_r⟩ := Reg.ne2 hbk2_r
 refine nZ ?_
 refine Seq.done fun ws1 hws => ?_
 have HS1 := hws.q2 (p := bk1) (q := bk2)
 clear HS hws
 go_upto_region 1 with (fail)
 refine wp_seq_text [0] (StR.move (StR.no HS1)) ?_
 refine gV ?_
 refine cX rfl rfl (tfit_q (k := (1 * k + 0)) HT.out (Z_t.out.more (by omega)) hg rfl rfl (by omega)) ?_
 refine sV (TC_one _ _) ?_
 refine Seq.done fun ws2 hws => ?_
 have HS2 := hws.q1 (p := bk1)
 clear HS1 hws
 go_upto_region 2 with (fail)
 refine rgT [] HS2 ?_
 refine pU ?_
 refine Seq.loadCell rfl rfl rfl rfl (by repeat first|exact mC|apply mT) (v := .bool true) rfl (by kernel_rfl) rfl (nZ ?_)
 refine Seq.done fun ws3 hws => ?_
 have HS3 := hws.st
 clear HS2 hws
 go_upto_region 3 with (fail)
 have HPbk2 := HS3.p1
 refine wp_seq_text [] (StR.move (StR.no HPbk2)) ?_
 refine cX rfl rfl (of_q HT.out (by omega) (by omega) (show ((-1 : Int) : Rat) = (-1 : Rat) from rfl)) ?_
 refine sV (RC_one _) ?_
 refine Seq.done fun ws4 hws => ?_
 have HS4 := hws.q1 (p := bk2)
 clear HS3 hws HPbk2
 go_wp2_with fail
 exact rO HS4 ⟨rfl, HS4.below⟩
theorem cos_q {k : Nat} {t : Rat} {h0 : Bool} {z0 : Rat} {W : World} {l : List Own} (hT : Tab W) (Zt : Rz k t) (hg : GoodT h0 t) (hz0 : cosT h0 t = z0) (hk : k ≤ 100000000000) (w : World) (h : St W l w) :
  Calls Tryz.prog 146 #[.agg (TC h0 t)] w fun e w' => e = .returned (.agg (RC z0)) ∧ Below w.heap.size w w' := by
 subst hz0
 cases h0
 ·exact cos_f (k := k) hT Zt rfl (by omega) w h
 ·exact cos_t (k := k) hT Zt hg rfl (by omega) w h
set_option maxHeartbeats 2000000 in
set_option maxRecDepth 20000 in
theorem sin_q {k : Nat} {t : Rat} {h_ : Bool} {z0 : Rat} {W : World} {l : List Own} (hT : Tab W) (Zt : Rz k t) (hg : GoodT h_ t) (hz0 : sinT t = z0) (hk : k ≤ 1000000000000) (w : World) (h : St W l w) :
  Calls Tryz.prog 114 #[.agg (TC h_ t)] w fun e w' => e = .returned (.agg (RC z0)) ∧ Below w.heap.size w w' := by
 subst hz0
 have HT := Lib.hid (tabS hT h); clear hT h
 have Z_t := Lib.hid Zt; clear Zt
 go_enter Tryz.func114, Tryz.ntmps114
 have HS : St w [] w := St.start
 go_upto_region 0 with (fail)
 refine rgT [] HS ?_
 refine bX (TC h_ t) ?_
 intro bk1 _ _ hbk1_r
 refine nZ ?_
 refine aL3 ?_
 intro bk2 _ _ hbk2_r
 obtain ⟨_, _, hbk2_r⟩ := Reg.ne2 hbk2_r
 refine nZ ?_
 refine Seq.done fun ws1 hws => ?_
 have HS1 := hws.q2 (p := bk1) (q := bk2)
 clear HS hws
 go_upto_region 1 with (fail)
 refine wp_seq_text [0] (StR.move (StR.no HS1)) ?_
 refine gV ?_
 refine cX rfl rfl (tfit_q (k := (1 * k + 0)) HT.out (Z_t.out.more (by omega)) hg rfl rfl (by omega)) ?_
 refine sV (TC_one _ _) ?_
 refine Seq.done fun ws2 hws => ?_
 have HS2 := hws.q1 (p := bk1)
 clear HS1 hws
 go_upto_region 2 with (fail)
 refine rgW [] HS2 ?_
 refine pU ?_
 refine lA (RC t) ?_
 refine pU ?_
 refine lA (RC t) ?_
 refine cX rfl rfl (add_q (k := (1 * k + 0)) HT.out (Z_t.out.more (by omega)) (Z_t.out.more (by omega)) rfl (by omega)) ?_
 refine cX rfl rfl (of_q HT.out (by omega) (by omega) (show ((1 : Int) : Rat) = (1 : Rat) from rfl)) ?_
 refine pU ?_
 refine lA (RC t) ?_
 refine pU ?_
 refine lA (RC t) ?_
 refine cX rfl rfl (mul_q (k := (1 * k + 0)) HT.out (Z_t.out.more (by omega)) (Z_t.out.more (by omega)) rfl (by omega)) ?_
 refine cX rfl rfl (add_q (k := (2 * k + 2)) HT.out ((show Rz 2 (1 : Rat) from Rz.lit (z := 1) rfl (by decide)).more (by omega)) ((Z_t.out.mul Z_t.out).more (by omega)) rfl (by omega)) ?_
 refine cX rfl rfl (div_q (k := (4 * k + 5)) HT.out ((Z_t.out.add Z_t.out).more (by omega)) (((show Rz 2 (1 : Rat) from Rz.lit (z := 1) rfl (by decide)).add (Z_t.out.mul Z_t.out)).more (by omega)) (one_sq t) rfl (by omega)) ?_
 refine pU ?_
 refine pV (.agg (RC (sinT t))) (fun w => rfl) ?_
 refine pV (.int .i64 0) (fun w => rfl) ?_
 refine aL3 ?_
 intro bk3 _ _ hbk3_r
 refine nZ ?_
 refine sV (RC_one _) ?_
 refine pU ?_
 refine Seq.done fun ws3 hws => ?_
 have HS3 := hws.q1 (p := bk3)
 clear HS2 hws
 go_upto_region 3 with (fail)
 have HPbk2 := HS3.p2
 refine wp_seq_text [] (StR.move (StR.no HPbk2)) ?_
 refine lV ?_
 refine sV (RC_one _) ?_
 refine Seq.done fun ws4 hws => ?_
 have HS4 := hws.q1 (p := bk2)
 clear HS3 hws HPbk2
 go_wp2_with fail
 exact rO HS4 ⟨rfl, HS4.below⟩
set_option maxHeartbeats 2000000 in
set_option maxRecDepth 20000 in
theorem vadd_q {k : Nat} {a1 a2 b1 b2 : Rat} {z0 : Rat} {z1 : Rat} {W : World} {l : List Own} (hT : Tab W) (Za1 : Rz k a1) (Za2 : Rz k a2) (Zb1 : Rz k b1) (Zb2 : Rz k b2)  (hz0 : a1 + b1 = z0) (hz1 : a2 + b2 = z1) (hk : k ≤ 1000000000000) (w : World) (h : St W l w) :
  Calls Tryz.prog 24 #[.agg (VC a1 a2), .agg (VC b1 b2)] w fun e w' => e = .returned (.agg (VC z0 z1)) ∧ Below w.heap.size w w' := by
 subst hz0
 subst hz1
 have HT := Lib.hid (tabS hT h); clear hT h
 have Z_a1 := Lib.hid Za1; clear Za1
 have Z_a2 := Lib.hid Za2; clear Za2
 have Z_b1 := Lib.hid Zb1; clear Zb1
 have Z_b2 := Lib.hid Zb2; clear Zb2
 go_enter Tryz.func24, Tryz.ntmps24
 have HS : St w [] w := St.start
 go_upto_region 0 with (fail)
 refine rgT [] HS ?_
 refine bX (VC a1 a2) ?_
 intro bk2 _ _ hbk2_r
 refine nZ ?_
 refine bX (VC b1 b2) ?_
 intro bk3 _ _ hbk3_r
 obtain ⟨_, _, hbk3_r⟩ := Reg.ne2 hbk3_r
 refine nZ ?_
 refine aL6 ?_
 intro bk4 _ _ hbk4_r
 obtain ⟨_, _, hbk4_r⟩ := Reg.ne2 hbk4_r
 obtain ⟨_, _, hbk4_r⟩ := Reg.ne2 hbk4_r
 refine nZ ?_
 refine Seq.done fun ws1 hws => ?_
 have HS1 := hws.q3 (p := bk2) (q := bk3) (r := bk4)
 clear HS hws
 go_upto_region 1 with (fail)
 have HPbk4 := HS1.p2
 refine wS [] (Reg.fin.put Reg.fin_no _ _) (StR.move (StR.no HPbk4)) ?_
 refine pU ?_
 refine lA (RC a1) ?_
 refine pU ?_
 refine lA (RC b1) ?_
 refine cX rfl rfl (add_q (k := (1 * k + 0)) HT.out (Z_a1.out.more (by omega)) (Z_b1.out.more (by omega)) rfl (by omega)) ?_
 refine pU ?_
 refine lA (RC a2) ?_
 refine pU ?_
 refine lA (RC b2) ?_
 refine cX rfl rfl (add_q (k := (1 * k + 0)) HT.out (Z_a2.out.more (by omega)) (Z_b2.out.more (by omega)) rfl (by omega)) ?_
 refine pV (.agg (VC (a1 + b1) (a2 + b2))) (fun w => bld_Vec rfl rfl rfl w) ?_
 refine sV (VC_one _ _) ?_
 refine Seq.done fun ws2 hws => ?_
 have HS2 := hws.q1 (p := bk4)
 clear HS1 hws HPbk4
 go_wp2_with fail
 exact rO HS2 ⟨rfl, HS2.below⟩
set_option maxHeartbeats 2000000 in
set_option maxRecDepth 20000 in
theorem dot_q {k : Nat} {a1 a2 b1 b2 : Rat} {z0 : Rat} {W : World} {l : List Own} (hT : Tab W) (Za1 : Rz k a1) (Za2 : Rz k a2) (Zb1 : Rz k b1) (Zb2 : Rz k b2)  (hz0 : (a1 * b1) + (a2 * b2) = z0) (hk : k ≤ 1000000000000) (w : World) (h : St W l w) :
  Calls Tryz.prog 141 #[.agg (VC a1 a2), .agg (VC b1 b2)] w fun e w' => e = .returned (.agg (RC z0)) ∧ Below w.heap.size w w' := by
 subst hz0
 have HT := Lib.hid (tabS hT h); clear hT h
 have Z_a1 := Lib.hid Za1; clear Za1
 have Z_a2 := Lib.hid Za2; clear Za2
 have Z_b1 := Lib.hid Zb1; clear Zb1
 have Z_b2 := Lib.hid Zb2; clear Zb2
 go_enter Tryz.func141, Tryz.ntmps141
 have HS : St w [] w := St.start
 go_upto_region 0 with (fail)
 refine rgT [] HS ?_
 refine bX (VC a1 a2) ?_
 intro bk2 _ _ hbk2_r
 refine nZ ?_
 refine bX (VC b1 b2) ?_
 intro bk3 _ _ hbk3_r
 obtain ⟨_, _, hbk3_r⟩ := Reg.ne2 hbk3_r
 refine nZ ?_
 refine aL3 ?_
 intro bk4 _ _ hbk4_r
 obtain ⟨_, _, hbk4_r⟩ := Reg.ne2 hbk4_r
 obtain ⟨_, _, hbk4_r⟩ := Reg.ne2 hbk4_r
 refine nZ ?_
 refine Seq.done fun ws1 hws => ?_
 have HS1 := hws.q3 (p := bk2) (q := bk3) (r := bk4)
 clear HS hws
 go_upto_region 1 with (fail)
 have HPbk4 := HS1.p2
 refine wS [] (Reg.fin.put Reg.fin_no _ _) (StR.move (StR.no HPbk4)) ?_
 refine pU ?_
 refine lA (RC a1) ?_
 refine pU ?_
 refine lA (RC b1) ?_
 refine cX rfl rfl (mul_q (k := (1 * k + 0)) HT.out (Z_a1.out.more (by omega)) (Z_b1.out.more (by omega)) rfl (by omega)) ?_
 refine pU ?_
 refine lA (RC a2) ?_
 refine pU ?_
 refine lA (RC b2) ?_
 refine cX rfl rfl (mul_q (k := (1 * k + 0)) HT.out (Z_a2.out.more (by omega)) (Z_b2.out.more (by omega)) rfl (by omega)) ?_
 refine cX rfl rfl (add_q (k := (2 * k + 0)) HT.out ((Z_a1.out.mul Z_b1.out).more (by omega)) ((Z_a2.out.mul Z_b2.out).more (by omega)) rfl (by omega)) ?_
 refine sV (RC_one _) ?_
 refine Seq.done fun ws2 hws => ?_
 have HS2 := hws.q1 (p := bk4)
 clear HS1 hws HPbk4
 go_wp2_with fail
 exact rO HS2 ⟨rfl, HS2.below⟩
set_option maxHeartbeats 2000000 in
set_option maxRecDepth 20000 in
theorem vsub_q {k : Nat} {a1 a2 b1 b2 : Rat} {z0 : Rat} {z1 : Rat} {W : World} {l : List Own} (hT : Tab W) (Za1 : Rz k a1) (Za2 : Rz k a2) (Zb1 : Rz k b1) (Zb2 : Rz k b2)  (hz0 : a1 - b1 = z0) (hz1 : a2 - b2 = z1) (hk : k ≤ 1000000000000) (w : World) (h : St W l w) :
  Calls Tryz.prog 116 #[.agg (VC a1 a2), .agg (VC b1 b2)] w fun e w' => e = .returned (.agg (VC z0 z1)) ∧ Below w.heap.size w w' := by
 subst hz0
 subst hz1
 have HT := Lib.hid (tabS hT h); clear hT h
 have Z_a1 := Lib.hid Za1; clear Za1
 have Z_a2 := Lib.hid Za2; clear Za2
 have Z_b1 := Lib.hid Zb1; clear Zb1
 have Z_b2 := Lib.hid Zb2; clear Zb2
 go_enter Tryz.func116, Tryz.ntmps116
 have HS : St w [] w := St.start
 go_upto_region 0 with (fail)
 refine rgT [] HS ?_
 refine bX (VC a1 a2) ?_
 intro bk2 _ _ hbk2_r
 refine nZ ?_
 refine bX (VC b1 b2) ?_
 intro bk3 _ _ hbk3_r
 obtain ⟨_, _, hbk3_r⟩ := Reg.ne2 hbk3_r
 refine nZ ?_
 refine aL6 ?_
 intro bk4 _ _ hbk4_r
 obtain ⟨_, _, hbk4_r⟩ := Reg.ne2 hbk4_r
 obtain ⟨_, _, hbk4_r⟩ := Reg.ne2 hbk4_r
 refine nZ ?_
 refine Seq.done fun ws1 hws => ?_
 have HS1 := hws.q3 (p := bk2) (q := bk3) (r := bk4)
 clear HS hws
 go_upto_region 1 with (fail)
 have HPbk4 := HS1.p2
 refine wS [] (Reg.fin.put Reg.fin_no _ _) (StR.move (StR.no HPbk4)) ?_
 refine pU ?_
 refine lA (RC a1) ?_
 refine pU ?_
 refine lA (RC b1) ?_
 refine cX rfl rfl (sub_q (k := (1 * k + 0)) HT.out (Z_a1.out.more (by omega)) (Z_b1.out.more (by omega)) rfl (by omega)) ?_
 refine pU ?_
 refine lA (RC a2) ?_
 refine pU ?_
 refine lA (RC b2) ?_
 refine cX rfl rfl (sub_q (k := (1 * k + 0)) HT.out (Z_a2.out.more (by omega)) (Z_b2.out.more (by omega)) rfl (by omega)) ?_
 refine pV (.agg (VC (a1 - b1) (a2 - b2))) (fun w => bld_Vec rfl rfl rfl w) ?_
 refine sV (VC_one _ _) ?_
 refine Seq.done fun ws2 hws => ?_
 have HS2 := hws.q1 (p := bk4)
 clear HS1 hws HPbk4
 go_wp2_with fail
 exact rO HS2 ⟨rfl, HS2.below⟩
set_option maxHeartbeats 2000000 in
set_option maxRecDepth 20000 in
theorem scale_q {k : Nat} {a1 a2 n : Rat} {z0 : Rat} {z1 : Rat} {W : World} {l : List Own} (hT : Tab W) (Za1 : Rz k a1) (Za2 : Rz k a2) (Zn : Rz k n)  (hz0 : a1 * n = z0) (hz1 : a2 * n = z1) (hk : k ≤ 1000000000000) (w : World) (h : St W l w) :
  Calls Tryz.prog 16 #[.agg (VC a1 a2), .agg (RC n)] w fun e w' => e = .returned (.agg (VC z0 z1)) ∧ Below w.heap.size w w' := by
 subst hz0
 subst hz1
 have HT := Lib.hid (tabS hT h); clear hT h
 have Z_a1 := Lib.hid Za1; clear Za1
 have Z_a2 := Lib.hid Za2; clear Za2
 have Z_n := Lib.hid Zn; clear Zn
 go_enter Tryz.func16, Tryz.ntmps16
 have HS : St w [] w := St.start
 go_upto_region 0 with (fail)
 refine rgT [] HS ?_
 refine bX (VC a1 a2) ?_
 intro bk2 _ _ hbk2_r
 refine nZ ?_
 refine bX (RC n) ?_
 intro bk3 _ _ hbk3_r
 obtain ⟨_, _, hbk3_r⟩ := Reg.ne2 hbk3_r
 refine nZ ?_
 refine aL6 ?_
 intro bk4 _ _ hbk4_r
 obtain ⟨_, _, hbk4_r⟩ := Reg.ne2 hbk4_r
 obtain ⟨_, _, hbk4_r⟩ := Reg.ne2 hbk4_r
 refine nZ ?_
 refine Seq.done fun ws1 hws => ?_
 have HS1 := hws.q3 (p := bk2) (q := bk3) (r := bk4)
 clear HS hws
 go_upto_region 1 with (fail)
 have HPbk4 := HS1.p2
 refine wS [] (Reg.fin.put Reg.fin_no _ _) (StR.move (StR.no HPbk4)) ?_
 refine pU ?_
 refine lA (RC a1) ?_
 refine lV ?_
 refine cX rfl rfl (mul_q (k := (1 * k + 0)) HT.out (Z_a1.out.more (by omega)) (Z_n.out.more (by omega)) rfl (by omega)) ?_
 refine pU ?_
 refine lA (RC a2) ?_
 refine lV ?_
 refine cX rfl rfl (mul_q (k := (1 * k + 0)) HT.out (Z_a2.out.more (by omega)) (Z_n.out.more (by omega)) rfl (by omega)) ?_
 refine pV (.agg (VC (a1 * n) (a2 * n))) (fun w => bld_Vec rfl rfl rfl w) ?_
 refine sV (VC_one _ _) ?_
 refine Seq.done fun ws2 hws => ?_
 have HS2 := hws.q1 (p := bk4)
 clear HS1 hws HPbk4
 go_wp2_with fail
 exact rO HS2 ⟨rfl, HS2.below⟩
set_option maxHeartbeats 2000000 in
set_option maxRecDepth 20000 in
theorem cross_q {k : Nat} {a1 a2 b1 b2 : Rat} {z0 : Rat} {W : World} {l : List Own} (hT : Tab W) (Za1 : Rz k a1) (Za2 : Rz k a2) (Zb1 : Rz k b1) (Zb2 : Rz k b2)  (hz0 : (a1 * b2) - (a2 * b1) = z0) (hk : k ≤ 1000000000000) (w : World) (h : St W l w) :
  Calls Tryz.prog 101 #[.agg (VC a1 a2), .agg (VC b1 b2)] w fun e w' => e = .returned (.agg (RC z0)) ∧ Below w.heap.size w w' := by
 subst hz0
 have HT := Lib.hid (tabS hT h); clear hT h
 have Z_a1 := Lib.hid Za1; clear Za1
 have Z_a2 := Lib.hid Za2; clear Za2
 have Z_b1 := Lib.hid Zb1; clear Zb1
 have Z_b2 := Lib.hid Zb2; clear Zb2
 go_enter Tryz.func101, Tryz.ntmps101
 have HS : St w [] w := St.start
 go_upto_region 0 with (fail)
 refine rgT [] HS ?_
 refine bX (VC a1 a2) ?_
 intro bk2 _ _ hbk2_r
 refine nZ ?_
 refine bX (VC b1 b2) ?_
 intro bk3 _ _ hbk3_r
 obtain ⟨_, _, hbk3_r⟩ := Reg.ne2 hbk3_r
 refine nZ ?_
 refine aL3 ?_
 intro bk4 _ _ hbk4_r
 obtain ⟨_, _, hbk4_r⟩ := Reg.ne2 hbk4_r
 obtain ⟨_, _, hbk4_r⟩ := Reg.ne2 hbk4_r
 refine nZ ?_
 refine Seq.done fun ws1 hws => ?_
 have HS1 := hws.q3 (p := bk2) (q := bk3) (r := bk4)
 clear HS hws
 go_upto_region 1 with (fail)
 have HPbk4 := HS1.p2
 refine wS [] (Reg.fin.put Reg.fin_no _ _) (StR.move (StR.no HPbk4)) ?_
 refine pU ?_
 refine lA (RC a1) ?_
 refine pU ?_
 refine lA (RC b2) ?_
 refine cX rfl rfl (mul_q (k := (1 * k + 0)) HT.out (Z_a1.out.more (by omega)) (Z_b2.out.more (by omega)) rfl (by omega)) ?_
 refine pU ?_
 refine lA (RC a2) ?_
 refine pU ?_
 refine lA (RC b1) ?_
 refine cX rfl rfl (mul_q (k := (1 * k + 0)) HT.out (Z_a2.out.more (by omega)) (Z_b1.out.more (by omega)) rfl (by omega)) ?_
 refine cX rfl rfl (sub_q (k := (2 * k + 0)) HT.out ((Z_a1.out.mul Z_b2.out).more (by omega)) ((Z_a2.out.mul Z_b1.out).more (by omega)) rfl (by omega)) ?_
 refine sV (RC_one _) ?_
 refine Seq.done fun ws2 hws => ?_
 have HS2 := hws.q1 (p := bk4)
 clear HS1 hws HPbk4
 go_wp2_with fail
 exact rO HS2 ⟨rfl, HS2.below⟩
set_option maxHeartbeats 2000000 in
set_option maxRecDepth 20000 in
theorem vturn_q {k : Nat} {a1 a2 t : Rat} {h_ : Bool} {z0 : Rat} {z1 : Rat} {W : World} {l : List Own} (hT : Tab W) (Za1 : Rz k a1) (Za2 : Rz k a2) (Zt : Rz k t) (hg : GoodT h_ t) (hz0 : (a1 * (cosT h_ t)) - (a2 * (sinT t)) = z0) (hz1 : (a1 * (sinT t)) + (a2 * (cosT h_ t)) = z1) (hk : k ≤ 100000000000) (w : World) (h : St W l w) :
  Calls Tryz.prog 115 #[.agg (VC a1 a2), .agg (TC h_ t)] w fun e w' => e = .returned (.agg (VC z0 z1)) ∧ Below w.heap.size w w' := by
 subst hz0
 subst hz1
 have HT := Lib.hid (tabS hT h); clear hT h
 have Z_a1 := Lib.hid Za1; clear Za1
 have Z_a2 := Lib.hid Za2; clear Za2
 have Z_t := Lib.hid Zt; clear Zt
 go_enter Tryz.func115, Tryz.ntmps115
 have HS : St w [] w := St.start
 go_upto_region 0 with (fail)
 refine rgT [] HS ?_
 refine bX (VC a1 a2) ?_
 intro bk2 _ _ hbk2_r
 refine nZ ?_
 refine bX (TC h_ t) ?_
 intro bk3 _ _ hbk3_r
 obtain ⟨_, _, hbk3_r⟩ := Reg.ne2 hbk3_r
 refine nZ ?_
 refine aL6 ?_
 intro bk4 _ _ hbk4_r
 obtain ⟨_, _, hbk4_r⟩ := Reg.ne2 hbk4_r
 obtain ⟨_, _, hbk4_r⟩ := Reg.ne2 hbk4_r
 refine nZ ?_
 refine Seq.done fun ws1 hws => ?_
 have HS1 := hws.q3 (p := bk2) (q := bk3) (r := bk4)
 clear HS hws
 go_upto_region 1 with (fail)
 refine rgW [] HS1 ?_
 refine lV ?_
 refine cX rfl rfl (cos_q (k := (1 * k + 0)) HT.out (Z_t.out.more (by omega)) hg rfl (by omega)) ?_
 refine lV ?_
 refine cX rfl rfl (sin_q (k := (1 * k + 0)) HT.out (Z_t.out.more (by omega)) hg rfl (by omega)) ?_
 refine pV (.agg (VC (cosT h_ t) (sinT t))) (fun w => bld_Vec rfl rfl rfl w) ?_
 refine aL6 ?_
 intro bk5 _ _ hbk5_r
 refine nZ ?_
 refine sV (VC_one _ _) ?_
 refine Seq.done fun ws2 hws => ?_
 have HS2 := hws.q1 (p := bk5)
 clear HS1 hws
 go_upto_region 2 with (fail)
 have HPbk4 := HS2.p3
 refine wS [] (Reg.fin.put Reg.fin_no _ _) (StR.move (StR.no HPbk4)) ?_
 refine pU ?_
 refine lA (RC a1) ?_
 refine pU ?_
 refine lA (RC (cosT h_ t)) ?_
 refine cX rfl rfl (mul_q (k := (8 * k + 10)) HT.out (Z_a1.out.more (by omega)) ((Rz.cosT h_ Z_t.out).more (by omega)) rfl (by omega)) ?_
 refine pU ?_
 refine lA (RC a2) ?_
 refine pU ?_
 refine lA (RC (sinT t)) ?_
 refine cX rfl rfl (mul_q (k := (8 * k + 10)) HT.out (Z_a2.out.more (by omega)) ((Rz.sinT Z_t.out).more (by omega)) rfl (by omega)) ?_
 refine cX rfl rfl (sub_q (k := (9 * k + 10)) HT.out ((Z_a1.out.mul (Rz.cosT h_ Z_t.out)).more (by omega)) ((Z_a2.out.mul (Rz.sinT Z_t.out)).more (by omega)) rfl (by omega)) ?_
 refine pU ?_
 refine lA (RC a1) ?_
 refine pU ?_
 refine lA (RC (sinT t)) ?_
 refine cX rfl rfl (mul_q (k := (8 * k + 10)) HT.out (Z_a1.out.more (by omega)) ((Rz.sinT Z_t.out).more (by omega)) rfl (by omega)) ?_
 refine pU ?_
 refine lA (RC a2) ?_
 refine pU ?_
 refine lA (RC (cosT h_ t)) ?_
 refine cX rfl rfl (mul_q (k := (8 * k + 10)) HT.out (Z_a2.out.more (by omega)) ((Rz.cosT h_ Z_t.out).more (by omega)) rfl (by omega)) ?_
 refine cX rfl rfl (add_q (k := (9 * k + 10)) HT.out ((Z_a1.out.mul (Rz.sinT Z_t.out)).more (by omega)) ((Z_a2.out.mul (Rz.cosT h_ Z_t.out)).more (by omega)) rfl (by omega)) ?_
 refine pV (.agg (VC ((a1 * (cosT h_ t)) - (a2 * (sinT t))) ((a1 * (sinT t)) + (a2 * (cosT h_ t))))) (fun w => bld_Vec rfl rfl rfl w) ?_
 refine sV (VC_one _ _) ?_
 refine Seq.done fun ws3 hws => ?_
 have HS3 := hws.q1 (p := bk4)
 clear HS2 hws HPbk4
 go_wp2_with fail
 exact rO HS3 ⟨rfl, HS3.below⟩
theorem num_s (m n : Int) (hm : m.natAbs < 65536) (hn : n.natAbs < 65536) (h0 : n ≠ 0) : Rz 4 ((m : Rat) / (n : Rat)) :=
 (Rz.lit (z := m) rfl hm).div (Rz.lit (z := n) rfl hn) (fun h => h0 (by
  have h2 : ((n : Int) : Rat) = ((0 : Int) : Rat) := h
  exact Rat.intCast_inj.1 h2))
set_option maxRecDepth 20000 in
theorem num_q {m n : Int} {z0 : Rat} {W : World} {l : List Own} (hT : Tab W) (hm : m.natAbs < 65536) (hn : n.natAbs < 65536) (h0 : n ≠ 0) (hz0 : (m : Rat) / (n : Rat) = z0) (w : World) (h : St W l w) :
  Calls Tryz.prog 17 #[.int .i64 m, .int .i64 n] w fun e w' => e = .returned (.agg (RC z0)) ∧ Below w.heap.size w w' := by
 subst hz0
 have HT := Lib.hid (tabS hT h); clear hT h
 have HI := Lib.hid (show (-9223372036854775808 ≤ m ∧ m ≤ 9223372036854775807 ∧ -9223372036854775808 ≤ n ∧ n ≤ 9223372036854775807 ∧ n ≠ 0) from ⟨by omega, by omega, by omega, by omega, h0⟩); clear hm hn h0
 go_enter Tryz.func17, Tryz.ntmps17
 have HS : St w [] w := St.start
 go_upto_region 0 with (fail)
 refine rgT [] HS ?_
 refine aL3 ?_
 intro bk4 _ _ hbk4_r
 refine nZ ?_
 refine Seq.done fun ws1 hws => ?_
 have HS1 := hws.q1 (p := bk4)
 clear HS hws
 go_upto_region 1 with (fail)
 refine rgT [] HS1 ?_
 refine pW ?_
 refine pW ?_
 refine cL (make_q HT.out HI.out.1 HI.out.2.1 HI.out.2.2.1 HI.out.2.2.2.1 HI.out.2.2.2.2 rfl) ?_
 refine pW ?_
 refine pV (.agg (RC ((m : Rat) / (n : Rat)))) (fun w => rfl) ?_
 refine pV (.int .i64 0) (fun w => rfl) ?_
 refine aL3 ?_
 intro bk5 _ _ hbk5_r
 refine nZ ?_
 refine Seq.store rfl rfl rfl rfl rfl (by repeat first|exact rS|refine rN ‹_› ?_) (n := 3) rfl rfl (by kernel_rfl) (RC_one _) (nZ ?_)
 refine pW ?_
 refine Seq.done fun ws2 hws => ?_
 have HS2 := hws.q1 (p := bk5)
 clear HS1 hws
 go_upto_region 2 with (fail)
 have HPbk4 := HS2.p1
 refine wp_seq_text [] (StR.move (StR.no HPbk4)) ?_
 refine lV ?_
 refine Seq.store rfl rfl rfl rfl rfl (by repeat first|exact rS|refine rN ‹_› ?_) (n := 3) rfl rfl (by kernel_rfl) (RC_one _) (nZ ?_)
 refine Seq.done fun ws3 hws => ?_
 have HS3 := hws.q1 (p := bk4)
 clear HS2 hws HPbk4
 go_wp2_with fail
 exact rO HS3 ⟨rfl, HS3.below⟩
set_option maxRecDepth 20000 in
theorem vector_q {x y : Int} {z0 z1 : Rat} {W : World} {l : List Own} (hT : Tab W) (hx : (-9223372036854775808 ≤ x ∧ x ≤ 9223372036854775807)) (hy : (-9223372036854775808 ≤ y ∧ y ≤ 9223372036854775807)) (hz0 : ratMq x = z0) (hz1 : ratMq y = z1) (w : World) (h : St W l w) :
  Calls Tryz.prog 12 #[.int .i64 x, .int .i64 y] w fun e w' => e = .returned (.agg (VC z0 z1)) ∧ Below w.heap.size w w' := by
 subst hz0 hz1
 have HT := Lib.hid (tabS hT h); clear hT h
 have HI := Lib.hid (And.intro hx hy); clear hx hy
 go_enter Tryz.func12, Tryz.ntmps12
 have HS : St w [] w := St.start
 go_upto_region 0 with (fail)
 refine rgT [] HS ?_
 refine aL6 ?_
 intro bk4 _ _ hbk4_r
 refine nZ ?_
 refine Seq.done fun ws1 hws => ?_
 have HS1 := hws.q1 (p := bk4)
 clear HS hws
 go_upto_region 1 with (fail)
 refine wp_seq_text [] (StR.move (StR.no HS1)) ?_
 refine pW ?_
 refine cL (ratM_q rfl HI.out.1.1 HI.out.1.2) ?_
 refine pW ?_
 refine cL (ratM_q rfl HI.out.2.1 HI.out.2.2) ?_
 refine pV (.agg (VC (ratMq x) (ratMq y))) (fun w => bld_Vec rfl rfl rfl w) ?_
 refine Seq.store rfl rfl rfl rfl rfl (by repeat first|exact rS|refine rN ‹_› ?_) (n := 6) rfl rfl (by kernel_rfl) (VC_one _ _) (nZ ?_)
 refine Seq.done fun ws2 hws => ?_
 have HS2 := hws.q1 (p := bk4)
 clear HS1 hws
 go_wp2_with fail
 exact rO HS2 ⟨rfl, HS2.below⟩
set_option maxHeartbeats 2000000 in
set_option maxRecDepth 20000 in
theorem tbegun_q {W : World} {l : List Own} (hT : Tab W) (w : World) (h : St W l w) :
  Calls Tryz.prog 142 #[] w fun e w' => e = .returned (.bool true) ∧ Below w.heap.size w w' := by
 have HT := Lib.hid (tabS hT h); clear hT h
 go_enter Tryz.func142, Tryz.ntmps142
 have HS : St w [] w := St.start
 go_upto_region 0 with (fail)
 refine rgT [] HS ?_
 refine pW ?_
 refine Seq.done fun ws1 hws => ?_
 have HS1 := hws.st
 clear HS hws
 go_upto_region 1 with (fail)
 refine rgT [] HS1 ?_
 refine cX rfl rfl (num_q (m := 1) (n := 2) HT.out (by decide) (by decide) (by decide) (show ((1 : Int) : Rat) / ((2 : Int) : Rat) = ((1 : Int) : Rat) / ((2 : Int) : Rat) from rfl)) ?_
 refine cX rfl rfl (tof_q (k := 4) HT.out ((show Rz 4 (((1 : Int) : Rat) / ((2 : Int) : Rat)) from (show ((1 : Int) : Rat) / ((2 : Int) : Rat) = ((1 : Int) : Rat) / ((2 : Int) : Rat) from rfl) ▸ num_s 1 2 (by decide) (by decide) (by decide)).more (by omega))  rfl (by omega)) ?_
 refine Seq.alloc rfl rfl rfl (z := .agg #[.bool false, .bool false, .string ⟨#[]⟩, .string ⟨#[]⟩]) (by kernel_rfl) rfl ?_
 intro bk1 _ _ hbk1_r
 refine nZ ?_
 refine Seq.store rfl rfl rfl rfl rfl (by repeat first|exact rS|refine rN ‹_› ?_) (n := 4) rfl rfl (by kernel_rfl) (TC_one _ _) (nZ ?_)
 refine Seq.done fun ws2 hws => ?_
 have HS2 := hws.q1 (p := bk1)
 clear HS1 hws
 go_upto_region 2 with (fail)
 refine rgT [] HS2 ?_
 refine cL (begun_q HT.out) ?_
 refine pW ?_
 refine lV ?_
 refine cX rfl rfl (cos_q (k := 4) HT.out ((show Rz 4 (((1 : Int) : Rat) / ((2 : Int) : Rat)) from (show ((1 : Int) : Rat) / ((2 : Int) : Rat) = ((1 : Int) : Rat) / ((2 : Int) : Rat) from rfl) ▸ num_s 1 2 (by decide) (by decide) (by decide)).more (by omega)) (fun h => by cases h) rfl (by omega)) ?_
 refine cX rfl rfl (num_q (m := 3) (n := 5) HT.out (by decide) (by decide) (by decide) (show ((3 : Int) : Rat) / ((5 : Int) : Rat) = ((3 : Int) : Rat) / ((5 : Int) : Rat) from rfl)) ?_
 refine Seq.eqR rfl rfl rfl rfl rfl (b := true) (decide_eq_true (by unfold cosT; decide +kernel)) (nZ ?_)
 refine pW ?_
 refine pW ?_
 refine lV ?_
 refine cX rfl rfl (sin_q (k := 4) HT.out ((show Rz 4 (((1 : Int) : Rat) / ((2 : Int) : Rat)) from (show ((1 : Int) : Rat) / ((2 : Int) : Rat) = ((1 : Int) : Rat) / ((2 : Int) : Rat) from rfl) ▸ num_s 1 2 (by decide) (by decide) (by decide)).more (by omega)) (fun h => by cases h) rfl (by omega)) ?_
 refine cX rfl rfl (num_q (m := 4) (n := 5) HT.out (by decide) (by decide) (by decide) (show ((4 : Int) : Rat) / ((5 : Int) : Rat) = ((4 : Int) : Rat) / ((5 : Int) : Rat) from rfl)) ?_
 refine Seq.eqR rfl rfl rfl rfl rfl (b := true) (decide_eq_true (by unfold sinT; decide +kernel)) (nZ ?_)
 refine pW ?_
 refine pW ?_
 refine Seq.done fun ws3 hws => ?_
 have HS3 := hws.st
 clear HS2 hws
 go_wp2_with fail
 go_ret
 exact ⟨rfl, HS3.below⟩
set_option maxHeartbeats 2000000 in
set_option maxRecDepth 20000 in
theorem vbegun_q {W : World} {l : List Own} (hT : Tab W) (w : World) (h : St W l w) :
  Calls Tryz.prog 103 #[] w fun e w' => e = .returned (.bool true) ∧ Below w.heap.size w w' := by
 have HT := Lib.hid (tabS hT h); clear hT h
 go_enter Tryz.func103, Tryz.ntmps103
 have HS : St w [] w := St.start
 go_upto_region 0 with (fail)
 refine rgT [] HS ?_
 refine pW ?_
 refine Seq.done fun ws1 hws => ?_
 have HS1 := hws.st
 clear HS hws
 go_upto_region 1 with (fail)
 refine rgT [] HS1 ?_
 refine cL (tbegun_q HT.out) ?_
 refine pW ?_
 refine cX rfl rfl (of_q HT.out (by omega) (by omega) (show ((1 : Int) : Rat) = (1 : Rat) from rfl)) ?_
 refine cX rfl rfl (of_q HT.out (by omega) (by omega) (show ((2 : Int) : Rat) = (2 : Rat) from rfl)) ?_
 refine pV (.agg (VC (1 : Rat) (2 : Rat))) (fun w => bld_Vec rfl rfl rfl w) ?_
 refine cX rfl rfl (of_q HT.out (by omega) (by omega) (show ((3 : Int) : Rat) = (3 : Rat) from rfl)) ?_
 refine cX rfl rfl (of_q HT.out (by omega) (by omega) (show ((4 : Int) : Rat) = (4 : Rat) from rfl)) ?_
 refine pV (.agg (VC (3 : Rat) (4 : Rat))) (fun w => bld_Vec rfl rfl rfl w) ?_
 refine cX rfl rfl (dot_q (k := 2) HT.out ((show Rz 2 (1 : Rat) from Rz.lit (z := 1) rfl (by decide)).more (by omega)) ((show Rz 2 (2 : Rat) from Rz.lit (z := 2) rfl (by decide)).more (by omega)) ((show Rz 2 (3 : Rat) from Rz.lit (z := 3) rfl (by decide)).more (by omega)) ((show Rz 2 (4 : Rat) from Rz.lit (z := 4) rfl (by decide)).more (by omega))  rfl (by omega)) ?_
 refine cX rfl rfl (of_q HT.out (by omega) (by omega) (show ((11 : Int) : Rat) = (11 : Rat) from rfl)) ?_
 refine Seq.eqR rfl rfl rfl rfl rfl (b := true) (decide_eq_true (by decide +kernel)) (nZ ?_)
 refine pW ?_
 refine pW ?_
 refine Seq.done fun ws2 hws => ?_
 have HS2 := hws.st
 clear HS1 hws
 go_wp2_with fail
 go_ret
 exact ⟨rfl, HS2.below⟩
end Go.Proofs.YtmchjmflkaiakaaGreatDoor
