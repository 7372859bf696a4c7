/- Joined texts: Sp0 SpL Sp1 Sp2. -/
import Derived.Test.YtoejojfjiikogaaGreatDoorSpQ
/- Turns: what the functions compute, and how large it is. -/
namespace Go.Proofs.YtoejojfjiikogaaGreatDoor
open Go.RowKit
set_option linter.unusedVariables false
set_option linter.unusedSimpArgs false

/-- a turn in good form: the half turn has the number 0 -/
def GoodT (h : Bool) (t : Rat) : Prop := h = true → t = 0
def cosT (h : Bool) (t : Rat) : Rat := if h = true then -1 else (1 - t * t) / (1 + t * t)
def sinT (t : Rat) : Rat := (t + t) / (1 + t * t)
theorem sq_nonneg (t : Rat) : 0 ≤ t * t := by
  rcases rat_tri t 0 with h | h | h
  · have := mul_lt_r (show 0 < -t by grind) (show 0 < -t by grind); grind
  · subst h; grind
  · have := mul_lt_r h h; grind
theorem one_sq (t : Rat) : (1 : Rat) + t * t ≠ 0 := by have := sq_nonneg t; grind
theorem Rz.one2 : Rz 2 (1 : Rat) := Rz.lit (z := 1) rfl (by decide)
theorem Rz.neg1 : Rz 2 (-1 : Rat) := Rz.lit (z := -1) rfl (by decide)
theorem Rz.zero2 : Rz 2 (0 : Rat) := Rz.lit (z := 0) rfl (by decide)
theorem Rz.cosT {k : Nat} {t : Rat} (h : Bool) (ht : Rz k t) : Rz (8 * k + 10) (cosT h t) := by
  unfold Go.Proofs.YtoejojfjiikogaaGreatDoor.cosT
  split
  · exact Rz.neg1.more (by omega)
  · exact ((Rz.one2.sub (ht.mul ht)).div (Rz.one2.add (ht.mul ht)) (one_sq t)).more (by omega)
theorem Rz.sinT {k : Nat} {t : Rat} (ht : Rz k t) : Rz (8 * k + 10) (sinT t) := by
  unfold Go.Proofs.YtoejojfjiikogaaGreatDoor.sinT
  exact ((ht.add ht).div (Rz.one2.add (ht.mul ht)) (one_sq t)).more (by omega)
end Go.Proofs.YtoejojfjiikogaaGreatDoor
/- Plain laws of turns and vectors. -/
namespace Go.Proofs.YtoejojfjiikogaaGreatDoor
open Go.RowKit
set_option linter.unusedVariables false
set_option linter.unusedSimpArgs false

/-! ### vectors -/
end Go.Proofs.YtoejojfjiikogaaGreatDoor
/- Walks of packages turn and vec (printed by span1.py). -/
namespace Go.Proofs.YtoejojfjiikogaaGreatDoor
open Go.RowKit
set_option linter.unusedVariables false
set_option linter.unusedSimpArgs false

set_option maxHeartbeats 2000000 in
set_option maxRecDepth 20000 in
theorem tof_q {k : Nat} {t : Rat} {z0 : Rat} {W : World} {l : List Own} (hT : Tab W) (Zt : Rz k t)  (hz0 : t = z0) (hk : k ≤ 1000000000000) (w : World) (h : St W l w) :
    Calls Tryz.prog 115 #[.agg (RC t)] w fun e w' => e = .returned (.agg (TC false z0)) ∧ Below w.heap.size w w' := by
  subst hz0
  have HT := Lib.hid (tabS hT h); clear hT h
  have Z_t := Lib.hid Zt; clear Zt
  go_enter Tryz.func115, Tryz.ntmps115
  have HS : St w [] w := St.start
  go_upto_region 0 with (fail)
  refine wp_seq_text [] (StR.no HS) ?_
  refine Seq.box rfl rfl rfl (v := .agg (RC t)) (cs := RC t) rfl rfl ?_
  intro bk1 _ _ hbk1_r
  simp only [Act.put, nA, nB, nC]
  refine Seq.alloc rfl rfl rfl (z := .agg #[.bool false, .bool false, .string ⟨#[]⟩, .string ⟨#[]⟩]) (by kernel_rfl) rfl ?_
  intro bk2 _ _ hbk2_r
  obtain ⟨ne_bk2_bk1, hbk2_r⟩ := Reg.ne_of_put hbk2_r
  have ne_bk1_bk2 := Ne.symm ne_bk2_bk1
  simp only [Act.put, nA, nB, nC]
  refine Seq.done fun ws1 hws => ?_
  have HS1 : St w [(bk1, 24, RC t), (bk2, 142, #[.bool false, .bool false, .string ⟨#[]⟩, .string ⟨#[]⟩])] ws1 := hws.list2 (by repeat (first | exact rS | refine rN (by assumption) ?_)) (by repeat (first | exact rS | refine rN (by assumption) ?_)) (by assumption)
  clear HS hws
  go_upto_region 1 with (fail)
  have HPbk2 : St w [(bk2, 142, #[.bool false, .bool false, .string ⟨#[]⟩, .string ⟨#[]⟩]), (bk1, 24, RC t)] _ := St.perm HS1 (List.perm_middle (l₁ := ([(bk1, 24, RC t)] : List Own)))
  refine wp_seq_text [] (StR.move (StR.no HPbk2)) ?_
  refine Seq.load rfl rfl rfl rfl (by repeat (first | exact mC | apply mT)) (n := 3) rfl (by kernel_rfl) ?_
  simp only [Act.put, nA, nB, nC]
  refine Seq.load rfl rfl rfl rfl (by repeat (first | exact mC | apply mT)) (n := 3) rfl (by kernel_rfl) ?_
  simp only [Act.put, nA, nB, nC]
  refine Seq.call rfl rfl rfl rfl (by kernel_rfl) (min_q (k := (1 * k + 0)) HT.out (Z_t.out.more (by omega)) (Z_t.out.more (by omega)) (min_self _) (by omega)) ?_
  simp only [Act.put, nA, nB, nC]
  refine Seq.pure (v := .agg (TC false t)) rfl rfl (fun w => bld_Turn1 rfl rfl w) ?_
  simp only [Act.put, nA, nB, nC]
  refine Seq.store rfl rfl rfl rfl rfl (by repeat (first | exact rS | refine rN (by assumption) ?_)) (n := 4) rfl rfl (by kernel_rfl) (TC_one _ _) ?_
  simp only [Act.put, nA, nB, nC]
  refine Seq.done fun ws2 hws => ?_
  have HS2 : St w [(bk2, 142, TC false t), (bk1, 24, RC t)] ws2 := hws.list1 (by repeat (first | exact rS | refine rN (by assumption) ?_))
  clear HS1 hws HPbk2
  go_wp2_with fail
  exact ret_own rfl rfl rfl HS2 (by repeat (first | exact mC | apply mT)) (n := 4) rfl (by kernel_rfl) ⟨rfl, HS2.below⟩
set_option maxHeartbeats 2000000 in
set_option maxRecDepth 20000 in
theorem half_q {k : Nat} {z0 : Rat} {W : World} {l : List Own} (hT : Tab W)   (hz0 : (0 : Rat) = z0) (hk : k ≤ 1000000000000) (w : World) (h : St W l w) :
    Calls Tryz.prog 163 #[] w fun e w' => e = .returned (.agg (TC true z0)) ∧ Below w.heap.size w w' := by
  subst hz0
  have HT := Lib.hid (tabS hT h); clear hT h
  go_enter Tryz.func163, Tryz.ntmps163
  have HS : St w [] w := St.start
  go_upto_region 0 with (fail)
  refine wp_seq_text [] (StR.no HS) ?_
  refine Seq.alloc rfl rfl rfl (z := .agg #[.bool false, .bool false, .string ⟨#[]⟩, .string ⟨#[]⟩]) (by kernel_rfl) rfl ?_
  intro bk0 _ _ hbk0_r
  simp only [Act.put, nA, nB, nC]
  refine Seq.done fun ws1 hws => ?_
  have HS1 : St w [(bk0, 142, #[.bool false, .bool false, .string ⟨#[]⟩, .string ⟨#[]⟩])] ws1 := hws.list1 (by repeat (first | exact rS | refine rN (by assumption) ?_))
  clear HS hws
  go_upto_region 1 with (fail)
  refine wp_seq_text [] (StR.move (StR.no HS1)) ?_
  refine Seq.call rfl rfl rfl rfl (by kernel_rfl) (of_q HT.out (by omega) (by omega) (show ((0 : Int) : Rat) = (0 : Rat) from rfl)) ?_
  simp only [Act.put, nA, nB, nC]
  refine Seq.pure (v := .agg (TC true (0 : Rat))) rfl rfl (fun w => bld_Turn rfl rfl rfl w) ?_
  simp only [Act.put, nA, nB, nC]
  refine Seq.store rfl rfl rfl rfl rfl (by repeat (first | exact rS | refine rN (by assumption) ?_)) (n := 4) rfl rfl (by kernel_rfl) (TC_one _ _) ?_
  simp only [Act.put, nA, nB, nC]
  refine Seq.done fun ws2 hws => ?_
  have HS2 : St w [(bk0, 142, TC true (0 : Rat))] ws2 := hws.list1 (by repeat (first | exact rS | refine rN (by assumption) ?_))
  clear HS1 hws
  go_wp2_with fail
  exact ret_own rfl rfl rfl HS2 (by repeat (first | exact mC | apply mT)) (n := 4) rfl (by kernel_rfl) ⟨rfl, HS2.below⟩
set_option maxHeartbeats 2000000 in
set_option maxRecDepth 20000 in
theorem tfit_f {k : Nat} {t : Rat} {z0 : Rat} {W : World} {l : List Own} (hT : Tab W) (Zt : Rz k t)  (hz0 : t = z0) (hk : k ≤ 1000000000000) (w : World) (h : St W l w) :
    Calls Tryz.prog 141 #[.agg (TC false t)] w fun e w' => e = .returned (.agg (TC false z0)) ∧ Below w.heap.size w w' := by
  subst hz0
  have HT := Lib.hid (tabS hT h); clear hT h
  have Z_t := Lib.hid Zt; clear Zt
  go_enter Tryz.func141, Tryz.ntmps141
  have HS : St w [] w := St.start
  go_upto_region 0 with (fail)
  refine wp_seq_text [] (StR.no HS) ?_
  refine Seq.box rfl rfl rfl (v := .agg (TC false t)) (cs := TC false t) rfl rfl ?_
  intro bk1 _ _ hbk1_r
  simp only [Act.put, nA, nB, nC]
  refine Seq.alloc rfl rfl rfl (z := .agg #[.bool false, .bool false, .string ⟨#[]⟩, .string ⟨#[]⟩]) (by kernel_rfl) rfl ?_
  intro bk2 _ _ hbk2_r
  obtain ⟨ne_bk2_bk1, hbk2_r⟩ := Reg.ne_of_put hbk2_r
  have ne_bk1_bk2 := Ne.symm ne_bk2_bk1
  simp only [Act.put, nA, nB, nC]
  refine Seq.done fun ws1 hws => ?_
  have HS1 : St w [(bk1, 142, TC false t), (bk2, 142, #[.bool false, .bool false, .string ⟨#[]⟩, .string ⟨#[]⟩])] ws1 := hws.list2 (by repeat (first | exact rS | refine rN (by assumption) ?_)) (by repeat (first | exact rS | refine rN (by assumption) ?_)) (by assumption)
  clear HS hws
  go_upto_region 1 with (fail)
  refine wp_seq_text [] (StR.no HS1) ?_
  refine Seq.pure rfl rfl (by intro w; go_simp; try rfl) ?_
  simp only [Act.put, nA, nB, nC]
  refine Seq.loadCell rfl rfl rfl rfl (by repeat (first | exact mC | apply mT)) (v := .bool false) rfl (by kernel_rfl) rfl ?_
  simp only [Act.put, nA, nB, nC]
  refine Seq.done fun ws2 hws => ?_
  have HS2 := hws.st
  clear HS1 hws
  go_upto_region 3 with (fail)
  have HPbk2 : St w [(bk2, 142, #[.bool false, .bool false, .string ⟨#[]⟩, .string ⟨#[]⟩]), (bk1, 142, TC false t)] _ := St.perm HS2 (List.perm_middle (l₁ := ([(bk1, 142, TC false t)] : List Own)))
  refine wp_seq_text [] (StR.move (StR.no HPbk2)) ?_
  refine Seq.pure rfl rfl (by intro w; go_simp; try rfl) ?_
  simp only [Act.put, nA, nB, nC]
  refine Seq.loadAt rfl rfl rfl rfl (by repeat (first | exact mC | apply mT)) (n := 3) (cs' := RC t) (Nat.le_of_ble_eq_true rfl) (by kernel_rfl) rfl ?_
  simp only [Act.put, nA, nB, nC]
  refine Seq.call rfl rfl rfl rfl (by kernel_rfl) (tof_q (k := (1 * k + 0)) HT.out (Z_t.out.more (by omega))  rfl (by omega)) ?_
  simp only [Act.put, nA, nB, nC]
  refine Seq.store rfl rfl rfl rfl rfl (by repeat (first | exact rS | refine rN (by assumption) ?_)) (n := 4) rfl rfl (by kernel_rfl) (TC_one _ _) ?_
  simp only [Act.put, nA, nB, nC]
  refine Seq.done fun ws3 hws => ?_
  have HS3 : St w [(bk2, 142, TC false t), (bk1, 142, TC false t)] ws3 := hws.list1 (by repeat (first | exact rS | refine rN (by assumption) ?_))
  clear HS2 hws HPbk2
  go_wp2_with fail
  exact ret_own rfl rfl rfl HS3 (by repeat (first | exact mC | apply mT)) (n := 4) rfl (by kernel_rfl) ⟨rfl, HS3.below⟩
set_option maxHeartbeats 2000000 in
set_option maxRecDepth 20000 in
theorem tfit_t {k : Nat} {t : Rat} {z0 : Rat} {W : World} {l : List Own} (hT : Tab W) (Zt : Rz k t)  (hz0 : (0 : Rat) = z0) (hk : k ≤ 1000000000000) (w : World) (h : St W l w) :
    Calls Tryz.prog 141 #[.agg (TC true t)] w fun e w' => e = .returned (.agg (TC true z0)) ∧ Below w.heap.size w w' := by
  subst hz0
  have HT := Lib.hid (tabS hT h); clear hT h
  have Z_t := Lib.hid Zt; clear Zt
  go_enter Tryz.func141, Tryz.ntmps141
  have HS : St w [] w := St.start
  go_upto_region 0 with (fail)
  refine wp_seq_text [] (StR.no HS) ?_
  refine Seq.box rfl rfl rfl (v := .agg (TC true t)) (cs := TC true t) rfl rfl ?_
  intro bk1 _ _ hbk1_r
  simp only [Act.put, nA, nB, nC]
  refine Seq.alloc rfl rfl rfl (z := .agg #[.bool false, .bool false, .string ⟨#[]⟩, .string ⟨#[]⟩]) (by kernel_rfl) rfl ?_
  intro bk2 _ _ hbk2_r
  obtain ⟨ne_bk2_bk1, hbk2_r⟩ := Reg.ne_of_put hbk2_r
  have ne_bk1_bk2 := Ne.symm ne_bk2_bk1
  simp only [Act.put, nA, nB, nC]
  refine Seq.done fun ws1 hws => ?_
  have HS1 : St w [(bk1, 142, TC true t), (bk2, 142, #[.bool false, .bool false, .string ⟨#[]⟩, .string ⟨#[]⟩])] ws1 := hws.list2 (by repeat (first | exact rS | refine rN (by assumption) ?_)) (by repeat (first | exact rS | refine rN (by assumption) ?_)) (by assumption)
  clear HS hws
  go_upto_region 1 with (fail)
  refine wp_seq_text [] (StR.no HS1) ?_
  refine Seq.pure rfl rfl (by intro w; go_simp; try rfl) ?_
  simp only [Act.put, nA, nB, nC]
  refine Seq.loadCell rfl rfl rfl rfl (by repeat (first | exact mC | apply mT)) (v := .bool true) rfl (by kernel_rfl) rfl ?_
  simp only [Act.put, nA, nB, nC]
  refine Seq.done fun ws2 hws => ?_
  have HS2 := hws.st
  clear HS1 hws
  go_upto_region 2 with (fail)
  have HPbk2 : St w [(bk2, 142, #[.bool false, .bool false, .string ⟨#[]⟩, .string ⟨#[]⟩]), (bk1, 142, TC true t)] _ := St.perm HS2 (List.perm_middle (l₁ := ([(bk1, 142, TC true t)] : List Own)))
  refine wp_seq_text [] (StR.move (StR.no HPbk2)) ?_
  refine Seq.call rfl rfl rfl rfl (by kernel_rfl) (half_q (k := 1) HT.out   rfl (by omega)) ?_
  simp only [Act.put, nA, nB, nC]
  refine Seq.store rfl rfl rfl rfl rfl (by repeat (first | exact rS | refine rN (by assumption) ?_)) (n := 4) rfl rfl (by kernel_rfl) (TC_one _ _) ?_
  simp only [Act.put, nA, nB, nC]
  refine Seq.done fun ws3 hws => ?_
  have HS3 : St w [(bk2, 142, TC true (0 : Rat)), (bk1, 142, TC true t)] ws3 := hws.list1 (by repeat (first | exact rS | refine rN (by assumption) ?_))
  clear HS2 hws HPbk2
  go_wp2_with fail
  exact ret_own rfl rfl rfl HS3 (by repeat (first | exact mC | apply mT)) (n := 4) rfl (by kernel_rfl) ⟨rfl, HS3.below⟩
theorem tfit_q {k : Nat} {t : Rat} {h0 : Bool} {z0 : Bool} {z1 : Rat} {W : World} {l : List Own} (hT : Tab W) (Zt : Rz k t) (hg : GoodT h0 t) (hz0 : h0 = z0) (hz1 : t = z1) (hk : k ≤ 1000000000000) (w : World) (h : St W l w) :
    Calls Tryz.prog 141 #[.agg (TC h0 t)] w fun e w' => e = .returned (.agg (TC z0 z1)) ∧ Below w.heap.size w w' := by
  subst hz0 hz1
  cases h0
  · exact tfit_f (k := k) hT Zt rfl hk w h
  · have := hg rfl; subst this
    exact tfit_t (k := k) hT Zt rfl hk w h
set_option maxHeartbeats 2000000 in
set_option maxRecDepth 20000 in
theorem cos_f {k : Nat} {t : Rat} {z0 : Rat} {W : World} {l : List Own} (hT : Tab W) (Zt : Rz k t)  (hz0 : (1 - t * t) / (1 + t * t) = z0) (hk : k ≤ 1000000000000) (w : World) (h : St W l w) :
    Calls Tryz.prog 117 #[.agg (TC false t)] w fun e w' => e = .returned (.agg (RC z0)) ∧ Below w.heap.size w w' := by
  subst hz0
  have HT := Lib.hid (tabS hT h); clear hT h
  have Z_t := Lib.hid Zt; clear Zt
  go_enter Tryz.func117, Tryz.ntmps117
  have HS : St w [] w := St.start
  go_upto_region 0 with (fail)
  refine wp_seq_text [] (StR.no HS) ?_
  refine Seq.box rfl rfl rfl (v := .agg (TC false t)) (cs := TC false t) rfl rfl ?_
  intro bk1 _ _ hbk1_r
  simp only [Act.put, nA, nB, nC]
  refine Seq.alloc rfl rfl rfl (z := .agg #[.bool false, .string ⟨#[]⟩, .string ⟨#[]⟩]) (by kernel_rfl) rfl ?_
  intro bk2 _ _ hbk2_r
  obtain ⟨ne_bk2_bk1, hbk2_r⟩ := Reg.ne_of_put hbk2_r
  have ne_bk1_bk2 := Ne.symm ne_bk2_bk1
  simp only [Act.put, nA, nB, nC]
  refine Seq.done fun ws1 hws => ?_
  have HS1 : St w [(bk1, 142, TC false t), (bk2, 24, #[.bool false, .string ⟨#[]⟩, .string ⟨#[]⟩])] ws1 := hws.list2 (by repeat (first | exact rS | refine rN (by assumption) ?_)) (by repeat (first | exact rS | refine rN (by assumption) ?_)) (by assumption)
  clear HS hws
  go_upto_region 1 with (fail)
  refine wp_seq_text [0] (StR.move (StR.no HS1)) ?_
  refine Seq.get rfl rfl rfl rfl (by repeat (first | exact rS | refine rN (by assumption) ?_)) (n := 4) rfl (by kernel_rfl) ?_
  simp only [Act.put, nA, nB, nC]
  refine Seq.call rfl rfl rfl rfl (by kernel_rfl) (tfit_q (k := (1 * k + 0)) HT.out (Z_t.out.more (by omega)) (fun h => by cases h) rfl rfl (by omega)) ?_
  simp only [Act.put, nA, nB, nC]
  refine Seq.store rfl rfl rfl rfl rfl (by repeat (first | exact rS | refine rN (by assumption) ?_)) (n := 4) rfl rfl (by kernel_rfl) (TC_one _ _) ?_
  simp only [Act.put, nA, nB, nC]
  refine Seq.done fun ws2 hws => ?_
  have HS2 : St w [(bk1, 142, TC false t), (bk2, 24, #[.bool false, .string ⟨#[]⟩, .string ⟨#[]⟩])] ws2 := hws.list1 (by repeat (first | exact rS | refine rN (by assumption) ?_))
  clear HS1 hws
  go_upto_region 2 with (fail)
  refine wp_seq_text [] (StR.no HS2) ?_
  refine Seq.pure rfl rfl (by intro w; go_simp; try rfl) ?_
  simp only [Act.put, nA, nB, nC]
  refine Seq.loadCell rfl rfl rfl rfl (by repeat (first | exact mC | apply mT)) (v := .bool false) rfl (by kernel_rfl) rfl ?_
  simp only [Act.put, nA, nB, nC]
  refine Seq.done fun ws3 hws => ?_
  have HS3 := hws.st
  clear HS2 hws
  go_upto_region 4 with (fail)
  refine wp_seq_text [] (StR.no HS3) ?_
  refine Seq.pure rfl rfl (by intro w; go_simp; try rfl) ?_
  simp only [Act.put, nA, nB, nC]
  refine Seq.loadAt rfl rfl rfl rfl (by repeat (first | exact mC | apply mT)) (n := 3) (cs' := RC t) (Nat.le_of_ble_eq_true rfl) (by kernel_rfl) rfl ?_
  simp only [Act.put, nA, nB, nC]
  refine Seq.pure rfl rfl (by intro w; go_simp; try rfl) ?_
  simp only [Act.put, nA, nB, nC]
  refine Seq.loadAt rfl rfl rfl rfl (by repeat (first | exact mC | apply mT)) (n := 3) (cs' := RC t) (Nat.le_of_ble_eq_true rfl) (by kernel_rfl) rfl ?_
  simp only [Act.put, nA, nB, nC]
  refine Seq.call rfl rfl rfl rfl (by kernel_rfl) (mul_q (k := (1 * k + 0)) HT.out (Z_t.out.more (by omega)) (Z_t.out.more (by omega)) rfl (by omega)) ?_
  simp only [Act.put, nA, nB, nC]
  refine Seq.alloc rfl rfl rfl (z := .agg #[.bool false, .string ⟨#[]⟩, .string ⟨#[]⟩]) (by kernel_rfl) rfl ?_
  intro bk3 _ _ hbk3_r
  simp only [Act.put, nA, nB, nC]
  refine Seq.store rfl rfl rfl rfl rfl (by repeat (first | exact rS | refine rN (by assumption) ?_)) (n := 3) rfl rfl (by kernel_rfl) (RC_one _) ?_
  simp only [Act.put, nA, nB, nC]
  refine Seq.done fun ws4 hws => ?_
  have HS4 : St w [(bk3, 24, RC (t * t)), (bk1, 142, TC false t), (bk2, 24, #[.bool false, .string ⟨#[]⟩, .string ⟨#[]⟩])] ws4 := hws.list1 (by repeat (first | exact rS | refine rN (by assumption) ?_))
  clear HS3 hws
  go_upto_region 5 with (fail)
  refine wp_seq [] (by kernel_rfl) (by kernel_rfl) Reg.fin_no (StR.no HS4) ?_
  refine Seq.call rfl rfl rfl rfl (by kernel_rfl) (of_q HT.out (by omega) (by omega) (show ((1 : Int) : Rat) = (1 : Rat) from rfl)) ?_
  simp only [Act.put, nA, nB, nC]
  refine Seq.load rfl rfl rfl rfl (by repeat (first | exact mC | apply mT)) (n := 3) rfl (by kernel_rfl) ?_
  simp only [Act.put, nA, nB, nC]
  refine Seq.call rfl rfl rfl rfl (by kernel_rfl) (sub_q (k := (2 * k + 2)) HT.out ((show Rz 2 (1 : Rat) from Rz.lit (z := 1) rfl (by decide)).more (by omega)) ((Z_t.out.mul Z_t.out).more (by omega)) rfl (by omega)) ?_
  simp only [Act.put, nA, nB, nC]
  refine Seq.call rfl rfl rfl rfl (by kernel_rfl) (of_q HT.out (by omega) (by omega) (show ((1 : Int) : Rat) = (1 : Rat) from rfl)) ?_
  simp only [Act.put, nA, nB, nC]
  refine Seq.load rfl rfl rfl rfl (by repeat (first | exact mC | apply mT)) (n := 3) rfl (by kernel_rfl) ?_
  simp only [Act.put, nA, nB, nC]
  refine Seq.call rfl rfl rfl rfl (by kernel_rfl) (add_q (k := (2 * k + 2)) HT.out ((show Rz 2 (1 : Rat) from Rz.lit (z := 1) rfl (by decide)).more (by omega)) ((Z_t.out.mul Z_t.out).more (by omega)) rfl (by omega)) ?_
  simp only [Act.put, nA, nB, nC]
  refine Seq.call rfl rfl rfl rfl (by kernel_rfl) (div_q (k := (4 * k + 5)) HT.out (((show Rz 2 (1 : Rat) from Rz.lit (z := 1) rfl (by decide)).sub (Z_t.out.mul Z_t.out)).more (by omega)) (((show Rz 2 (1 : Rat) from Rz.lit (z := 1) rfl (by decide)).add (Z_t.out.mul Z_t.out)).more (by omega)) (one_sq t) rfl (by omega)) ?_
  simp only [Act.put, nA, nB, nC]
  refine Seq.pure rfl rfl (by intro w; go_simp; try rfl) ?_
  simp only [Act.put, nA, nB, nC]
  refine Seq.pure (v := .agg (RC (((1 : Rat) - (t * t)) / ((1 : Rat) + (t * t))))) rfl rfl (fun w => rfl) ?_
  simp only [Act.put, nA, nB, nC]
  refine Seq.pure (v := .int .i64 0) rfl rfl (fun w => rfl) ?_
  simp only [Act.put, nA, nB, nC]
  refine Seq.alloc rfl rfl rfl (z := .agg #[.bool false, .string ⟨#[]⟩, .string ⟨#[]⟩]) (by kernel_rfl) rfl ?_
  intro bk4 _ _ hbk4_r
  simp only [Act.put, nA, nB, nC]
  refine Seq.store rfl rfl rfl rfl rfl (by repeat (first | exact rS | refine rN (by assumption) ?_)) (n := 3) rfl rfl (by kernel_rfl) (RC_one _) ?_
  simp only [Act.put, nA, nB, nC]
  refine Seq.pure rfl rfl (by intro w; go_simp; try rfl) ?_
  simp only [Act.put, nA, nB, nC]
  refine Seq.done fun ws5 hws => ?_
  have HS5 : St w [(bk4, 24, RC (((1 : Rat) - (t * t)) / ((1 : Rat) + (t * t)))), (bk3, 24, RC (t * t)), (bk1, 142, TC false t), (bk2, 24, #[.bool false, .string ⟨#[]⟩, .string ⟨#[]⟩])] ws5 := hws.list1 (by repeat (first | exact rS | refine rN (by assumption) ?_))
  clear HS4 hws
  go_upto_region 6 with (fail)
  have HPbk2 : St w [(bk2, 24, #[.bool false, .string ⟨#[]⟩, .string ⟨#[]⟩]), (bk4, 24, RC (((1 : Rat) - (t * t)) / ((1 : Rat) + (t * t)))), (bk3, 24, RC (t * t)), (bk1, 142, TC false t)] _ := St.perm HS5 (List.perm_middle (l₁ := ([(bk4, 24, RC (((1 : Rat) - (t * t)) / ((1 : Rat) + (t * t)))), (bk3, 24, RC (t * t)), (bk1, 142, TC false t)] : List Own)))
  refine wp_seq_text [] (StR.move (StR.no HPbk2)) ?_
  refine Seq.load rfl rfl rfl rfl (by repeat (first | exact mC | apply mT)) (n := 3) rfl (by kernel_rfl) ?_
  simp only [Act.put, nA, nB, nC]
  refine Seq.store rfl rfl rfl rfl rfl (by repeat (first | exact rS | refine rN (by assumption) ?_)) (n := 3) rfl rfl (by kernel_rfl) (RC_one _) ?_
  simp only [Act.put, nA, nB, nC]
  refine Seq.done fun ws6 hws => ?_
  have HS6 : St w [(bk2, 24, RC (((1 : Rat) - (t * t)) / ((1 : Rat) + (t * t)))), (bk4, 24, RC (((1 : Rat) - (t * t)) / ((1 : Rat) + (t * t)))), (bk3, 24, RC (t * t)), (bk1, 142, TC false t)] ws6 := hws.list1 (by repeat (first | exact rS | refine rN (by assumption) ?_))
  clear HS5 hws HPbk2
  go_wp2_with fail
  exact ret_own rfl rfl rfl HS6 (by repeat (first | exact mC | apply mT)) (n := 3) rfl (by kernel_rfl) ⟨rfl, HS6.below⟩
set_option maxHeartbeats 2000000 in
set_option maxRecDepth 20000 in
theorem cos_t {k : Nat} {t : Rat} {z0 : Rat} {W : World} {l : List Own} (hT : Tab W) (Zt : Rz k t) (hg : GoodT true t) (hz0 : (-1 : Rat) = z0) (hk : k ≤ 1000000000000) (w : World) (h : St W l w) :
    Calls Tryz.prog 117 #[.agg (TC true t)] w fun e w' => e = .returned (.agg (RC z0)) ∧ Below w.heap.size w w' := by
  subst hz0
  have HT := Lib.hid (tabS hT h); clear hT h
  have Z_t := Lib.hid Zt; clear Zt
  go_enter Tryz.func117, Tryz.ntmps117
  have HS : St w [] w := St.start
  go_upto_region 0 with (fail)
  refine wp_seq_text [] (StR.no HS) ?_
  refine Seq.box rfl rfl rfl (v := .agg (TC true t)) (cs := TC true t) rfl rfl ?_
  intro bk1 _ _ hbk1_r
  simp only [Act.put, nA, nB, nC]
  refine Seq.alloc rfl rfl rfl (z := .agg #[.bool false, .string ⟨#[]⟩, .string ⟨#[]⟩]) (by kernel_rfl) rfl ?_
  intro bk2 _ _ hbk2_r
  obtain ⟨ne_bk2_bk1, hbk2_r⟩ := Reg.ne_of_put hbk2_r
  have ne_bk1_bk2 := Ne.symm ne_bk2_bk1
  simp only [Act.put, nA, nB, nC]
  refine Seq.done fun ws1 hws => ?_
  have HS1 : St w [(bk1, 142, TC true t), (bk2, 24, #[.bool false, .string ⟨#[]⟩, .string ⟨#[]⟩])] ws1 := hws.list2 (by repeat (first | exact rS | refine rN (by assumption) ?_)) (by repeat (first | exact rS | refine rN (by assumption) ?_)) (by assumption)
  clear HS hws
  go_upto_region 1 with (fail)
  refine wp_seq_text [0] (StR.move (StR.no HS1)) ?_
  refine Seq.get rfl rfl rfl rfl (by repeat (first | exact rS | refine rN (by assumption) ?_)) (n := 4) rfl (by kernel_rfl) ?_
  simp only [Act.put, nA, nB, nC]
  refine Seq.call rfl rfl rfl rfl (by kernel_rfl) (tfit_q (k := (1 * k + 0)) HT.out (Z_t.out.more (by omega)) hg rfl rfl (by omega)) ?_
  simp only [Act.put, nA, nB, nC]
  refine Seq.store rfl rfl rfl rfl rfl (by repeat (first | exact rS | refine rN (by assumption) ?_)) (n := 4) rfl rfl (by kernel_rfl) (TC_one _ _) ?_
  simp only [Act.put, nA, nB, nC]
  refine Seq.done fun ws2 hws => ?_
  have HS2 : St w [(bk1, 142, TC true t), (bk2, 24, #[.bool false, .string ⟨#[]⟩, .string ⟨#[]⟩])] ws2 := hws.list1 (by repeat (first | exact rS | refine rN (by assumption) ?_))
  clear HS1 hws
  go_upto_region 2 with (fail)
  refine wp_seq_text [] (StR.no HS2) ?_
  refine Seq.pure rfl rfl (by intro w; go_simp; try rfl) ?_
  simp only [Act.put, nA, nB, nC]
  refine Seq.loadCell rfl rfl rfl rfl (by repeat (first | exact mC | apply mT)) (v := .bool true) rfl (by kernel_rfl) rfl ?_
  simp only [Act.put, nA, nB, nC]
  refine Seq.done fun ws3 hws => ?_
  have HS3 := hws.st
  clear HS2 hws
  go_upto_region 3 with (fail)
  have HPbk2 : St w [(bk2, 24, #[.bool false, .string ⟨#[]⟩, .string ⟨#[]⟩]), (bk1, 142, TC true t)] _ := St.perm HS3 (List.perm_middle (l₁ := ([(bk1, 142, TC true t)] : List Own)))
  refine wp_seq_text [] (StR.move (StR.no HPbk2)) ?_
  refine Seq.call rfl rfl rfl rfl (by kernel_rfl) (of_q HT.out (by omega) (by omega) (show ((-1 : Int) : Rat) = (-1 : Rat) from rfl)) ?_
  simp only [Act.put, nA, nB, nC]
  refine Seq.store rfl rfl rfl rfl rfl (by repeat (first | exact rS | refine rN (by assumption) ?_)) (n := 3) rfl rfl (by kernel_rfl) (RC_one _) ?_
  simp only [Act.put, nA, nB, nC]
  refine Seq.done fun ws4 hws => ?_
  have HS4 : St w [(bk2, 24, RC (-1 : Rat)), (bk1, 142, TC true t)] ws4 := hws.list1 (by repeat (first | exact rS | refine rN (by assumption) ?_))
  clear HS3 hws HPbk2
  go_wp2_with fail
  exact ret_own rfl rfl rfl HS4 (by repeat (first | exact mC | apply mT)) (n := 3) rfl (by kernel_rfl) ⟨rfl, HS4.below⟩
theorem cos_q {k : Nat} {t : Rat} {h0 : Bool} {z0 : Rat} {W : World} {l : List Own} (hT : Tab W) (Zt : Rz k t) (hg : GoodT h0 t) (hz0 : cosT h0 t = z0) (hk : k ≤ 100000000000) (w : World) (h : St W l w) :
    Calls Tryz.prog 117 #[.agg (TC h0 t)] w fun e w' => e = .returned (.agg (RC z0)) ∧ Below w.heap.size w w' := by
  subst hz0
  cases h0
  · exact cos_f (k := k) hT Zt rfl (by omega) w h
  · exact cos_t (k := k) hT Zt hg rfl (by omega) w h
set_option maxHeartbeats 2000000 in
set_option maxRecDepth 20000 in
theorem sin_q {k : Nat} {t : Rat} {h_ : Bool} {z0 : Rat} {W : World} {l : List Own} (hT : Tab W) (Zt : Rz k t) (hg : GoodT h_ t) (hz0 : sinT t = z0) (hk : k ≤ 1000000000000) (w : World) (h : St W l w) :
    Calls Tryz.prog 118 #[.agg (TC h_ t)] w fun e w' => e = .returned (.agg (RC z0)) ∧ Below w.heap.size w w' := by
  subst hz0
  have HT := Lib.hid (tabS hT h); clear hT h
  have Z_t := Lib.hid Zt; clear Zt
  go_enter Tryz.func118, Tryz.ntmps118
  have HS : St w [] w := St.start
  go_upto_region 0 with (fail)
  refine wp_seq_text [] (StR.no HS) ?_
  refine Seq.box rfl rfl rfl (v := .agg (TC h_ t)) (cs := TC h_ t) rfl rfl ?_
  intro bk1 _ _ hbk1_r
  simp only [Act.put, nA, nB, nC]
  refine Seq.alloc rfl rfl rfl (z := .agg #[.bool false, .string ⟨#[]⟩, .string ⟨#[]⟩]) (by kernel_rfl) rfl ?_
  intro bk2 _ _ hbk2_r
  obtain ⟨ne_bk2_bk1, hbk2_r⟩ := Reg.ne_of_put hbk2_r
  have ne_bk1_bk2 := Ne.symm ne_bk2_bk1
  simp only [Act.put, nA, nB, nC]
  refine Seq.done fun ws1 hws => ?_
  have HS1 : St w [(bk1, 142, TC h_ t), (bk2, 24, #[.bool false, .string ⟨#[]⟩, .string ⟨#[]⟩])] ws1 := hws.list2 (by repeat (first | exact rS | refine rN (by assumption) ?_)) (by repeat (first | exact rS | refine rN (by assumption) ?_)) (by assumption)
  clear HS hws
  go_upto_region 1 with (fail)
  refine wp_seq_text [0] (StR.move (StR.no HS1)) ?_
  refine Seq.get rfl rfl rfl rfl (by repeat (first | exact rS | refine rN (by assumption) ?_)) (n := 4) rfl (by kernel_rfl) ?_
  simp only [Act.put, nA, nB, nC]
  refine Seq.call rfl rfl rfl rfl (by kernel_rfl) (tfit_q (k := (1 * k + 0)) HT.out (Z_t.out.more (by omega)) hg rfl rfl (by omega)) ?_
  simp only [Act.put, nA, nB, nC]
  refine Seq.store rfl rfl rfl rfl rfl (by repeat (first | exact rS | refine rN (by assumption) ?_)) (n := 4) rfl rfl (by kernel_rfl) (TC_one _ _) ?_
  simp only [Act.put, nA, nB, nC]
  refine Seq.done fun ws2 hws => ?_
  have HS2 : St w [(bk1, 142, TC h_ t), (bk2, 24, #[.bool false, .string ⟨#[]⟩, .string ⟨#[]⟩])] ws2 := hws.list1 (by repeat (first | exact rS | refine rN (by assumption) ?_))
  clear HS1 hws
  go_upto_region 2 with (fail)
  refine wp_seq [] (by kernel_rfl) (by kernel_rfl) Reg.fin_no (StR.no HS2) ?_
  refine Seq.pure rfl rfl (by intro w; go_simp; try rfl) ?_
  simp only [Act.put, nA, nB, nC]
  refine Seq.loadAt rfl rfl rfl rfl (by repeat (first | exact mC | apply mT)) (n := 3) (cs' := RC t) (Nat.le_of_ble_eq_true rfl) (by kernel_rfl) rfl ?_
  simp only [Act.put, nA, nB, nC]
  refine Seq.pure rfl rfl (by intro w; go_simp; try rfl) ?_
  simp only [Act.put, nA, nB, nC]
  refine Seq.loadAt rfl rfl rfl rfl (by repeat (first | exact mC | apply mT)) (n := 3) (cs' := RC t) (Nat.le_of_ble_eq_true rfl) (by kernel_rfl) rfl ?_
  simp only [Act.put, nA, nB, nC]
  refine Seq.call rfl rfl rfl rfl (by kernel_rfl) (add_q (k := (1 * k + 0)) HT.out (Z_t.out.more (by omega)) (Z_t.out.more (by omega)) rfl (by omega)) ?_
  simp only [Act.put, nA, nB, nC]
  refine Seq.call rfl rfl rfl rfl (by kernel_rfl) (of_q HT.out (by omega) (by omega) (show ((1 : Int) : Rat) = (1 : Rat) from rfl)) ?_
  simp only [Act.put, nA, nB, nC]
  refine Seq.pure rfl rfl (by intro w; go_simp; try rfl) ?_
  simp only [Act.put, nA, nB, nC]
  refine Seq.loadAt rfl rfl rfl rfl (by repeat (first | exact mC | apply mT)) (n := 3) (cs' := RC t) (Nat.le_of_ble_eq_true rfl) (by kernel_rfl) rfl ?_
  simp only [Act.put, nA, nB, nC]
  refine Seq.pure rfl rfl (by intro w; go_simp; try rfl) ?_
  simp only [Act.put, nA, nB, nC]
  refine Seq.loadAt rfl rfl rfl rfl (by repeat (first | exact mC | apply mT)) (n := 3) (cs' := RC t) (Nat.le_of_ble_eq_true rfl) (by kernel_rfl) rfl ?_
  simp only [Act.put, nA, nB, nC]
  refine Seq.call rfl rfl rfl rfl (by kernel_rfl) (mul_q (k := (1 * k + 0)) HT.out (Z_t.out.more (by omega)) (Z_t.out.more (by omega)) rfl (by omega)) ?_
  simp only [Act.put, nA, nB, nC]
  refine Seq.call rfl rfl rfl rfl (by kernel_rfl) (add_q (k := (2 * k + 2)) HT.out ((show Rz 2 (1 : Rat) from Rz.lit (z := 1) rfl (by decide)).more (by omega)) ((Z_t.out.mul Z_t.out).more (by omega)) rfl (by omega)) ?_
  simp only [Act.put, nA, nB, nC]
  refine Seq.call rfl rfl rfl rfl (by kernel_rfl) (div_q (k := (4 * k + 5)) HT.out ((Z_t.out.add Z_t.out).more (by omega)) (((show Rz 2 (1 : Rat) from Rz.lit (z := 1) rfl (by decide)).add (Z_t.out.mul Z_t.out)).more (by omega)) (one_sq t) rfl (by omega)) ?_
  simp only [Act.put, nA, nB, nC]
  refine Seq.pure rfl rfl (by intro w; go_simp; try rfl) ?_
  simp only [Act.put, nA, nB, nC]
  refine Seq.pure (v := .agg (RC (sinT t))) rfl rfl (fun w => rfl) ?_
  simp only [Act.put, nA, nB, nC]
  refine Seq.pure (v := .int .i64 0) rfl rfl (fun w => rfl) ?_
  simp only [Act.put, nA, nB, nC]
  refine Seq.alloc rfl rfl rfl (z := .agg #[.bool false, .string ⟨#[]⟩, .string ⟨#[]⟩]) (by kernel_rfl) rfl ?_
  intro bk3 _ _ hbk3_r
  simp only [Act.put, nA, nB, nC]
  refine Seq.store rfl rfl rfl rfl rfl (by repeat (first | exact rS | refine rN (by assumption) ?_)) (n := 3) rfl rfl (by kernel_rfl) (RC_one _) ?_
  simp only [Act.put, nA, nB, nC]
  refine Seq.pure rfl rfl (by intro w; go_simp; try rfl) ?_
  simp only [Act.put, nA, nB, nC]
  refine Seq.done fun ws3 hws => ?_
  have HS3 : St w [(bk3, 24, RC (sinT t)), (bk1, 142, TC h_ t), (bk2, 24, #[.bool false, .string ⟨#[]⟩, .string ⟨#[]⟩])] ws3 := hws.list1 (by repeat (first | exact rS | refine rN (by assumption) ?_))
  clear HS2 hws
  go_upto_region 3 with (fail)
  have HPbk2 : St w [(bk2, 24, #[.bool false, .string ⟨#[]⟩, .string ⟨#[]⟩]), (bk3, 24, RC (sinT t)), (bk1, 142, TC h_ t)] _ := St.perm HS3 (List.perm_middle (l₁ := ([(bk3, 24, RC (sinT t)), (bk1, 142, TC h_ t)] : List Own)))
  refine wp_seq_text [] (StR.move (StR.no HPbk2)) ?_
  refine Seq.load rfl rfl rfl rfl (by repeat (first | exact mC | apply mT)) (n := 3) rfl (by kernel_rfl) ?_
  simp only [Act.put, nA, nB, nC]
  refine Seq.store rfl rfl rfl rfl rfl (by repeat (first | exact rS | refine rN (by assumption) ?_)) (n := 3) rfl rfl (by kernel_rfl) (RC_one _) ?_
  simp only [Act.put, nA, nB, nC]
  refine Seq.done fun ws4 hws => ?_
  have HS4 : St w [(bk2, 24, RC (sinT t)), (bk3, 24, RC (sinT t)), (bk1, 142, TC h_ t)] ws4 := hws.list1 (by repeat (first | exact rS | refine rN (by assumption) ?_))
  clear HS3 hws HPbk2
  go_wp2_with fail
  exact ret_own rfl rfl rfl HS4 (by repeat (first | exact mC | apply mT)) (n := 3) rfl (by kernel_rfl) ⟨rfl, HS4.below⟩
set_option maxHeartbeats 2000000 in
set_option maxRecDepth 20000 in
theorem dot_q {k : Nat} {a1 a2 b1 b2 : Rat} {z0 : Rat} {W : World} {l : List Own} (hT : Tab W) (Za1 : Rz k a1) (Za2 : Rz k a2) (Zb1 : Rz k b1) (Zb2 : Rz k b2)  (hz0 : (a1 * b1) + (a2 * b2) = z0) (hk : k ≤ 1000000000000) (w : World) (h : St W l w) :
    Calls Tryz.prog 90 #[.agg (VC a1 a2), .agg (VC b1 b2)] w fun e w' => e = .returned (.agg (RC z0)) ∧ Below w.heap.size w w' := by
  subst hz0
  have HT := Lib.hid (tabS hT h); clear hT h
  have Z_a1 := Lib.hid Za1; clear Za1
  have Z_a2 := Lib.hid Za2; clear Za2
  have Z_b1 := Lib.hid Zb1; clear Zb1
  have Z_b2 := Lib.hid Zb2; clear Zb2
  go_enter Tryz.func90, Tryz.ntmps90
  have HS : St w [] w := St.start
  go_upto_region 0 with (fail)
  refine wp_seq_text [] (StR.no HS) ?_
  refine Seq.box rfl rfl rfl (v := .agg (VC a1 a2)) (cs := VC a1 a2) rfl rfl ?_
  intro bk2 _ _ hbk2_r
  simp only [Act.put, nA, nB, nC]
  refine Seq.box rfl rfl rfl (v := .agg (VC b1 b2)) (cs := VC b1 b2) rfl rfl ?_
  intro bk3 _ _ hbk3_r
  obtain ⟨ne_bk3_bk2, hbk3_r⟩ := Reg.ne_of_put hbk3_r
  have ne_bk2_bk3 := Ne.symm ne_bk3_bk2
  simp only [Act.put, nA, nB, nC]
  refine Seq.alloc rfl rfl rfl (z := .agg #[.bool false, .string ⟨#[]⟩, .string ⟨#[]⟩]) (by kernel_rfl) rfl ?_
  intro bk4 _ _ hbk4_r
  obtain ⟨ne_bk4_bk3, hbk4_r⟩ := Reg.ne_of_put hbk4_r
  have ne_bk3_bk4 := Ne.symm ne_bk4_bk3
  obtain ⟨ne_bk4_bk2, hbk4_r⟩ := Reg.ne_of_put hbk4_r
  have ne_bk2_bk4 := Ne.symm ne_bk4_bk2
  simp only [Act.put, nA, nB, nC]
  refine Seq.done fun ws1 hws => ?_
  have HS1 : St w [(bk2, 26, VC a1 a2), (bk3, 26, VC b1 b2), (bk4, 24, #[.bool false, .string ⟨#[]⟩, .string ⟨#[]⟩])] ws1 := hws.list3 (by repeat (first | exact rS | refine rN (by assumption) ?_)) (by repeat (first | exact rS | refine rN (by assumption) ?_)) (by repeat (first | exact rS | refine rN (by assumption) ?_)) (by assumption) (by assumption) (by assumption)
  clear HS hws
  go_upto_region 1 with (fail)
  have HPbk4 : St w [(bk4, 24, #[.bool false, .string ⟨#[]⟩, .string ⟨#[]⟩]), (bk2, 26, VC a1 a2), (bk3, 26, VC b1 b2)] _ := St.perm HS1 (List.perm_middle (l₁ := ([(bk2, 26, VC a1 a2), (bk3, 26, VC b1 b2)] : List Own)))
  refine wp_seq [] (by kernel_rfl) (by kernel_rfl) (Reg.fin.put Reg.fin_no _ _) (StR.move (StR.no HPbk4)) ?_
  refine Seq.pure rfl rfl (by intro w; go_simp; try rfl) ?_
  simp only [Act.put, nA, nB, nC]
  refine Seq.loadAt rfl rfl rfl rfl (by repeat (first | exact mC | apply mT)) (n := 3) (cs' := RC a1) (Nat.le_of_ble_eq_true rfl) (by kernel_rfl) rfl ?_
  simp only [Act.put, nA, nB, nC]
  refine Seq.pure rfl rfl (by intro w; go_simp; try rfl) ?_
  simp only [Act.put, nA, nB, nC]
  refine Seq.loadAt rfl rfl rfl rfl (by repeat (first | exact mC | apply mT)) (n := 3) (cs' := RC b1) (Nat.le_of_ble_eq_true rfl) (by kernel_rfl) rfl ?_
  simp only [Act.put, nA, nB, nC]
  refine Seq.call rfl rfl rfl rfl (by kernel_rfl) (mul_q (k := (1 * k + 0)) HT.out (Z_a1.out.more (by omega)) (Z_b1.out.more (by omega)) rfl (by omega)) ?_
  simp only [Act.put, nA, nB, nC]
  refine Seq.pure rfl rfl (by intro w; go_simp; try rfl) ?_
  simp only [Act.put, nA, nB, nC]
  refine Seq.loadAt rfl rfl rfl rfl (by repeat (first | exact mC | apply mT)) (n := 3) (cs' := RC a2) (Nat.le_of_ble_eq_true rfl) (by kernel_rfl) rfl ?_
  simp only [Act.put, nA, nB, nC]
  refine Seq.pure rfl rfl (by intro w; go_simp; try rfl) ?_
  simp only [Act.put, nA, nB, nC]
  refine Seq.loadAt rfl rfl rfl rfl (by repeat (first | exact mC | apply mT)) (n := 3) (cs' := RC b2) (Nat.le_of_ble_eq_true rfl) (by kernel_rfl) rfl ?_
  simp only [Act.put, nA, nB, nC]
  refine Seq.call rfl rfl rfl rfl (by kernel_rfl) (mul_q (k := (1 * k + 0)) HT.out (Z_a2.out.more (by omega)) (Z_b2.out.more (by omega)) rfl (by omega)) ?_
  simp only [Act.put, nA, nB, nC]
  refine Seq.call rfl rfl rfl rfl (by kernel_rfl) (add_q (k := (2 * k + 0)) HT.out ((Z_a1.out.mul Z_b1.out).more (by omega)) ((Z_a2.out.mul Z_b2.out).more (by omega)) rfl (by omega)) ?_
  simp only [Act.put, nA, nB, nC]
  refine Seq.store rfl rfl rfl rfl rfl (by repeat (first | exact rS | refine rN (by assumption) ?_)) (n := 3) rfl rfl (by kernel_rfl) (RC_one _) ?_
  simp only [Act.put, nA, nB, nC]
  refine Seq.done fun ws2 hws => ?_
  have HS2 : St w [(bk4, 24, RC ((a1 * b1) + (a2 * b2))), (bk2, 26, VC a1 a2), (bk3, 26, VC b1 b2)] ws2 := hws.list1 (by repeat (first | exact rS | refine rN (by assumption) ?_))
  clear HS1 hws HPbk4
  go_wp2_with fail
  exact ret_own rfl rfl rfl HS2 (by repeat (first | exact mC | apply mT)) (n := 3) rfl (by kernel_rfl) ⟨rfl, HS2.below⟩
set_option maxHeartbeats 2000000 in
set_option maxRecDepth 20000 in
theorem vsub_q {k : Nat} {a1 a2 b1 b2 : Rat} {z0 : Rat} {z1 : Rat} {W : World} {l : List Own} (hT : Tab W) (Za1 : Rz k a1) (Za2 : Rz k a2) (Zb1 : Rz k b1) (Zb2 : Rz k b2)  (hz0 : a1 - b1 = z0) (hz1 : a2 - b2 = z1) (hk : k ≤ 1000000000000) (w : World) (h : St W l w) :
    Calls Tryz.prog 62 #[.agg (VC a1 a2), .agg (VC b1 b2)] w fun e w' => e = .returned (.agg (VC z0 z1)) ∧ Below w.heap.size w w' := by
  subst hz0
  subst hz1
  have HT := Lib.hid (tabS hT h); clear hT h
  have Z_a1 := Lib.hid Za1; clear Za1
  have Z_a2 := Lib.hid Za2; clear Za2
  have Z_b1 := Lib.hid Zb1; clear Zb1
  have Z_b2 := Lib.hid Zb2; clear Zb2
  go_enter Tryz.func62, Tryz.ntmps62
  have HS : St w [] w := St.start
  go_upto_region 0 with (fail)
  refine wp_seq_text [] (StR.no HS) ?_
  refine Seq.box rfl rfl rfl (v := .agg (VC a1 a2)) (cs := VC a1 a2) rfl rfl ?_
  intro bk2 _ _ hbk2_r
  simp only [Act.put, nA, nB, nC]
  refine Seq.box rfl rfl rfl (v := .agg (VC b1 b2)) (cs := VC b1 b2) rfl rfl ?_
  intro bk3 _ _ hbk3_r
  obtain ⟨ne_bk3_bk2, hbk3_r⟩ := Reg.ne_of_put hbk3_r
  have ne_bk2_bk3 := Ne.symm ne_bk3_bk2
  simp only [Act.put, nA, nB, nC]
  refine Seq.alloc rfl rfl rfl (z := .agg #[.bool false, .string ⟨#[]⟩, .string ⟨#[]⟩, .bool false, .string ⟨#[]⟩, .string ⟨#[]⟩]) (by kernel_rfl) rfl ?_
  intro bk4 _ _ hbk4_r
  obtain ⟨ne_bk4_bk3, hbk4_r⟩ := Reg.ne_of_put hbk4_r
  have ne_bk3_bk4 := Ne.symm ne_bk4_bk3
  obtain ⟨ne_bk4_bk2, hbk4_r⟩ := Reg.ne_of_put hbk4_r
  have ne_bk2_bk4 := Ne.symm ne_bk4_bk2
  simp only [Act.put, nA, nB, nC]
  refine Seq.done fun ws1 hws => ?_
  have HS1 : St w [(bk2, 26, VC a1 a2), (bk3, 26, VC b1 b2), (bk4, 26, #[.bool false, .string ⟨#[]⟩, .string ⟨#[]⟩, .bool false, .string ⟨#[]⟩, .string ⟨#[]⟩])] ws1 := hws.list3 (by repeat (first | exact rS | refine rN (by assumption) ?_)) (by repeat (first | exact rS | refine rN (by assumption) ?_)) (by repeat (first | exact rS | refine rN (by assumption) ?_)) (by assumption) (by assumption) (by assumption)
  clear HS hws
  go_upto_region 1 with (fail)
  have HPbk4 : St w [(bk4, 26, #[.bool false, .string ⟨#[]⟩, .string ⟨#[]⟩, .bool false, .string ⟨#[]⟩, .string ⟨#[]⟩]), (bk2, 26, VC a1 a2), (bk3, 26, VC b1 b2)] _ := St.perm HS1 (List.perm_middle (l₁ := ([(bk2, 26, VC a1 a2), (bk3, 26, VC b1 b2)] : List Own)))
  refine wp_seq [] (by kernel_rfl) (by kernel_rfl) (Reg.fin.put Reg.fin_no _ _) (StR.move (StR.no HPbk4)) ?_
  refine Seq.pure rfl rfl (by intro w; go_simp; try rfl) ?_
  simp only [Act.put, nA, nB, nC]
  refine Seq.loadAt rfl rfl rfl rfl (by repeat (first | exact mC | apply mT)) (n := 3) (cs' := RC a1) (Nat.le_of_ble_eq_true rfl) (by kernel_rfl) rfl ?_
  simp only [Act.put, nA, nB, nC]
  refine Seq.pure rfl rfl (by intro w; go_simp; try rfl) ?_
  simp only [Act.put, nA, nB, nC]
  refine Seq.loadAt rfl rfl rfl rfl (by repeat (first | exact mC | apply mT)) (n := 3) (cs' := RC b1) (Nat.le_of_ble_eq_true rfl) (by kernel_rfl) rfl ?_
  simp only [Act.put, nA, nB, nC]
  refine Seq.call rfl rfl rfl rfl (by kernel_rfl) (sub_q (k := (1 * k + 0)) HT.out (Z_a1.out.more (by omega)) (Z_b1.out.more (by omega)) rfl (by omega)) ?_
  simp only [Act.put, nA, nB, nC]
  refine Seq.pure rfl rfl (by intro w; go_simp; try rfl) ?_
  simp only [Act.put, nA, nB, nC]
  refine Seq.loadAt rfl rfl rfl rfl (by repeat (first | exact mC | apply mT)) (n := 3) (cs' := RC a2) (Nat.le_of_ble_eq_true rfl) (by kernel_rfl) rfl ?_
  simp only [Act.put, nA, nB, nC]
  refine Seq.pure rfl rfl (by intro w; go_simp; try rfl) ?_
  simp only [Act.put, nA, nB, nC]
  refine Seq.loadAt rfl rfl rfl rfl (by repeat (first | exact mC | apply mT)) (n := 3) (cs' := RC b2) (Nat.le_of_ble_eq_true rfl) (by kernel_rfl) rfl ?_
  simp only [Act.put, nA, nB, nC]
  refine Seq.call rfl rfl rfl rfl (by kernel_rfl) (sub_q (k := (1 * k + 0)) HT.out (Z_a2.out.more (by omega)) (Z_b2.out.more (by omega)) rfl (by omega)) ?_
  simp only [Act.put, nA, nB, nC]
  refine Seq.pure (v := .agg (VC (a1 - b1) (a2 - b2))) rfl rfl (fun w => bld_Vec rfl rfl rfl w) ?_
  simp only [Act.put, nA, nB, nC]
  refine Seq.store rfl rfl rfl rfl rfl (by repeat (first | exact rS | refine rN (by assumption) ?_)) (n := 6) rfl rfl (by kernel_rfl) (VC_one _ _) ?_
  simp only [Act.put, nA, nB, nC]
  refine Seq.done fun ws2 hws => ?_
  have HS2 : St w [(bk4, 26, VC (a1 - b1) (a2 - b2)), (bk2, 26, VC a1 a2), (bk3, 26, VC b1 b2)] ws2 := hws.list1 (by repeat (first | exact rS | refine rN (by assumption) ?_))
  clear HS1 hws HPbk4
  go_wp2_with fail
  exact ret_own rfl rfl rfl HS2 (by repeat (first | exact mC | apply mT)) (n := 6) rfl (by kernel_rfl) ⟨rfl, HS2.below⟩
set_option maxHeartbeats 2000000 in
set_option maxRecDepth 20000 in
theorem cross_q {k : Nat} {a1 a2 b1 b2 : Rat} {z0 : Rat} {W : World} {l : List Own} (hT : Tab W) (Za1 : Rz k a1) (Za2 : Rz k a2) (Zb1 : Rz k b1) (Zb2 : Rz k b2)  (hz0 : (a1 * b2) - (a2 * b1) = z0) (hk : k ≤ 1000000000000) (w : World) (h : St W l w) :
    Calls Tryz.prog 91 #[.agg (VC a1 a2), .agg (VC b1 b2)] w fun e w' => e = .returned (.agg (RC z0)) ∧ Below w.heap.size w w' := by
  subst hz0
  have HT := Lib.hid (tabS hT h); clear hT h
  have Z_a1 := Lib.hid Za1; clear Za1
  have Z_a2 := Lib.hid Za2; clear Za2
  have Z_b1 := Lib.hid Zb1; clear Zb1
  have Z_b2 := Lib.hid Zb2; clear Zb2
  go_enter Tryz.func91, Tryz.ntmps91
  have HS : St w [] w := St.start
  go_upto_region 0 with (fail)
  refine wp_seq_text [] (StR.no HS) ?_
  refine Seq.box rfl rfl rfl (v := .agg (VC a1 a2)) (cs := VC a1 a2) rfl rfl ?_
  intro bk2 _ _ hbk2_r
  simp only [Act.put, nA, nB, nC]
  refine Seq.box rfl rfl rfl (v := .agg (VC b1 b2)) (cs := VC b1 b2) rfl rfl ?_
  intro bk3 _ _ hbk3_r
  obtain ⟨ne_bk3_bk2, hbk3_r⟩ := Reg.ne_of_put hbk3_r
  have ne_bk2_bk3 := Ne.symm ne_bk3_bk2
  simp only [Act.put, nA, nB, nC]
  refine Seq.alloc rfl rfl rfl (z := .agg #[.bool false, .string ⟨#[]⟩, .string ⟨#[]⟩]) (by kernel_rfl) rfl ?_
  intro bk4 _ _ hbk4_r
  obtain ⟨ne_bk4_bk3, hbk4_r⟩ := Reg.ne_of_put hbk4_r
  have ne_bk3_bk4 := Ne.symm ne_bk4_bk3
  obtain ⟨ne_bk4_bk2, hbk4_r⟩ := Reg.ne_of_put hbk4_r
  have ne_bk2_bk4 := Ne.symm ne_bk4_bk2
  simp only [Act.put, nA, nB, nC]
  refine Seq.done fun ws1 hws => ?_
  have HS1 : St w [(bk2, 26, VC a1 a2), (bk3, 26, VC b1 b2), (bk4, 24, #[.bool false, .string ⟨#[]⟩, .string ⟨#[]⟩])] ws1 := hws.list3 (by repeat (first | exact rS | refine rN (by assumption) ?_)) (by repeat (first | exact rS | refine rN (by assumption) ?_)) (by repeat (first | exact rS | refine rN (by assumption) ?_)) (by assumption) (by assumption) (by assumption)
  clear HS hws
  go_upto_region 1 with (fail)
  have HPbk4 : St w [(bk4, 24, #[.bool false, .string ⟨#[]⟩, .string ⟨#[]⟩]), (bk2, 26, VC a1 a2), (bk3, 26, VC b1 b2)] _ := St.perm HS1 (List.perm_middle (l₁ := ([(bk2, 26, VC a1 a2), (bk3, 26, VC b1 b2)] : List Own)))
  refine wp_seq [] (by kernel_rfl) (by kernel_rfl) (Reg.fin.put Reg.fin_no _ _) (StR.move (StR.no HPbk4)) ?_
  refine Seq.pure rfl rfl (by intro w; go_simp; try rfl) ?_
  simp only [Act.put, nA, nB, nC]
  refine Seq.loadAt rfl rfl rfl rfl (by repeat (first | exact mC | apply mT)) (n := 3) (cs' := RC a1) (Nat.le_of_ble_eq_true rfl) (by kernel_rfl) rfl ?_
  simp only [Act.put, nA, nB, nC]
  refine Seq.pure rfl rfl (by intro w; go_simp; try rfl) ?_
  simp only [Act.put, nA, nB, nC]
  refine Seq.loadAt rfl rfl rfl rfl (by repeat (first | exact mC | apply mT)) (n := 3) (cs' := RC b2) (Nat.le_of_ble_eq_true rfl) (by kernel_rfl) rfl ?_
  simp only [Act.put, nA, nB, nC]
  refine Seq.call rfl rfl rfl rfl (by kernel_rfl) (mul_q (k := (1 * k + 0)) HT.out (Z_a1.out.more (by omega)) (Z_b2.out.more (by omega)) rfl (by omega)) ?_
  simp only [Act.put, nA, nB, nC]
  refine Seq.pure rfl rfl (by intro w; go_simp; try rfl) ?_
  simp only [Act.put, nA, nB, nC]
  refine Seq.loadAt rfl rfl rfl rfl (by repeat (first | exact mC | apply mT)) (n := 3) (cs' := RC a2) (Nat.le_of_ble_eq_true rfl) (by kernel_rfl) rfl ?_
  simp only [Act.put, nA, nB, nC]
  refine Seq.pure rfl rfl (by intro w; go_simp; try rfl) ?_
  simp only [Act.put, nA, nB, nC]
  refine Seq.loadAt rfl rfl rfl rfl (by repeat (first | exact mC | apply mT)) (n := 3) (cs' := RC b1) (Nat.le_of_ble_eq_true rfl) (by kernel_rfl) rfl ?_
  simp only [Act.put, nA, nB, nC]
  refine Seq.call rfl rfl rfl rfl (by kernel_rfl) (mul_q (k := (1 * k + 0)) HT.out (Z_a2.out.more (by omega)) (Z_b1.out.more (by omega)) rfl (by omega)) ?_
  simp only [Act.put, nA, nB, nC]
  refine Seq.call rfl rfl rfl rfl (by kernel_rfl) (sub_q (k := (2 * k + 0)) HT.out ((Z_a1.out.mul Z_b2.out).more (by omega)) ((Z_a2.out.mul Z_b1.out).more (by omega)) rfl (by omega)) ?_
  simp only [Act.put, nA, nB, nC]
  refine Seq.store rfl rfl rfl rfl rfl (by repeat (first | exact rS | refine rN (by assumption) ?_)) (n := 3) rfl rfl (by kernel_rfl) (RC_one _) ?_
  simp only [Act.put, nA, nB, nC]
  refine Seq.done fun ws2 hws => ?_
  have HS2 : St w [(bk4, 24, RC ((a1 * b2) - (a2 * b1))), (bk2, 26, VC a1 a2), (bk3, 26, VC b1 b2)] ws2 := hws.list1 (by repeat (first | exact rS | refine rN (by assumption) ?_))
  clear HS1 hws HPbk4
  go_wp2_with fail
  exact ret_own rfl rfl rfl HS2 (by repeat (first | exact mC | apply mT)) (n := 3) rfl (by kernel_rfl) ⟨rfl, HS2.below⟩
end Go.Proofs.YtoejojfjiikogaaGreatDoor
/- turned, vector, num, turnBegun, vecBegun of package gantkeep1 (printed by lawvec.py). -/
namespace Go.Proofs.YtoejojfjiikogaaGreatDoor
open Go.RowKit
set_option linter.unusedVariables false
set_option linter.unusedSimpArgs false

theorem num_s (m n : Int) (hm : m.natAbs < 65536) (hn : n.natAbs < 65536) (h0 : n ≠ 0) : Rz 4 ((m : Rat) / (n : Rat)) :=
  (Rz.lit (z := m) rfl hm).div (Rz.lit (z := n) rfl hn) (fun h => h0 (by
    have h2 : ((n : Int) : Rat) = ((0 : Int) : Rat) := h
    exact Rat.intCast_inj.1 h2))
set_option maxRecDepth 20000 in
theorem num_q {m n : Int} {z0 : Rat} {W : World} {l : List Own} (hT : Tab W) (hm : m.natAbs < 65536) (hn : n.natAbs < 65536) (h0 : n ≠ 0) (hz0 : (m : Rat) / (n : Rat) = z0) (w : World) (h : St W l w) :
    Calls Tryz.prog 25 #[.int .i64 m, .int .i64 n] w fun e w' => e = .returned (.agg (RC z0)) ∧ Below w.heap.size w w' := by
  subst hz0
  have HT := Lib.hid (tabS hT h); clear hT h
  have HI := Lib.hid (show (-9223372036854775808 ≤ m ∧ m ≤ 9223372036854775807 ∧ -9223372036854775808 ≤ n ∧ n ≤ 9223372036854775807 ∧ n ≠ 0) from ⟨by omega, by omega, by omega, by omega, h0⟩); clear hm hn h0
  go_enter Tryz.func25, Tryz.ntmps25
  have HS : St w [] w := St.start
  go_upto_region 0 with (fail)
  refine wp_seq_text [] (StR.no HS) ?_
  refine Seq.alloc rfl rfl rfl (z := .agg #[.bool false, .string ⟨#[]⟩, .string ⟨#[]⟩]) (by kernel_rfl) rfl ?_
  intro bk4 _ _ hbk4_r
  simp only [Act.put, List.setIfInBounds_toArray, List.set_cons_zero, List.set_cons_succ]
  refine Seq.done fun ws1 hws => ?_
  have HS1 : St w [(bk4, 24, #[.bool false, .string ⟨#[]⟩, .string ⟨#[]⟩])] ws1 := hws.list1 (by first | exact rS | exact rN (by assumption) (rS) | exact rN (by assumption) (rN (by assumption) (rS)) | exact rN (by assumption) (rN (by assumption) (rN (by assumption) (rS))) | exact rN (by assumption) (rN (by assumption) (rN (by assumption) (rN (by assumption) (rS)))))
  clear HS hws
  go_upto_region 1 with (fail)
  refine wp_seq_text [] (StR.no HS1) ?_
  refine Seq.pure rfl rfl (by intro w; go_simp; try first | with_reducible rfl | rfl) ?_
  simp only [Act.put, List.setIfInBounds_toArray, List.set_cons_zero, List.set_cons_succ]
  refine Seq.pure rfl rfl (by intro w; go_simp; try first | with_reducible rfl | rfl) ?_
  simp only [Act.put, List.setIfInBounds_toArray, List.set_cons_zero, List.set_cons_succ]
  refine Seq.call rfl rfl rfl rfl (by kernel_rfl) (make_q HT.out HI.out.1 HI.out.2.1 HI.out.2.2.1 HI.out.2.2.2.1 HI.out.2.2.2.2 rfl) ?_
  simp only [Act.put, List.setIfInBounds_toArray, List.set_cons_zero, List.set_cons_succ]
  refine Seq.pure rfl rfl (by intro w; go_simp; try first | with_reducible rfl | rfl) ?_
  simp only [Act.put, List.setIfInBounds_toArray, List.set_cons_zero, List.set_cons_succ]
  refine Seq.pure (v := .agg (RC ((m : Rat) / (n : Rat)))) rfl rfl (fun w => rfl) ?_
  simp only [Act.put, List.setIfInBounds_toArray, List.set_cons_zero, List.set_cons_succ]
  refine Seq.pure (v := .int .i64 0) rfl rfl (fun w => rfl) ?_
  simp only [Act.put, List.setIfInBounds_toArray, List.set_cons_zero, List.set_cons_succ]
  refine Seq.alloc rfl rfl rfl (z := .agg #[.bool false, .string ⟨#[]⟩, .string ⟨#[]⟩]) (by kernel_rfl) rfl ?_
  intro bk5 _ _ hbk5_r
  simp only [Act.put, List.setIfInBounds_toArray, List.set_cons_zero, List.set_cons_succ]
  refine Seq.store rfl rfl rfl rfl rfl (by first | exact rS | exact rN (by assumption) (rS) | exact rN (by assumption) (rN (by assumption) (rS)) | exact rN (by assumption) (rN (by assumption) (rN (by assumption) (rS))) | exact rN (by assumption) (rN (by assumption) (rN (by assumption) (rN (by assumption) (rS))))) (n := 3) rfl rfl (by kernel_rfl) (RC_one _) ?_
  simp only [Act.put, List.setIfInBounds_toArray, List.set_cons_zero, List.set_cons_succ]
  refine Seq.pure rfl rfl (by intro w; go_simp; try first | with_reducible rfl | rfl) ?_
  simp only [Act.put, List.setIfInBounds_toArray, List.set_cons_zero, List.set_cons_succ]
  refine Seq.done fun ws2 hws => ?_
  have HS2 : St w [(bk5, 24, RC ((m : Rat) / (n : Rat))), (bk4, 24, #[.bool false, .string ⟨#[]⟩, .string ⟨#[]⟩])] ws2 := hws.list1 (by first | exact rS | exact rN (by assumption) (rS) | exact rN (by assumption) (rN (by assumption) (rS)) | exact rN (by assumption) (rN (by assumption) (rN (by assumption) (rS))) | exact rN (by assumption) (rN (by assumption) (rN (by assumption) (rN (by assumption) (rS)))))
  clear HS1 hws
  go_upto_region 2 with (fail)
  have HPbk4 : St w [(bk4, 24, #[.bool false, .string ⟨#[]⟩, .string ⟨#[]⟩]), (bk5, 24, RC ((m : Rat) / (n : Rat)))] _ := St.perm HS2 (List.perm_middle (l₁ := ([(bk5, 24, RC ((m : Rat) / (n : Rat)))] : List Own)))
  refine wp_seq_text [] (StR.move (StR.no HPbk4)) ?_
  refine Seq.load rfl rfl rfl rfl (by repeat (first | exact mC | apply mT)) (n := 3) rfl (by kernel_rfl) ?_
  simp only [Act.put, List.setIfInBounds_toArray, List.set_cons_zero, List.set_cons_succ]
  refine Seq.store rfl rfl rfl rfl rfl (by first | exact rS | exact rN (by assumption) (rS) | exact rN (by assumption) (rN (by assumption) (rS)) | exact rN (by assumption) (rN (by assumption) (rN (by assumption) (rS))) | exact rN (by assumption) (rN (by assumption) (rN (by assumption) (rN (by assumption) (rS))))) (n := 3) rfl rfl (by kernel_rfl) (RC_one _) ?_
  simp only [Act.put, List.setIfInBounds_toArray, List.set_cons_zero, List.set_cons_succ]
  refine Seq.done fun ws3 hws => ?_
  have HS3 : St w [(bk4, 24, RC ((m : Rat) / (n : Rat))), (bk5, 24, RC ((m : Rat) / (n : Rat)))] ws3 := hws.list1 (by first | exact rS | exact rN (by assumption) (rS) | exact rN (by assumption) (rN (by assumption) (rS)) | exact rN (by assumption) (rN (by assumption) (rN (by assumption) (rS))) | exact rN (by assumption) (rN (by assumption) (rN (by assumption) (rN (by assumption) (rS)))))
  clear HS2 hws HPbk4
  go_wp2_with fail
  exact ret_own rfl rfl rfl HS3 (by repeat (first | exact mC | apply mT)) (n := 3) rfl (by kernel_rfl) ⟨rfl, HS3.below⟩
set_option maxRecDepth 20000 in
theorem vector_q {x y : Int} {z0 z1 : Rat} {W : World} {l : List Own} (hT : Tab W) (hx : (-9223372036854775808 ≤ x ∧ x ≤ 9223372036854775807)) (hy : (-9223372036854775808 ≤ y ∧ y ≤ 9223372036854775807)) (hz0 : ratMq x = z0) (hz1 : ratMq y = z1) (w : World) (h : St W l w) :
    Calls Tryz.prog 51 #[.int .i64 x, .int .i64 y] w fun e w' => e = .returned (.agg (VC z0 z1)) ∧ Below w.heap.size w w' := by
  subst hz0 hz1
  have HT := Lib.hid (tabS hT h); clear hT h
  have HI := Lib.hid (And.intro hx hy); clear hx hy
  go_enter Tryz.func51, Tryz.ntmps51
  have HS : St w [] w := St.start
  go_upto_region 0 with (fail)
  refine wp_seq_text [] (StR.no HS) ?_
  refine Seq.alloc rfl rfl rfl (z := .agg #[.bool false, .string ⟨#[]⟩, .string ⟨#[]⟩, .bool false, .string ⟨#[]⟩, .string ⟨#[]⟩]) (by kernel_rfl) rfl ?_
  intro bk4 _ _ hbk4_r
  simp only [Act.put, List.setIfInBounds_toArray, List.set_cons_zero, List.set_cons_succ]
  refine Seq.done fun ws1 hws => ?_
  have HS1 : St w [(bk4, 26, #[.bool false, .string ⟨#[]⟩, .string ⟨#[]⟩, .bool false, .string ⟨#[]⟩, .string ⟨#[]⟩])] ws1 := hws.list1 (by first | exact rS | exact rN (by assumption) (rS) | exact rN (by assumption) (rN (by assumption) (rS)) | exact rN (by assumption) (rN (by assumption) (rN (by assumption) (rS))) | exact rN (by assumption) (rN (by assumption) (rN (by assumption) (rN (by assumption) (rS)))))
  clear HS hws
  go_upto_region 1 with (fail)
  refine wp_seq_text [] (StR.move (StR.no HS1)) ?_
  refine Seq.pure rfl rfl (by intro w; go_simp; try first | with_reducible rfl | rfl) ?_
  simp only [Act.put, List.setIfInBounds_toArray, List.set_cons_zero, List.set_cons_succ]
  refine Seq.call rfl rfl rfl rfl (by kernel_rfl) (ratM_q rfl HI.out.1.1 HI.out.1.2) ?_
  simp only [Act.put, List.setIfInBounds_toArray, List.set_cons_zero, List.set_cons_succ]
  refine Seq.pure rfl rfl (by intro w; go_simp; try first | with_reducible rfl | rfl) ?_
  simp only [Act.put, List.setIfInBounds_toArray, List.set_cons_zero, List.set_cons_succ]
  refine Seq.call rfl rfl rfl rfl (by kernel_rfl) (ratM_q rfl HI.out.2.1 HI.out.2.2) ?_
  simp only [Act.put, List.setIfInBounds_toArray, List.set_cons_zero, List.set_cons_succ]
  refine Seq.pure (v := .agg (VC (ratMq x) (ratMq y))) rfl rfl (fun w => bld_Vec rfl rfl rfl w) ?_
  simp only [Act.put, List.setIfInBounds_toArray, List.set_cons_zero, List.set_cons_succ]
  refine Seq.store rfl rfl rfl rfl rfl (by first | exact rS | exact rN (by assumption) (rS) | exact rN (by assumption) (rN (by assumption) (rS)) | exact rN (by assumption) (rN (by assumption) (rN (by assumption) (rS))) | exact rN (by assumption) (rN (by assumption) (rN (by assumption) (rN (by assumption) (rS))))) (n := 6) rfl rfl (by kernel_rfl) (VC_one _ _) ?_
  simp only [Act.put, List.setIfInBounds_toArray, List.set_cons_zero, List.set_cons_succ]
  refine Seq.done fun ws2 hws => ?_
  have HS2 : St w [(bk4, 26, VC (ratMq x) (ratMq y))] ws2 := hws.list1 (by first | exact rS | exact rN (by assumption) (rS) | exact rN (by assumption) (rN (by assumption) (rS)) | exact rN (by assumption) (rN (by assumption) (rN (by assumption) (rS))) | exact rN (by assumption) (rN (by assumption) (rN (by assumption) (rN (by assumption) (rS)))))
  clear HS1 hws
  go_wp2_with fail
  exact ret_own rfl rfl rfl HS2 (by repeat (first | exact mC | apply mT)) (n := 6) rfl (by kernel_rfl) ⟨rfl, HS2.below⟩
set_option maxHeartbeats 2000000 in
set_option maxRecDepth 20000 in
theorem tbegun_q {W : World} {l : List Own} (hT : Tab W) (w : World) (h : St W l w) :
    Calls Tryz.prog 89 #[] w fun e w' => e = .returned (.bool true) ∧ Below w.heap.size w w' := by
  have HT := Lib.hid (tabS hT h); clear hT h
  go_enter Tryz.func89, Tryz.ntmps89
  have HS : St w [] w := St.start
  go_upto_region 0 with (fail)
  refine wp_seq_text [] (StR.no HS) ?_
  refine Seq.pure rfl rfl (by intro w; go_simp; try first | with_reducible rfl | rfl) ?_
  simp only [Act.put, List.setIfInBounds_toArray, List.set_cons_zero, List.set_cons_succ]
  refine Seq.done fun ws1 hws => ?_
  have HS1 := hws.st
  clear HS hws
  go_upto_region 1 with (fail)
  refine wp_seq_text [] (StR.no HS1) ?_
  refine Seq.call rfl rfl rfl rfl (by kernel_rfl) (num_q (m := 1) (n := 2) HT.out (by decide) (by decide) (by decide) (show ((1 : Int) : Rat) / ((2 : Int) : Rat) = ((1 : Int) : Rat) / ((2 : Int) : Rat) from rfl)) ?_
  simp only [Act.put, List.setIfInBounds_toArray, List.set_cons_zero, List.set_cons_succ]
  refine Seq.call rfl rfl rfl rfl (by kernel_rfl) (tof_q (k := 4) HT.out ((show Rz 4 (((1 : Int) : Rat) / ((2 : Int) : Rat)) from (show ((1 : Int) : Rat) / ((2 : Int) : Rat) = ((1 : Int) : Rat) / ((2 : Int) : Rat) from rfl) ▸ num_s 1 2 (by decide) (by decide) (by decide)).more (by omega))  rfl (by omega)) ?_
  simp only [Act.put, List.setIfInBounds_toArray, List.set_cons_zero, List.set_cons_succ]
  refine Seq.alloc rfl rfl rfl (z := .agg #[.bool false, .bool false, .string ⟨#[]⟩, .string ⟨#[]⟩]) (by kernel_rfl) rfl ?_
  intro bk1 _ _ hbk1_r
  simp only [Act.put, List.setIfInBounds_toArray, List.set_cons_zero, List.set_cons_succ]
  refine Seq.store rfl rfl rfl rfl rfl (by first | exact rS | exact rN (by assumption) (rS) | exact rN (by assumption) (rN (by assumption) (rS)) | exact rN (by assumption) (rN (by assumption) (rN (by assumption) (rS))) | exact rN (by assumption) (rN (by assumption) (rN (by assumption) (rN (by assumption) (rS))))) (n := 4) rfl rfl (by kernel_rfl) (TC_one _ _) ?_
  simp only [Act.put, List.setIfInBounds_toArray, List.set_cons_zero, List.set_cons_succ]
  refine Seq.done fun ws2 hws => ?_
  have HS2 : St w [(bk1, 142, TC false (((1 : Int) : Rat) / ((2 : Int) : Rat)))] ws2 := hws.list1 (by first | exact rS | exact rN (by assumption) (rS) | exact rN (by assumption) (rN (by assumption) (rS)) | exact rN (by assumption) (rN (by assumption) (rN (by assumption) (rS))) | exact rN (by assumption) (rN (by assumption) (rN (by assumption) (rN (by assumption) (rS)))))
  clear HS1 hws
  go_upto_region 2 with (fail)
  refine wp_seq_text [] (StR.no HS2) ?_
  refine Seq.call rfl rfl rfl rfl (by kernel_rfl) (begun_q HT.out) ?_
  simp only [Act.put, List.setIfInBounds_toArray, List.set_cons_zero, List.set_cons_succ]
  refine Seq.pure rfl rfl (by intro w; go_simp; try first | with_reducible rfl | rfl) ?_
  simp only [Act.put, List.setIfInBounds_toArray, List.set_cons_zero, List.set_cons_succ]
  refine Seq.load rfl rfl rfl rfl (by repeat (first | exact mC | apply mT)) (n := 4) rfl (by kernel_rfl) ?_
  simp only [Act.put, List.setIfInBounds_toArray, List.set_cons_zero, List.set_cons_succ]
  refine Seq.call rfl rfl rfl rfl (by kernel_rfl) (cos_q (k := 4) HT.out ((show Rz 4 (((1 : Int) : Rat) / ((2 : Int) : Rat)) from (show ((1 : Int) : Rat) / ((2 : Int) : Rat) = ((1 : Int) : Rat) / ((2 : Int) : Rat) from rfl) ▸ num_s 1 2 (by decide) (by decide) (by decide)).more (by omega)) (fun h => by cases h) rfl (by omega)) ?_
  simp only [Act.put, List.setIfInBounds_toArray, List.set_cons_zero, List.set_cons_succ]
  refine Seq.call rfl rfl rfl rfl (by kernel_rfl) (num_q (m := 3) (n := 5) HT.out (by decide) (by decide) (by decide) (show ((3 : Int) : Rat) / ((5 : Int) : Rat) = ((3 : Int) : Rat) / ((5 : Int) : Rat) from rfl)) ?_
  simp only [Act.put, List.setIfInBounds_toArray, List.set_cons_zero, List.set_cons_succ]
  refine Seq.eqR rfl rfl rfl rfl rfl (b := true) (decide_eq_true (by unfold cosT; decide +kernel)) ?_
  simp only [Act.put, List.setIfInBounds_toArray, List.set_cons_zero, List.set_cons_succ]
  refine Seq.pure rfl rfl (by intro w; go_simp; try first | with_reducible rfl | rfl) ?_
  simp only [Act.put, List.setIfInBounds_toArray, List.set_cons_zero, List.set_cons_succ]
  refine Seq.pure rfl rfl (by intro w; go_simp; try first | with_reducible rfl | rfl) ?_
  simp only [Act.put, List.setIfInBounds_toArray, List.set_cons_zero, List.set_cons_succ]
  refine Seq.load rfl rfl rfl rfl (by repeat (first | exact mC | apply mT)) (n := 4) rfl (by kernel_rfl) ?_
  simp only [Act.put, List.setIfInBounds_toArray, List.set_cons_zero, List.set_cons_succ]
  refine Seq.call rfl rfl rfl rfl (by kernel_rfl) (sin_q (k := 4) HT.out ((show Rz 4 (((1 : Int) : Rat) / ((2 : Int) : Rat)) from (show ((1 : Int) : Rat) / ((2 : Int) : Rat) = ((1 : Int) : Rat) / ((2 : Int) : Rat) from rfl) ▸ num_s 1 2 (by decide) (by decide) (by decide)).more (by omega)) (fun h => by cases h) rfl (by omega)) ?_
  simp only [Act.put, List.setIfInBounds_toArray, List.set_cons_zero, List.set_cons_succ]
  refine Seq.call rfl rfl rfl rfl (by kernel_rfl) (num_q (m := 4) (n := 5) HT.out (by decide) (by decide) (by decide) (show ((4 : Int) : Rat) / ((5 : Int) : Rat) = ((4 : Int) : Rat) / ((5 : Int) : Rat) from rfl)) ?_
  simp only [Act.put, List.setIfInBounds_toArray, List.set_cons_zero, List.set_cons_succ]
  refine Seq.eqR rfl rfl rfl rfl rfl (b := true) (decide_eq_true (by unfold sinT; decide +kernel)) ?_
  simp only [Act.put, List.setIfInBounds_toArray, List.set_cons_zero, List.set_cons_succ]
  refine Seq.pure rfl rfl (by intro w; go_simp; try first | with_reducible rfl | rfl) ?_
  simp only [Act.put, List.setIfInBounds_toArray, List.set_cons_zero, List.set_cons_succ]
  refine Seq.pure rfl rfl (by intro w; go_simp; try first | with_reducible rfl | rfl) ?_
  simp only [Act.put, List.setIfInBounds_toArray, List.set_cons_zero, List.set_cons_succ]
  refine Seq.done fun ws3 hws => ?_
  have HS3 := hws.st
  clear HS2 hws
  go_wp2_with fail
  go_ret
  exact ⟨rfl, HS3.below⟩
set_option maxHeartbeats 2000000 in
set_option maxRecDepth 20000 in
theorem vbegun_q {W : World} {l : List Own} (hT : Tab W) (w : World) (h : St W l w) :
    Calls Tryz.prog 49 #[] w fun e w' => e = .returned (.bool true) ∧ Below w.heap.size w w' := by
  have HT := Lib.hid (tabS hT h); clear hT h
  go_enter Tryz.func49, Tryz.ntmps49
  have HS : St w [] w := St.start
  go_upto_region 0 with (fail)
  refine wp_seq_text [] (StR.no HS) ?_
  refine Seq.pure rfl rfl (by intro w; go_simp; try first | with_reducible rfl | rfl) ?_
  simp only [Act.put, List.setIfInBounds_toArray, List.set_cons_zero, List.set_cons_succ]
  refine Seq.done fun ws1 hws => ?_
  have HS1 := hws.st
  clear HS hws
  go_upto_region 1 with (fail)
  refine wp_seq_text [] (StR.no HS1) ?_
  refine Seq.call rfl rfl rfl rfl (by kernel_rfl) (tbegun_q HT.out) ?_
  simp only [Act.put, List.setIfInBounds_toArray, List.set_cons_zero, List.set_cons_succ]
  refine Seq.pure rfl rfl (by intro w; go_simp; try first | with_reducible rfl | rfl) ?_
  simp only [Act.put, List.setIfInBounds_toArray, List.set_cons_zero, List.set_cons_succ]
  refine Seq.call rfl rfl rfl rfl (by kernel_rfl) (of_q HT.out (by omega) (by omega) (show ((1 : Int) : Rat) = (1 : Rat) from rfl)) ?_
  simp only [Act.put, List.setIfInBounds_toArray, List.set_cons_zero, List.set_cons_succ]
  refine Seq.call rfl rfl rfl rfl (by kernel_rfl) (of_q HT.out (by omega) (by omega) (show ((2 : Int) : Rat) = (2 : Rat) from rfl)) ?_
  simp only [Act.put, List.setIfInBounds_toArray, List.set_cons_zero, List.set_cons_succ]
  refine Seq.pure (v := .agg (VC (1 : Rat) (2 : Rat))) rfl rfl (fun w => bld_Vec rfl rfl rfl w) ?_
  simp only [Act.put, List.setIfInBounds_toArray, List.set_cons_zero, List.set_cons_succ]
  refine Seq.call rfl rfl rfl rfl (by kernel_rfl) (of_q HT.out (by omega) (by omega) (show ((3 : Int) : Rat) = (3 : Rat) from rfl)) ?_
  simp only [Act.put, List.setIfInBounds_toArray, List.set_cons_zero, List.set_cons_succ]
  refine Seq.call rfl rfl rfl rfl (by kernel_rfl) (of_q HT.out (by omega) (by omega) (show ((4 : Int) : Rat) = (4 : Rat) from rfl)) ?_
  simp only [Act.put, List.setIfInBounds_toArray, List.set_cons_zero, List.set_cons_succ]
  refine Seq.pure (v := .agg (VC (3 : Rat) (4 : Rat))) rfl rfl (fun w => bld_Vec rfl rfl rfl w) ?_
  simp only [Act.put, List.setIfInBounds_toArray, List.set_cons_zero, List.set_cons_succ]
  refine Seq.call rfl rfl rfl rfl (by kernel_rfl) (dot_q (k := 2) HT.out ((show Rz 2 (1 : Rat) from Rz.lit (z := 1) rfl (by decide)).more (by omega)) ((show Rz 2 (2 : Rat) from Rz.lit (z := 2) rfl (by decide)).more (by omega)) ((show Rz 2 (3 : Rat) from Rz.lit (z := 3) rfl (by decide)).more (by omega)) ((show Rz 2 (4 : Rat) from Rz.lit (z := 4) rfl (by decide)).more (by omega))  rfl (by omega)) ?_
  simp only [Act.put, List.setIfInBounds_toArray, List.set_cons_zero, List.set_cons_succ]
  refine Seq.call rfl rfl rfl rfl (by kernel_rfl) (of_q HT.out (by omega) (by omega) (show ((11 : Int) : Rat) = (11 : Rat) from rfl)) ?_
  simp only [Act.put, List.setIfInBounds_toArray, List.set_cons_zero, List.set_cons_succ]
  refine Seq.eqR rfl rfl rfl rfl rfl (b := true) (decide_eq_true (by decide +kernel)) ?_
  simp only [Act.put, List.setIfInBounds_toArray, List.set_cons_zero, List.set_cons_succ]
  refine Seq.pure rfl rfl (by intro w; go_simp; try first | with_reducible rfl | rfl) ?_
  simp only [Act.put, List.setIfInBounds_toArray, List.set_cons_zero, List.set_cons_succ]
  refine Seq.pure rfl rfl (by intro w; go_simp; try first | with_reducible rfl | rfl) ?_
  simp only [Act.put, List.setIfInBounds_toArray, List.set_cons_zero, List.set_cons_succ]
  refine Seq.done fun ws2 hws => ?_
  have HS2 := hws.st
  clear HS1 hws
  go_wp2_with fail
  go_ret
  exact ⟨rfl, HS2.below⟩
end Go.Proofs.YtoejojfjiikogaaGreatDoor
