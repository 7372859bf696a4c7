/- Joined texts. -/
import Derived.Test.YtdhhbpnnahdofaaDoorSp3

/- made, spanBegun of package gantkeep1; span.Make, span.Sq (printed by lawvec.py). -/
namespace Go.Proofs.YtdhhbpnnahdofaaDoor
open Go.RowKit
set_option linter.unusedVariables false
set_option linter.unusedSimpArgs false

theorem min_le_max (a b : Rat) : minQ a b ≤ maxQ a b := by unfold minQ maxQ cmpQ; grind
theorem min_le_l (a b : Rat) : minQ a b ≤ a := by unfold minQ cmpQ; grind
theorem min_le_r (a b : Rat) : minQ a b ≤ b := by unfold minQ cmpQ; grind
theorem le_max_l (a b : Rat) : a ≤ maxQ a b := by unfold maxQ cmpQ; grind
theorem le_max_r (a b : Rat) : b ≤ maxQ a b := by unfold maxQ cmpQ; grind
theorem le_min {a b c : Rat} (h1 : c ≤ a) (h2 : c ≤ b) : c ≤ minQ a b := by unfold minQ; split <;> assumption
theorem max_le {a b c : Rat} (h1 : a ≤ c) (h2 : b ≤ c) : maxQ a b ≤ c := by unfold maxQ; split <;> assumption
set_option maxHeartbeats 2000000 in
set_option maxRecDepth 20000 in
theorem ssq0_q {k : Nat} {al ah z0 z1 : Rat} {W : World} {l : List Own} (hT : Tab W) (Zal : Rz k al) (Zah : Rz k ah) (hlea : al ≤ ah) (hin : (al ≤ 0 ∧ 0 ≤ ah)) (hz0 : (0 : Rat) = z0) (hz1 : maxQ (al * al) (ah * ah) = z1) (hk : k ≤ 100000000000) (w : World) (h : St W l w) :
    Calls Tryd.prog 144 #[.agg (VC al ah)] w fun e w' => e = .returned (.agg (VC z0 z1)) ∧ Below w.heap.size w w' := by
  subst hz0
  subst hz1
  have HT := Lib.hid (tabS hT h); clear hT h
  have Z_al := Lib.hid Zal; clear Zal
  have Z_ah := Lib.hid Zah; clear Zah
  have HLE := Lib.hid hlea; clear hlea
  have HIN := Lib.hid (show decide (al ≤ (0 : Rat) ∧ (0 : Rat) ≤ ah) = true from decide_eq_true hin); clear hin
  go_enter Tryd.func144, Tryd.ntmps144
  have HS : St w [] w := St.start
  go_upto_region 0 with (fail)
  refine wp_seq_text [] (StR.no HS) ?_
  refine Seq.box rfl rfl rfl (v := .agg (VC al ah)) (cs := VC al ah) rfl rfl ?_
  intro bk1 _ _ hbk1_r
  simp only [Act.put, nA, nB, nC]
  refine Seq.alloc rfl rfl rfl (z := .agg #[.bool false, .string ⟨#[]⟩, .string ⟨#[]⟩, .bool false, .string ⟨#[]⟩, .string ⟨#[]⟩]) (by kernel_rfl) rfl ?_
  intro bk2 _ _ hbk2_r
  obtain ⟨ne_bk2_bk1, hbk2_r⟩ := Reg.ne_of_put hbk2_r
  have ne_bk1_bk2 := Ne.symm ne_bk2_bk1
  simp only [Act.put, nA, nB, nC]
  refine Seq.done fun ws1 hws => ?_
  have HS1 : St w [(bk1, 34, VC al ah), (bk2, 34, #[.bool false, .string ⟨#[]⟩, .string ⟨#[]⟩, .bool false, .string ⟨#[]⟩, .string ⟨#[]⟩])] ws1 := hws.list2 (by repeat (first | exact rS | refine rN (by assumption) ?_)) (by repeat (first | exact rS | refine rN (by assumption) ?_)) (by assumption)
  clear HS hws
  go_upto_region 1 with (fail)
  refine wp_seq_text [0] (StR.move (StR.no HS1)) ?_
  refine Seq.get rfl rfl rfl rfl (by repeat (first | exact rS | refine rN (by assumption) ?_)) (n := 6) rfl (by kernel_rfl) ?_
  simp only [Act.put, nA, nB, nC]
  refine Seq.call rfl rfl rfl rfl (by kernel_rfl) (sfit_q (k := (1 * k + 0)) HT.out (Z_al.out.more (by omega)) (Z_ah.out.more (by omega)) HLE.out rfl rfl (by omega)) ?_
  simp only [Act.put, nA, nB, nC]
  refine Seq.store rfl rfl rfl rfl rfl (by repeat (first | exact rS | refine rN (by assumption) ?_)) (n := 6) rfl rfl (by kernel_rfl) (VC_one _ _) ?_
  simp only [Act.put, nA, nB, nC]
  refine Seq.done fun ws2 hws => ?_
  have HS2 : St w [(bk1, 34, VC al ah), (bk2, 34, #[.bool false, .string ⟨#[]⟩, .string ⟨#[]⟩, .bool false, .string ⟨#[]⟩, .string ⟨#[]⟩])] ws2 := hws.list1 (by repeat (first | exact rS | refine rN (by assumption) ?_))
  clear HS1 hws
  go_upto_region 2 with (fail)
  refine wp_seq [23] (by kernel_rfl) (by kernel_rfl) Reg.fin_no (StR.no HS2) ?_
  refine Seq.pure rfl rfl (by intro w; go_simp; try rfl) ?_
  simp only [Act.put, nA, nB, nC]
  refine Seq.loadAt rfl rfl rfl rfl (by repeat (first | exact mC | apply mT)) (n := 3) (cs' := RC al) (Nat.le_of_ble_eq_true rfl) (by kernel_rfl) rfl ?_
  simp only [Act.put, nA, nB, nC]
  refine Seq.pure rfl rfl (by intro w; go_simp; try rfl) ?_
  simp only [Act.put, nA, nB, nC]
  refine Seq.loadAt rfl rfl rfl rfl (by repeat (first | exact mC | apply mT)) (n := 3) (cs' := RC al) (Nat.le_of_ble_eq_true rfl) (by kernel_rfl) rfl ?_
  simp only [Act.put, nA, nB, nC]
  refine Seq.call rfl rfl rfl rfl (by kernel_rfl) (mul_q (k := (1 * k + 0)) HT.out (Z_al.out.more (by omega)) (Z_al.out.more (by omega)) rfl (by omega)) ?_
  simp only [Act.put, nA, nB, nC]
  refine Seq.pure rfl rfl (by intro w; go_simp; try rfl) ?_
  simp only [Act.put, nA, nB, nC]
  refine Seq.loadAt rfl rfl rfl rfl (by repeat (first | exact mC | apply mT)) (n := 3) (cs' := RC ah) (Nat.le_of_ble_eq_true rfl) (by kernel_rfl) rfl ?_
  simp only [Act.put, nA, nB, nC]
  refine Seq.pure rfl rfl (by intro w; go_simp; try rfl) ?_
  simp only [Act.put, nA, nB, nC]
  refine Seq.loadAt rfl rfl rfl rfl (by repeat (first | exact mC | apply mT)) (n := 3) (cs' := RC ah) (Nat.le_of_ble_eq_true rfl) (by kernel_rfl) rfl ?_
  simp only [Act.put, nA, nB, nC]
  refine Seq.call rfl rfl rfl rfl (by kernel_rfl) (mul_q (k := (1 * k + 0)) HT.out (Z_ah.out.more (by omega)) (Z_ah.out.more (by omega)) rfl (by omega)) ?_
  simp only [Act.put, nA, nB, nC]
  refine Seq.slice (n := 2) (e := 32) (cs := SL2 (al * al) (ah * ah)) rfl rfl (fun w => slc_2 rfl rfl rfl w) ?_
  intro bk16 _ _ hbk16_r
  simp only [Act.put, nA, nB, nC]
  refine Seq.callAny rfl rfl rfl rfl (by kernel_rfl) (fun w h => around_2 (k := (2 * k + 0)) HT.out ((Z_al.out.mul Z_al.out).more (by omega)) ((Z_ah.out.mul Z_ah.out).more (by omega)) rfl rfl (by omega) _ w h.st (h.reg _ _ _ (by repeat (first | exact rS | refine rN (by assumption) ?_))).2.2) ?_
  simp only [Act.put, nA, nB, nC]
  refine Seq.alloc rfl rfl rfl (z := .agg #[.bool false, .string ⟨#[]⟩, .string ⟨#[]⟩, .bool false, .string ⟨#[]⟩, .string ⟨#[]⟩]) (by kernel_rfl) rfl ?_
  intro bk3 _ _ hbk3_r
  obtain ⟨ne_bk3_bk16, hbk3_r⟩ := Reg.ne_of_put hbk3_r
  have ne_bk16_bk3 := Ne.symm ne_bk3_bk16
  simp only [Act.put, nA, nB, nC]
  refine Seq.store rfl rfl rfl rfl rfl (by repeat (first | exact rS | refine rN (by assumption) ?_)) (n := 6) rfl rfl (by kernel_rfl) (VC_one _ _) ?_
  simp only [Act.put, nA, nB, nC]
  refine Seq.done fun ws3 hws => ?_
  have HS3 : St w [(bk16, 32, SL2 (al * al) (ah * ah)), (bk3, 34, VC (minQ (al * al) (ah * ah)) (maxQ (al * al) (ah * ah))), (bk1, 34, VC al ah), (bk2, 34, #[.bool false, .string ⟨#[]⟩, .string ⟨#[]⟩, .bool false, .string ⟨#[]⟩, .string ⟨#[]⟩])] ws3 := hws.list2 (by repeat (first | exact rS | refine rN (by assumption) ?_)) (by repeat (first | exact rS | refine rN (by assumption) ?_)) (by assumption)
  clear HS2 hws
  go_upto_region 3 with (fail)
  refine wp_seq [] (by kernel_rfl) (by kernel_rfl) Reg.fin_no (StR.no HS3) ?_
  refine Seq.load rfl rfl rfl rfl (by repeat (first | exact mC | apply mT)) (n := 6) rfl (by kernel_rfl) ?_
  simp only [Act.put, nA, nB, nC]
  refine Seq.call rfl rfl rfl rfl (by kernel_rfl) (of_q HT.out (by omega) (by omega) (show ((0 : Int) : Rat) = (0 : Rat) from rfl)) ?_
  simp only [Act.put, nA, nB, nC]
  refine Seq.call rfl rfl rfl rfl (by kernel_rfl) (has_q (k := (1 * k + 2)) HT.out (Z_al.out.more (by omega)) (Z_ah.out.more (by omega)) ((show Rz 2 (0 : Rat) from Rz.lit (z := 0) rfl (by decide)).more (by omega)) HLE.out HIN.out (by omega)) ?_
  simp only [Act.put, nA, nB, nC]
  refine Seq.done fun ws4 hws => ?_
  have HS4 := hws.st
  clear HS3 hws
  go_upto_region 4 with (fail)
  have HPbk3 : St w [(bk3, 34, VC (minQ (al * al) (ah * ah)) (maxQ (al * al) (ah * ah))), (bk16, 32, SL2 (al * al) (ah * ah)), (bk1, 34, VC al ah), (bk2, 34, #[.bool false, .string ⟨#[]⟩, .string ⟨#[]⟩, .bool false, .string ⟨#[]⟩, .string ⟨#[]⟩])] _ := St.perm HS4 (List.perm_middle (l₁ := ([(bk16, 32, SL2 (al * al) (ah * ah))] : List Own)))
  refine wp_seq_text [] (StR.move (StR.no HPbk3)) ?_
  refine Seq.call rfl rfl rfl rfl (by kernel_rfl) (of_q HT.out (by omega) (by omega) (show ((0 : Int) : Rat) = (0 : Rat) from rfl)) ?_
  simp only [Act.put, nA, nB, nC]
  refine Seq.pure rfl rfl (by intro w; go_simp; try rfl) ?_
  simp only [Act.put, nA, nB, nC]
  refine Seq.storeAt (v := .agg (RC (0 : Rat))) rfl rfl rfl rfl rfl (by repeat (first | exact rS | refine rN (by assumption) ?_)) (Nat.le_of_ble_eq_true rfl) (by show _ = some 3; kernel_rfl) (RC_one _) (cs' := VC (0 : Rat) (maxQ (al * al) (ah * ah))) rfl ?_
  simp only [Act.put, nA, nB, nC]
  refine Seq.done fun ws5 hws => ?_
  have HS5 : St w [(bk3, 34, VC (0 : Rat) (maxQ (al * al) (ah * ah))), (bk16, 32, SL2 (al * al) (ah * ah)), (bk1, 34, VC al ah), (bk2, 34, #[.bool false, .string ⟨#[]⟩, .string ⟨#[]⟩, .bool false, .string ⟨#[]⟩, .string ⟨#[]⟩])] ws5 := hws.list1 (by repeat (first | exact rS | refine rN (by assumption) ?_))
  clear HS4 hws HPbk3
  go_upto_region 5 with (fail)
  have HPbk2 : St w [(bk2, 34, #[.bool false, .string ⟨#[]⟩, .string ⟨#[]⟩, .bool false, .string ⟨#[]⟩, .string ⟨#[]⟩]), (bk3, 34, VC (0 : Rat) (maxQ (al * al) (ah * ah))), (bk16, 32, SL2 (al * al) (ah * ah)), (bk1, 34, VC al ah)] _ := St.perm HS5 (List.perm_middle (l₁ := ([(bk3, 34, VC (0 : Rat) (maxQ (al * al) (ah * ah))), (bk16, 32, SL2 (al * al) (ah * ah)), (bk1, 34, VC al ah)] : List Own)))
  refine wp_seq_text [] (StR.move (StR.no HPbk2)) ?_
  refine Seq.load rfl rfl rfl rfl (by repeat (first | exact mC | apply mT)) (n := 6) rfl (by kernel_rfl) ?_
  simp only [Act.put, nA, nB, nC]
  refine Seq.store rfl rfl rfl rfl rfl (by repeat (first | exact rS | refine rN (by assumption) ?_)) (n := 6) rfl rfl (by kernel_rfl) (VC_one _ _) ?_
  simp only [Act.put, nA, nB, nC]
  refine Seq.done fun ws6 hws => ?_
  have HS6 : St w [(bk2, 34, VC (0 : Rat) (maxQ (al * al) (ah * ah))), (bk3, 34, VC (0 : Rat) (maxQ (al * al) (ah * ah))), (bk16, 32, SL2 (al * al) (ah * ah)), (bk1, 34, VC al ah)] ws6 := hws.list1 (by repeat (first | exact rS | refine rN (by assumption) ?_))
  clear HS5 hws HPbk2
  go_wp2_with fail
  exact ret_own rfl rfl rfl HS6 (by repeat (first | exact mC | apply mT)) (n := 6) rfl (by kernel_rfl) ⟨rfl, HS6.below⟩
set_option maxHeartbeats 2000000 in
set_option maxRecDepth 20000 in
theorem ssq1_q {k : Nat} {al ah z0 z1 : Rat} {W : World} {l : List Own} (hT : Tab W) (Zal : Rz k al) (Zah : Rz k ah) (hlea : al ≤ ah) (hin : ¬ (al ≤ 0 ∧ 0 ≤ ah)) (hz0 : minQ (al * al) (ah * ah) = z0) (hz1 : maxQ (al * al) (ah * ah) = z1) (hk : k ≤ 100000000000) (w : World) (h : St W l w) :
    Calls Tryd.prog 144 #[.agg (VC al ah)] w fun e w' => e = .returned (.agg (VC z0 z1)) ∧ Below w.heap.size w w' := by
  subst hz0
  subst hz1
  have HT := Lib.hid (tabS hT h); clear hT h
  have Z_al := Lib.hid Zal; clear Zal
  have Z_ah := Lib.hid Zah; clear Zah
  have HLE := Lib.hid hlea; clear hlea
  have HIN := Lib.hid (show decide (al ≤ (0 : Rat) ∧ (0 : Rat) ≤ ah) = false from decide_eq_false hin); clear hin
  go_enter Tryd.func144, Tryd.ntmps144
  have HS : St w [] w := St.start
  go_upto_region 0 with (fail)
  refine wp_seq_text [] (StR.no HS) ?_
  refine Seq.box rfl rfl rfl (v := .agg (VC al ah)) (cs := VC al ah) rfl rfl ?_
  intro bk1 _ _ hbk1_r
  simp only [Act.put, nA, nB, nC]
  refine Seq.alloc rfl rfl rfl (z := .agg #[.bool false, .string ⟨#[]⟩, .string ⟨#[]⟩, .bool false, .string ⟨#[]⟩, .string ⟨#[]⟩]) (by kernel_rfl) rfl ?_
  intro bk2 _ _ hbk2_r
  obtain ⟨ne_bk2_bk1, hbk2_r⟩ := Reg.ne_of_put hbk2_r
  have ne_bk1_bk2 := Ne.symm ne_bk2_bk1
  simp only [Act.put, nA, nB, nC]
  refine Seq.done fun ws1 hws => ?_
  have HS1 : St w [(bk1, 34, VC al ah), (bk2, 34, #[.bool false, .string ⟨#[]⟩, .string ⟨#[]⟩, .bool false, .string ⟨#[]⟩, .string ⟨#[]⟩])] ws1 := hws.list2 (by repeat (first | exact rS | refine rN (by assumption) ?_)) (by repeat (first | exact rS | refine rN (by assumption) ?_)) (by assumption)
  clear HS hws
  go_upto_region 1 with (fail)
  refine wp_seq_text [0] (StR.move (StR.no HS1)) ?_
  refine Seq.get rfl rfl rfl rfl (by repeat (first | exact rS | refine rN (by assumption) ?_)) (n := 6) rfl (by kernel_rfl) ?_
  simp only [Act.put, nA, nB, nC]
  refine Seq.call rfl rfl rfl rfl (by kernel_rfl) (sfit_q (k := (1 * k + 0)) HT.out (Z_al.out.more (by omega)) (Z_ah.out.more (by omega)) HLE.out rfl rfl (by omega)) ?_
  simp only [Act.put, nA, nB, nC]
  refine Seq.store rfl rfl rfl rfl rfl (by repeat (first | exact rS | refine rN (by assumption) ?_)) (n := 6) rfl rfl (by kernel_rfl) (VC_one _ _) ?_
  simp only [Act.put, nA, nB, nC]
  refine Seq.done fun ws2 hws => ?_
  have HS2 : St w [(bk1, 34, VC al ah), (bk2, 34, #[.bool false, .string ⟨#[]⟩, .string ⟨#[]⟩, .bool false, .string ⟨#[]⟩, .string ⟨#[]⟩])] ws2 := hws.list1 (by repeat (first | exact rS | refine rN (by assumption) ?_))
  clear HS1 hws
  go_upto_region 2 with (fail)
  refine wp_seq [23] (by kernel_rfl) (by kernel_rfl) Reg.fin_no (StR.no HS2) ?_
  refine Seq.pure rfl rfl (by intro w; go_simp; try rfl) ?_
  simp only [Act.put, nA, nB, nC]
  refine Seq.loadAt rfl rfl rfl rfl (by repeat (first | exact mC | apply mT)) (n := 3) (cs' := RC al) (Nat.le_of_ble_eq_true rfl) (by kernel_rfl) rfl ?_
  simp only [Act.put, nA, nB, nC]
  refine Seq.pure rfl rfl (by intro w; go_simp; try rfl) ?_
  simp only [Act.put, nA, nB, nC]
  refine Seq.loadAt rfl rfl rfl rfl (by repeat (first | exact mC | apply mT)) (n := 3) (cs' := RC al) (Nat.le_of_ble_eq_true rfl) (by kernel_rfl) rfl ?_
  simp only [Act.put, nA, nB, nC]
  refine Seq.call rfl rfl rfl rfl (by kernel_rfl) (mul_q (k := (1 * k + 0)) HT.out (Z_al.out.more (by omega)) (Z_al.out.more (by omega)) rfl (by omega)) ?_
  simp only [Act.put, nA, nB, nC]
  refine Seq.pure rfl rfl (by intro w; go_simp; try rfl) ?_
  simp only [Act.put, nA, nB, nC]
  refine Seq.loadAt rfl rfl rfl rfl (by repeat (first | exact mC | apply mT)) (n := 3) (cs' := RC ah) (Nat.le_of_ble_eq_true rfl) (by kernel_rfl) rfl ?_
  simp only [Act.put, nA, nB, nC]
  refine Seq.pure rfl rfl (by intro w; go_simp; try rfl) ?_
  simp only [Act.put, nA, nB, nC]
  refine Seq.loadAt rfl rfl rfl rfl (by repeat (first | exact mC | apply mT)) (n := 3) (cs' := RC ah) (Nat.le_of_ble_eq_true rfl) (by kernel_rfl) rfl ?_
  simp only [Act.put, nA, nB, nC]
  refine Seq.call rfl rfl rfl rfl (by kernel_rfl) (mul_q (k := (1 * k + 0)) HT.out (Z_ah.out.more (by omega)) (Z_ah.out.more (by omega)) rfl (by omega)) ?_
  simp only [Act.put, nA, nB, nC]
  refine Seq.slice (n := 2) (e := 32) (cs := SL2 (al * al) (ah * ah)) rfl rfl (fun w => slc_2 rfl rfl rfl w) ?_
  intro bk16 _ _ hbk16_r
  simp only [Act.put, nA, nB, nC]
  refine Seq.callAny rfl rfl rfl rfl (by kernel_rfl) (fun w h => around_2 (k := (2 * k + 0)) HT.out ((Z_al.out.mul Z_al.out).more (by omega)) ((Z_ah.out.mul Z_ah.out).more (by omega)) rfl rfl (by omega) _ w h.st (h.reg _ _ _ (by repeat (first | exact rS | refine rN (by assumption) ?_))).2.2) ?_
  simp only [Act.put, nA, nB, nC]
  refine Seq.alloc rfl rfl rfl (z := .agg #[.bool false, .string ⟨#[]⟩, .string ⟨#[]⟩, .bool false, .string ⟨#[]⟩, .string ⟨#[]⟩]) (by kernel_rfl) rfl ?_
  intro bk3 _ _ hbk3_r
  obtain ⟨ne_bk3_bk16, hbk3_r⟩ := Reg.ne_of_put hbk3_r
  have ne_bk16_bk3 := Ne.symm ne_bk3_bk16
  simp only [Act.put, nA, nB, nC]
  refine Seq.store rfl rfl rfl rfl rfl (by repeat (first | exact rS | refine rN (by assumption) ?_)) (n := 6) rfl rfl (by kernel_rfl) (VC_one _ _) ?_
  simp only [Act.put, nA, nB, nC]
  refine Seq.done fun ws3 hws => ?_
  have HS3 : St w [(bk16, 32, SL2 (al * al) (ah * ah)), (bk3, 34, VC (minQ (al * al) (ah * ah)) (maxQ (al * al) (ah * ah))), (bk1, 34, VC al ah), (bk2, 34, #[.bool false, .string ⟨#[]⟩, .string ⟨#[]⟩, .bool false, .string ⟨#[]⟩, .string ⟨#[]⟩])] ws3 := hws.list2 (by repeat (first | exact rS | refine rN (by assumption) ?_)) (by repeat (first | exact rS | refine rN (by assumption) ?_)) (by assumption)
  clear HS2 hws
  go_upto_region 3 with (fail)
  refine wp_seq [] (by kernel_rfl) (by kernel_rfl) Reg.fin_no (StR.no HS3) ?_
  refine Seq.load rfl rfl rfl rfl (by repeat (first | exact mC | apply mT)) (n := 6) rfl (by kernel_rfl) ?_
  simp only [Act.put, nA, nB, nC]
  refine Seq.call rfl rfl rfl rfl (by kernel_rfl) (of_q HT.out (by omega) (by omega) (show ((0 : Int) : Rat) = (0 : Rat) from rfl)) ?_
  simp only [Act.put, nA, nB, nC]
  refine Seq.call rfl rfl rfl rfl (by kernel_rfl) (has_q (k := (1 * k + 2)) HT.out (Z_al.out.more (by omega)) (Z_ah.out.more (by omega)) ((show Rz 2 (0 : Rat) from Rz.lit (z := 0) rfl (by decide)).more (by omega)) HLE.out HIN.out (by omega)) ?_
  simp only [Act.put, nA, nB, nC]
  refine Seq.done fun ws4 hws => ?_
  have HS4 := hws.st
  clear HS3 hws
  go_upto_region 5 with (fail)
  have HPbk2 : St w [(bk2, 34, #[.bool false, .string ⟨#[]⟩, .string ⟨#[]⟩, .bool false, .string ⟨#[]⟩, .string ⟨#[]⟩]), (bk16, 32, SL2 (al * al) (ah * ah)), (bk3, 34, VC (minQ (al * al) (ah * ah)) (maxQ (al * al) (ah * ah))), (bk1, 34, VC al ah)] _ := St.perm HS4 (List.perm_middle (l₁ := ([(bk16, 32, SL2 (al * al) (ah * ah)), (bk3, 34, VC (minQ (al * al) (ah * ah)) (maxQ (al * al) (ah * ah))), (bk1, 34, VC al ah)] : List Own)))
  refine wp_seq_text [] (StR.move (StR.no HPbk2)) ?_
  refine Seq.load rfl rfl rfl rfl (by repeat (first | exact mC | apply mT)) (n := 6) rfl (by kernel_rfl) ?_
  simp only [Act.put, nA, nB, nC]
  refine Seq.store rfl rfl rfl rfl rfl (by repeat (first | exact rS | refine rN (by assumption) ?_)) (n := 6) rfl rfl (by kernel_rfl) (VC_one _ _) ?_
  simp only [Act.put, nA, nB, nC]
  refine Seq.done fun ws5 hws => ?_
  have HS5 : St w [(bk2, 34, VC (minQ (al * al) (ah * ah)) (maxQ (al * al) (ah * ah))), (bk16, 32, SL2 (al * al) (ah * ah)), (bk3, 34, VC (minQ (al * al) (ah * ah)) (maxQ (al * al) (ah * ah))), (bk1, 34, VC al ah)] ws5 := hws.list1 (by repeat (first | exact rS | refine rN (by assumption) ?_))
  clear HS4 hws HPbk2
  go_wp2_with fail
  exact ret_own rfl rfl rfl HS5 (by repeat (first | exact mC | apply mT)) (n := 6) rfl (by kernel_rfl) ⟨rfl, HS5.below⟩
end Go.Proofs.YtdhhbpnnahdofaaDoor
