/- gantkeep1: boxed, square; apart.Boxes with any outcome (gridc.py). -/
import Derived.Test.YtoejojfjiikogaaGreatDoorAp9
import Derived.Test.YtoejojfjiikogaaGreatDoorSp6
import Derived.Test.YtoejojfjiikogaaGreatDoorRwA
import Derived.Test.YtoejojfjiikogaaGreatDoorRatR
import Derived.Test.YtoejojfjiikogaaGreatDoorRatT

namespace Go.Proofs.YtoejojfjiikogaaGreatDoor
open Go.RowKit
set_option linter.unusedVariables false
set_option linter.unusedSimpArgs false

theorem BC_open (a b c d : Rat) : ∃ (s0 s1 s2 s3 : Bool) (a0 d0 a1 d1 a2 d2 a3 d3 : ByteArray), BC a b c d = #[.bool s0, .string a0, .string d0, .bool s1, .string a1, .string d1, .bool s2, .string a2, .string d2, .bool s3, .string a3, .string d3] := ⟨_, _, _, _, _, _, _, _, _, _, _, _, rfl⟩
theorem Blk.c12 {w : World} {p : Nat} {t : TypeId} {v0 v1 v2 v3 v4 v5 v6 v7 v8 v9 v10 v11 : Value} (h : Blk w p t #[v0, v1, v2, v3, v4, v5, v6, v7, v8, v9, v10, v11]) : w.cell? ⟨p, 0, none⟩ = some v0 ∧ w.cell? ⟨p, 1, none⟩ = some v1 ∧ w.cell? ⟨p, 2, none⟩ = some v2 ∧ w.cell? ⟨p, 3, none⟩ = some v3 ∧ w.cell? ⟨p, 4, none⟩ = some v4 ∧ w.cell? ⟨p, 5, none⟩ = some v5 ∧ w.cell? ⟨p, 6, none⟩ = some v6 ∧ w.cell? ⟨p, 7, none⟩ = some v7 ∧ w.cell? ⟨p, 8, none⟩ = some v8 ∧ w.cell? ⟨p, 9, none⟩ = some v9 ∧ w.cell? ⟨p, 10, none⟩ = some v10 ∧ w.cell? ⟨p, 11, none⟩ = some v11 := by
  refine ⟨?_, ?_, ?_, ?_, ?_, ?_, ?_, ?_, ?_, ?_, ?_, ?_⟩ <;> (rw [h.cell]; rfl)
theorem le_fl {n : Int} {q : Rat} : n ≤ flQ q ↔ (n : Rat) ≤ q := by rw [flQ_eq]; exact Rat.le_floor_iff
theorem fl_lt {n : Int} {q : Rat} : flQ q < n ↔ q < (n : Rat) := by
  rw [← Int.not_le, le_fl]; grind
/-- the first cell of a direction -/
def loC (q : Rat) : Int := -flQ (-q) - 1
theorem le_loC {n : Int} {q : Rat} : loC q ≤ n ↔ q ≤ ((n + 1 : Int) : Rat) := by
  unfold loC
  have h := le_fl (n := -(n + 1)) (q := -q)
  have e : (((-(n + 1) : Int)) : Rat) = -((n + 1 : Int) : Rat) := Rat.intCast_neg _
  rw [e] at h
  constructor
  · intro h1
    have := h.1 (by omega)
    grind
  · intro h1
    have := h.2 (by grind)
    omega
theorem gc_in {lo hi p : Rat} (h1 : lo ≤ p) (h2 : p ≤ hi) : loC lo ≤ flQ p ∧ flQ p ≤ flQ hi := by
  constructor
  · rw [le_loC]
    have := (fl_lt (n := flQ p + 1) (q := p)).1 (by omega)
    grind
  · rw [le_fl]
    have := (le_fl (n := flQ p) (q := p)).1 (Int.le_refl _)
    grind
theorem loC_le {lo hi : Rat} (h : lo ≤ hi) : loC lo ≤ flQ hi := by
  have := gc_in (lo := lo) (hi := hi) (p := lo) (by grind) h
  omega
theorem flQ_bd {q : Rat} {a b : Int} (h1 : (a : Rat) ≤ q) (h2 : q ≤ (b : Rat)) : a ≤ flQ q ∧ flQ q ≤ b := by
  refine ⟨le_fl.2 h1, ?_⟩
  have := (fl_lt (n := b + 1) (q := q)).2 (by rw [Rat.intCast_add]; grind)
  omega
theorem loC_bd {q : Rat} {a b : Int} (h1 : (a : Rat) ≤ q) (h2 : q ≤ (b : Rat)) : a - 1 ≤ loC q ∧ loC q ≤ b := by
  unfold loC
  have e1 : ((-a : Int) : Rat) = -(a : Rat) := Rat.intCast_neg _
  have e2 : ((-b : Int) : Rat) = -(b : Rat) := Rat.intCast_neg _
  have := flQ_bd (q := -q) (a := -b) (b := -a) (by rw [e2]; grind) (by rw [e1]; grind)
  omega
/-- the numbers of cells of a box -/
def nX (lo hi : Rat) : Nat := (flQ hi - loC lo + 1).toNat
theorem nX_eq {lo hi : Rat} (h : lo ≤ hi) : ((nX lo hi : Nat) : Int) = flQ hi - loC lo + 1 := by
  have := loC_le h
  unfold nX; omega
theorem nX_le {lo hi : Rat} {a b : Int} (h : lo ≤ hi) (h1 : (a : Rat) ≤ lo) (h2 : hi ≤ (b : Rat)) : ((nX lo hi : Nat) : Int) ≤ b - a + 2 := by
  rw [nX_eq h]
  have g1 := (flQ_bd (q := hi) (a := a) (b := b) (by grind) h2).2
  have g2 := (loC_bd (q := lo) (a := a) (b := b) h1 (by grind)).1
  omega
set_option maxHeartbeats 4000000 in
set_option maxRecDepth 20000 in
theorem boxes_no1 {k : Nat} {a0 a1 a2 a3 b0 b1 b2 b3 : Rat} {W : World} {l : List Own} (hT : Tab W) (Za0 : Rz k a0) (Za1 : Rz k a1) (Za2 : Rz k a2) (Za3 : Rz k a3) (Zb0 : Rz k b0) (Zb1 : Rz k b1) (Zb2 : Rz k b2) (Zb3 : Rz k b3) (ha : a0 ≤ a2 ∧ a1 ≤ a3) (hb : b0 ≤ b2 ∧ b1 ≤ b3) (h1 : ¬ a0 ≤ b2) (hk : k ≤ 1000000000) (w : World) (h : St W l w) :
    Calls Tryz.prog 11 #[.agg (BC a0 a1 a2 a3), .agg (BC b0 b1 b2 b3)] w fun e w' => e = .returned (.bool false) ∧ Below w.heap.size w w' := by
  have HT := Lib.hid (tabS hT h); clear hT h
  have HO := Lib.hid (show a0 ≤ a2 ∧ a1 ≤ a3 ∧ b0 ≤ b2 ∧ b1 ≤ b3 from ⟨ha.1, ha.2, hb.1, hb.2⟩); clear ha hb
  have Z_a0 := Lib.hid Za0; clear Za0
  have Z_a1 := Lib.hid Za1; clear Za1
  have Z_a2 := Lib.hid Za2; clear Za2
  have Z_a3 := Lib.hid Za3; clear Za3
  have Z_b0 := Lib.hid Zb0; clear Zb0
  have Z_b1 := Lib.hid Zb1; clear Zb1
  have Z_b2 := Lib.hid Zb2; clear Zb2
  have Z_b3 := Lib.hid Zb3; clear Zb3
  obtain ⟨v1, hv1, r1⟩ : ∃ z, cmpQ a0 b2 = z ∧ decide (z ≤ 0) = false := ⟨_, rfl, decide_eq_false (fun h9 => h1 ((cmpQ_le _ _).1 h9))⟩
  have HV1 := Lib.hid hv1; clear hv1
  clear h1
  go_enter Tryz.func11, Tryz.ntmps11
  have HS : St w [] w := St.start
  go_upto_region 0 with (fail)
  refine wp_seq_text [] (StR.no HS) ?_
  refine Seq.box rfl rfl rfl (v := .agg (BC a0 a1 a2 a3)) (cs := BC a0 a1 a2 a3) rfl rfl ?_
  intro bk2 _ _ hbk2_r
  simp only [Act.put, nA, nB, nC]
  refine Seq.box rfl rfl rfl (v := .agg (BC b0 b1 b2 b3)) (cs := BC b0 b1 b2 b3) rfl rfl ?_
  intro bk3 _ _ hbk3_r
  obtain ⟨ne_bk3_bk2, hbk3_r⟩ := Reg.ne_of_put hbk3_r
  have ne_bk2_bk3 := Ne.symm ne_bk3_bk2
  simp only [Act.put, nA, nB, nC]
  refine Seq.pure rfl rfl (by intro w; go_simp; try rfl) ?_
  simp only [Act.put, nA, nB, nC]
  refine Seq.done fun ws1 hws => ?_
  have HS1 := hws.list2 (p := bk2) (q := bk3) (by repeat (first | exact rS | refine rN (by assumption) ?_)) (by repeat (first | exact rS | refine rN (by assumption) ?_)) (by assumption)
  clear HS hws
  go_upto_region 1 with (fail)
  refine wp_seq_text [] (StR.no HS1) ?_
  refine Seq.load rfl rfl rfl rfl (by repeat (first | exact mC | apply mT)) (n := 12) rfl (by kernel_rfl) ?_
  simp only [Act.put, nA, nB, nC]
  refine Seq.call rfl rfl rfl rfl (by kernel_rfl) (valid_q (k := k) HT.out Z_a0.out Z_a1.out Z_a2.out Z_a3.out HO.out.1 HO.out.2.1 (by omega)) ?_
  simp only [Act.put, nA, nB, nC]
  refine Seq.pure rfl rfl (by intro w; go_simp; try rfl) ?_
  simp only [Act.put, nA, nB, nC]
  refine Seq.load rfl rfl rfl rfl (by repeat (first | exact mC | apply mT)) (n := 12) rfl (by kernel_rfl) ?_
  simp only [Act.put, nA, nB, nC]
  refine Seq.call rfl rfl rfl rfl (by kernel_rfl) (valid_q (k := k) HT.out Z_b0.out Z_b1.out Z_b2.out Z_b3.out HO.out.2.2.1 HO.out.2.2.2 (by omega)) ?_
  simp only [Act.put, nA, nB, nC]
  iterate 4 (refine Seq.pure rfl rfl (by intro w; go_simp; try rfl) ?_; simp only [Act.put, nA, nB, nC])
  refine Seq.loadAt rfl rfl rfl rfl (by repeat (first | exact mC | apply mT)) (n := 3) (cs' := RC a0) (Nat.le_of_ble_eq_true rfl) (by kernel_rfl) rfl ?_
  simp only [Act.put, nA, nB, nC]
  iterate 2 (refine Seq.pure rfl rfl (by intro w; go_simp; try rfl) ?_; simp only [Act.put, nA, nB, nC])
  refine Seq.loadAt rfl rfl rfl rfl (by repeat (first | exact mC | apply mT)) (n := 3) (cs' := RC b2) (Nat.le_of_ble_eq_true rfl) (by kernel_rfl) rfl ?_
  simp only [Act.put, nA, nB, nC]
  refine Seq.call rfl rfl rfl rfl (by kernel_rfl) (cmp_q (k := (1 * k + 0)) HT.out (Z_a0.out.more (by omega)) (Z_b2.out.more (by omega)) HV1.out (by omega)) ?_
  simp only [Act.put, nA, nB, nC]
  iterate 3 (refine Seq.pure rfl rfl (by intro w; go_simp; try rfl) ?_; simp only [Act.put, nA, nB, nC])
  iterate 8 (refine Seq.nw rfl ?_; simp only [Act.put, nA, nB, nC])
  iterate 2 (refine Seq.pure rfl rfl (by intro w; go_simp; try rfl) ?_; simp only [Act.put, nA, nB, nC])
  iterate 8 (refine Seq.nw rfl ?_; simp only [Act.put, nA, nB, nC])
  iterate 2 (refine Seq.pure rfl rfl (by intro w; go_simp; try rfl) ?_; simp only [Act.put, nA, nB, nC])
  iterate 8 (refine Seq.nw rfl ?_; simp only [Act.put, nA, nB, nC])
  iterate 2 (refine Seq.pure rfl rfl (by intro w; go_simp; try rfl) ?_; simp only [Act.put, nA, nB, nC])
  refine Seq.done fun ws2 hws => ?_
  have HS2 := hws.st
  clear HS1 hws
  go_wp2_with fail
  go_ret
  exact ⟨rfl, HS2.below⟩
set_option maxHeartbeats 4000000 in
set_option maxRecDepth 20000 in
theorem boxes_no2 {k : Nat} {a0 a1 a2 a3 b0 b1 b2 b3 : Rat} {W : World} {l : List Own} (hT : Tab W) (Za0 : Rz k a0) (Za1 : Rz k a1) (Za2 : Rz k a2) (Za3 : Rz k a3) (Zb0 : Rz k b0) (Zb1 : Rz k b1) (Zb2 : Rz k b2) (Zb3 : Rz k b3) (ha : a0 ≤ a2 ∧ a1 ≤ a3) (hb : b0 ≤ b2 ∧ b1 ≤ b3) (h1 : a0 ≤ b2) (h2 : ¬ b0 ≤ a2) (hk : k ≤ 1000000000) (w : World) (h : St W l w) :
    Calls Tryz.prog 11 #[.agg (BC a0 a1 a2 a3), .agg (BC b0 b1 b2 b3)] w fun e w' => e = .returned (.bool false) ∧ Below w.heap.size w w' := by
  have HT := Lib.hid (tabS hT h); clear hT h
  have HO := Lib.hid (show a0 ≤ a2 ∧ a1 ≤ a3 ∧ b0 ≤ b2 ∧ b1 ≤ b3 from ⟨ha.1, ha.2, hb.1, hb.2⟩); clear ha hb
  have Z_a0 := Lib.hid Za0; clear Za0
  have Z_a1 := Lib.hid Za1; clear Za1
  have Z_a2 := Lib.hid Za2; clear Za2
  have Z_a3 := Lib.hid Za3; clear Za3
  have Z_b0 := Lib.hid Zb0; clear Zb0
  have Z_b1 := Lib.hid Zb1; clear Zb1
  have Z_b2 := Lib.hid Zb2; clear Zb2
  have Z_b3 := Lib.hid Zb3; clear Zb3
  obtain ⟨v1, hv1, r1⟩ : ∃ z, cmpQ a0 b2 = z ∧ decide (z ≤ 0) = true := ⟨_, rfl, decide_eq_true (cmp_le h1)⟩
  have HV1 := Lib.hid hv1; clear hv1
  obtain ⟨v2, hv2, r2⟩ : ∃ z, cmpQ b0 a2 = z ∧ decide (z ≤ 0) = false := ⟨_, rfl, decide_eq_false (fun h9 => h2 ((cmpQ_le _ _).1 h9))⟩
  have HV2 := Lib.hid hv2; clear hv2
  clear h1 h2
  go_enter Tryz.func11, Tryz.ntmps11
  have HS : St w [] w := St.start
  go_upto_region 0 with (fail)
  refine wp_seq_text [] (StR.no HS) ?_
  refine Seq.box rfl rfl rfl (v := .agg (BC a0 a1 a2 a3)) (cs := BC a0 a1 a2 a3) rfl rfl ?_
  intro bk2 _ _ hbk2_r
  simp only [Act.put, nA, nB, nC]
  refine Seq.box rfl rfl rfl (v := .agg (BC b0 b1 b2 b3)) (cs := BC b0 b1 b2 b3) rfl rfl ?_
  intro bk3 _ _ hbk3_r
  obtain ⟨ne_bk3_bk2, hbk3_r⟩ := Reg.ne_of_put hbk3_r
  have ne_bk2_bk3 := Ne.symm ne_bk3_bk2
  simp only [Act.put, nA, nB, nC]
  refine Seq.pure rfl rfl (by intro w; go_simp; try rfl) ?_
  simp only [Act.put, nA, nB, nC]
  refine Seq.done fun ws1 hws => ?_
  have HS1 := hws.list2 (p := bk2) (q := bk3) (by repeat (first | exact rS | refine rN (by assumption) ?_)) (by repeat (first | exact rS | refine rN (by assumption) ?_)) (by assumption)
  clear HS hws
  go_upto_region 1 with (fail)
  refine wp_seq_text [] (StR.no HS1) ?_
  refine Seq.load rfl rfl rfl rfl (by repeat (first | exact mC | apply mT)) (n := 12) rfl (by kernel_rfl) ?_
  simp only [Act.put, nA, nB, nC]
  refine Seq.call rfl rfl rfl rfl (by kernel_rfl) (valid_q (k := k) HT.out Z_a0.out Z_a1.out Z_a2.out Z_a3.out HO.out.1 HO.out.2.1 (by omega)) ?_
  simp only [Act.put, nA, nB, nC]
  refine Seq.pure rfl rfl (by intro w; go_simp; try rfl) ?_
  simp only [Act.put, nA, nB, nC]
  refine Seq.load rfl rfl rfl rfl (by repeat (first | exact mC | apply mT)) (n := 12) rfl (by kernel_rfl) ?_
  simp only [Act.put, nA, nB, nC]
  refine Seq.call rfl rfl rfl rfl (by kernel_rfl) (valid_q (k := k) HT.out Z_b0.out Z_b1.out Z_b2.out Z_b3.out HO.out.2.2.1 HO.out.2.2.2 (by omega)) ?_
  simp only [Act.put, nA, nB, nC]
  iterate 4 (refine Seq.pure rfl rfl (by intro w; go_simp; try rfl) ?_; simp only [Act.put, nA, nB, nC])
  refine Seq.loadAt rfl rfl rfl rfl (by repeat (first | exact mC | apply mT)) (n := 3) (cs' := RC a0) (Nat.le_of_ble_eq_true rfl) (by kernel_rfl) rfl ?_
  simp only [Act.put, nA, nB, nC]
  iterate 2 (refine Seq.pure rfl rfl (by intro w; go_simp; try rfl) ?_; simp only [Act.put, nA, nB, nC])
  refine Seq.loadAt rfl rfl rfl rfl (by repeat (first | exact mC | apply mT)) (n := 3) (cs' := RC b2) (Nat.le_of_ble_eq_true rfl) (by kernel_rfl) rfl ?_
  simp only [Act.put, nA, nB, nC]
  refine Seq.call rfl rfl rfl rfl (by kernel_rfl) (cmp_q (k := (1 * k + 0)) HT.out (Z_a0.out.more (by omega)) (Z_b2.out.more (by omega)) HV1.out (by omega)) ?_
  simp only [Act.put, nA, nB, nC]
  iterate 5 (refine Seq.pure rfl rfl (by intro w; go_simp; try rfl) ?_; simp only [Act.put, nA, nB, nC])
  refine Seq.loadAt rfl rfl rfl rfl (by repeat (first | exact mC | apply mT)) (n := 3) (cs' := RC b0) (Nat.le_of_ble_eq_true rfl) (by kernel_rfl) rfl ?_
  simp only [Act.put, nA, nB, nC]
  iterate 2 (refine Seq.pure rfl rfl (by intro w; go_simp; try rfl) ?_; simp only [Act.put, nA, nB, nC])
  refine Seq.loadAt rfl rfl rfl rfl (by repeat (first | exact mC | apply mT)) (n := 3) (cs' := RC a2) (Nat.le_of_ble_eq_true rfl) (by kernel_rfl) rfl ?_
  simp only [Act.put, nA, nB, nC]
  refine Seq.call rfl rfl rfl rfl (by kernel_rfl) (cmp_q (k := (1 * k + 0)) HT.out (Z_b0.out.more (by omega)) (Z_a2.out.more (by omega)) HV2.out (by omega)) ?_
  simp only [Act.put, nA, nB, nC]
  iterate 3 (refine Seq.pure rfl rfl (by intro w; go_simp; try rfl) ?_; simp only [Act.put, nA, nB, nC])
  iterate 8 (refine Seq.nw rfl ?_; simp only [Act.put, nA, nB, nC])
  iterate 2 (refine Seq.pure rfl rfl (by intro w; go_simp; try rfl) ?_; simp only [Act.put, nA, nB, nC])
  iterate 8 (refine Seq.nw rfl ?_; simp only [Act.put, nA, nB, nC])
  iterate 2 (refine Seq.pure rfl rfl (by intro w; go_simp; try rfl) ?_; simp only [Act.put, nA, nB, nC])
  refine Seq.done fun ws2 hws => ?_
  have HS2 := hws.st
  clear HS1 hws
  go_wp2_with fail
  go_ret
  exact ⟨rfl, HS2.below⟩
set_option maxHeartbeats 4000000 in
set_option maxRecDepth 20000 in
theorem boxes_no3 {k : Nat} {a0 a1 a2 a3 b0 b1 b2 b3 : Rat} {W : World} {l : List Own} (hT : Tab W) (Za0 : Rz k a0) (Za1 : Rz k a1) (Za2 : Rz k a2) (Za3 : Rz k a3) (Zb0 : Rz k b0) (Zb1 : Rz k b1) (Zb2 : Rz k b2) (Zb3 : Rz k b3) (ha : a0 ≤ a2 ∧ a1 ≤ a3) (hb : b0 ≤ b2 ∧ b1 ≤ b3) (h1 : a0 ≤ b2) (h2 : b0 ≤ a2) (h3 : ¬ a1 ≤ b3) (hk : k ≤ 1000000000) (w : World) (h : St W l w) :
    Calls Tryz.prog 11 #[.agg (BC a0 a1 a2 a3), .agg (BC b0 b1 b2 b3)] w fun e w' => e = .returned (.bool false) ∧ Below w.heap.size w w' := by
  have HT := Lib.hid (tabS hT h); clear hT h
  have HO := Lib.hid (show a0 ≤ a2 ∧ a1 ≤ a3 ∧ b0 ≤ b2 ∧ b1 ≤ b3 from ⟨ha.1, ha.2, hb.1, hb.2⟩); clear ha hb
  have Z_a0 := Lib.hid Za0; clear Za0
  have Z_a1 := Lib.hid Za1; clear Za1
  have Z_a2 := Lib.hid Za2; clear Za2
  have Z_a3 := Lib.hid Za3; clear Za3
  have Z_b0 := Lib.hid Zb0; clear Zb0
  have Z_b1 := Lib.hid Zb1; clear Zb1
  have Z_b2 := Lib.hid Zb2; clear Zb2
  have Z_b3 := Lib.hid Zb3; clear Zb3
  obtain ⟨v1, hv1, r1⟩ : ∃ z, cmpQ a0 b2 = z ∧ decide (z ≤ 0) = true := ⟨_, rfl, decide_eq_true (cmp_le h1)⟩
  have HV1 := Lib.hid hv1; clear hv1
  obtain ⟨v2, hv2, r2⟩ : ∃ z, cmpQ b0 a2 = z ∧ decide (z ≤ 0) = true := ⟨_, rfl, decide_eq_true (cmp_le h2)⟩
  have HV2 := Lib.hid hv2; clear hv2
  obtain ⟨v3, hv3, r3⟩ : ∃ z, cmpQ a1 b3 = z ∧ decide (z ≤ 0) = false := ⟨_, rfl, decide_eq_false (fun h9 => h3 ((cmpQ_le _ _).1 h9))⟩
  have HV3 := Lib.hid hv3; clear hv3
  clear h1 h2 h3
  go_enter Tryz.func11, Tryz.ntmps11
  have HS : St w [] w := St.start
  go_upto_region 0 with (fail)
  refine wp_seq_text [] (StR.no HS) ?_
  refine Seq.box rfl rfl rfl (v := .agg (BC a0 a1 a2 a3)) (cs := BC a0 a1 a2 a3) rfl rfl ?_
  intro bk2 _ _ hbk2_r
  simp only [Act.put, nA, nB, nC]
  refine Seq.box rfl rfl rfl (v := .agg (BC b0 b1 b2 b3)) (cs := BC b0 b1 b2 b3) rfl rfl ?_
  intro bk3 _ _ hbk3_r
  obtain ⟨ne_bk3_bk2, hbk3_r⟩ := Reg.ne_of_put hbk3_r
  have ne_bk2_bk3 := Ne.symm ne_bk3_bk2
  simp only [Act.put, nA, nB, nC]
  refine Seq.pure rfl rfl (by intro w; go_simp; try rfl) ?_
  simp only [Act.put, nA, nB, nC]
  refine Seq.done fun ws1 hws => ?_
  have HS1 := hws.list2 (p := bk2) (q := bk3) (by repeat (first | exact rS | refine rN (by assumption) ?_)) (by repeat (first | exact rS | refine rN (by assumption) ?_)) (by assumption)
  clear HS hws
  go_upto_region 1 with (fail)
  refine wp_seq_text [] (StR.no HS1) ?_
  refine Seq.load rfl rfl rfl rfl (by repeat (first | exact mC | apply mT)) (n := 12) rfl (by kernel_rfl) ?_
  simp only [Act.put, nA, nB, nC]
  refine Seq.call rfl rfl rfl rfl (by kernel_rfl) (valid_q (k := k) HT.out Z_a0.out Z_a1.out Z_a2.out Z_a3.out HO.out.1 HO.out.2.1 (by omega)) ?_
  simp only [Act.put, nA, nB, nC]
  refine Seq.pure rfl rfl (by intro w; go_simp; try rfl) ?_
  simp only [Act.put, nA, nB, nC]
  refine Seq.load rfl rfl rfl rfl (by repeat (first | exact mC | apply mT)) (n := 12) rfl (by kernel_rfl) ?_
  simp only [Act.put, nA, nB, nC]
  refine Seq.call rfl rfl rfl rfl (by kernel_rfl) (valid_q (k := k) HT.out Z_b0.out Z_b1.out Z_b2.out Z_b3.out HO.out.2.2.1 HO.out.2.2.2 (by omega)) ?_
  simp only [Act.put, nA, nB, nC]
  iterate 4 (refine Seq.pure rfl rfl (by intro w; go_simp; try rfl) ?_; simp only [Act.put, nA, nB, nC])
  refine Seq.loadAt rfl rfl rfl rfl (by repeat (first | exact mC | apply mT)) (n := 3) (cs' := RC a0) (Nat.le_of_ble_eq_true rfl) (by kernel_rfl) rfl ?_
  simp only [Act.put, nA, nB, nC]
  iterate 2 (refine Seq.pure rfl rfl (by intro w; go_simp; try rfl) ?_; simp only [Act.put, nA, nB, nC])
  refine Seq.loadAt rfl rfl rfl rfl (by repeat (first | exact mC | apply mT)) (n := 3) (cs' := RC b2) (Nat.le_of_ble_eq_true rfl) (by kernel_rfl) rfl ?_
  simp only [Act.put, nA, nB, nC]
  refine Seq.call rfl rfl rfl rfl (by kernel_rfl) (cmp_q (k := (1 * k + 0)) HT.out (Z_a0.out.more (by omega)) (Z_b2.out.more (by omega)) HV1.out (by omega)) ?_
  simp only [Act.put, nA, nB, nC]
  iterate 5 (refine Seq.pure rfl rfl (by intro w; go_simp; try rfl) ?_; simp only [Act.put, nA, nB, nC])
  refine Seq.loadAt rfl rfl rfl rfl (by repeat (first | exact mC | apply mT)) (n := 3) (cs' := RC b0) (Nat.le_of_ble_eq_true rfl) (by kernel_rfl) rfl ?_
  simp only [Act.put, nA, nB, nC]
  iterate 2 (refine Seq.pure rfl rfl (by intro w; go_simp; try rfl) ?_; simp only [Act.put, nA, nB, nC])
  refine Seq.loadAt rfl rfl rfl rfl (by repeat (first | exact mC | apply mT)) (n := 3) (cs' := RC a2) (Nat.le_of_ble_eq_true rfl) (by kernel_rfl) rfl ?_
  simp only [Act.put, nA, nB, nC]
  refine Seq.call rfl rfl rfl rfl (by kernel_rfl) (cmp_q (k := (1 * k + 0)) HT.out (Z_b0.out.more (by omega)) (Z_a2.out.more (by omega)) HV2.out (by omega)) ?_
  simp only [Act.put, nA, nB, nC]
  iterate 5 (refine Seq.pure rfl rfl (by intro w; go_simp; try rfl) ?_; simp only [Act.put, nA, nB, nC])
  refine Seq.loadAt rfl rfl rfl rfl (by repeat (first | exact mC | apply mT)) (n := 3) (cs' := RC a1) (Nat.le_of_ble_eq_true rfl) (by kernel_rfl) rfl ?_
  simp only [Act.put, nA, nB, nC]
  iterate 2 (refine Seq.pure rfl rfl (by intro w; go_simp; try rfl) ?_; simp only [Act.put, nA, nB, nC])
  refine Seq.loadAt rfl rfl rfl rfl (by repeat (first | exact mC | apply mT)) (n := 3) (cs' := RC b3) (Nat.le_of_ble_eq_true rfl) (by kernel_rfl) rfl ?_
  simp only [Act.put, nA, nB, nC]
  refine Seq.call rfl rfl rfl rfl (by kernel_rfl) (cmp_q (k := (1 * k + 0)) HT.out (Z_a1.out.more (by omega)) (Z_b3.out.more (by omega)) HV3.out (by omega)) ?_
  simp only [Act.put, nA, nB, nC]
  iterate 3 (refine Seq.pure rfl rfl (by intro w; go_simp; try rfl) ?_; simp only [Act.put, nA, nB, nC])
  iterate 8 (refine Seq.nw rfl ?_; simp only [Act.put, nA, nB, nC])
  iterate 2 (refine Seq.pure rfl rfl (by intro w; go_simp; try rfl) ?_; simp only [Act.put, nA, nB, nC])
  refine Seq.done fun ws2 hws => ?_
  have HS2 := hws.st
  clear HS1 hws
  go_wp2_with fail
  go_ret
  exact ⟨rfl, HS2.below⟩
set_option maxHeartbeats 4000000 in
set_option maxRecDepth 20000 in
theorem boxes_no4 {k : Nat} {a0 a1 a2 a3 b0 b1 b2 b3 : Rat} {W : World} {l : List Own} (hT : Tab W) (Za0 : Rz k a0) (Za1 : Rz k a1) (Za2 : Rz k a2) (Za3 : Rz k a3) (Zb0 : Rz k b0) (Zb1 : Rz k b1) (Zb2 : Rz k b2) (Zb3 : Rz k b3) (ha : a0 ≤ a2 ∧ a1 ≤ a3) (hb : b0 ≤ b2 ∧ b1 ≤ b3) (h1 : a0 ≤ b2) (h2 : b0 ≤ a2) (h3 : a1 ≤ b3) (h4 : ¬ b1 ≤ a3) (hk : k ≤ 1000000000) (w : World) (h : St W l w) :
    Calls Tryz.prog 11 #[.agg (BC a0 a1 a2 a3), .agg (BC b0 b1 b2 b3)] w fun e w' => e = .returned (.bool false) ∧ Below w.heap.size w w' := by
  have HT := Lib.hid (tabS hT h); clear hT h
  have HO := Lib.hid (show a0 ≤ a2 ∧ a1 ≤ a3 ∧ b0 ≤ b2 ∧ b1 ≤ b3 from ⟨ha.1, ha.2, hb.1, hb.2⟩); clear ha hb
  have Z_a0 := Lib.hid Za0; clear Za0
  have Z_a1 := Lib.hid Za1; clear Za1
  have Z_a2 := Lib.hid Za2; clear Za2
  have Z_a3 := Lib.hid Za3; clear Za3
  have Z_b0 := Lib.hid Zb0; clear Zb0
  have Z_b1 := Lib.hid Zb1; clear Zb1
  have Z_b2 := Lib.hid Zb2; clear Zb2
  have Z_b3 := Lib.hid Zb3; clear Zb3
  obtain ⟨v1, hv1, r1⟩ : ∃ z, cmpQ a0 b2 = z ∧ decide (z ≤ 0) = true := ⟨_, rfl, decide_eq_true (cmp_le h1)⟩
  have HV1 := Lib.hid hv1; clear hv1
  obtain ⟨v2, hv2, r2⟩ : ∃ z, cmpQ b0 a2 = z ∧ decide (z ≤ 0) = true := ⟨_, rfl, decide_eq_true (cmp_le h2)⟩
  have HV2 := Lib.hid hv2; clear hv2
  obtain ⟨v3, hv3, r3⟩ : ∃ z, cmpQ a1 b3 = z ∧ decide (z ≤ 0) = true := ⟨_, rfl, decide_eq_true (cmp_le h3)⟩
  have HV3 := Lib.hid hv3; clear hv3
  obtain ⟨v4, hv4, r4⟩ : ∃ z, cmpQ b1 a3 = z ∧ decide (z ≤ 0) = false := ⟨_, rfl, decide_eq_false (fun h9 => h4 ((cmpQ_le _ _).1 h9))⟩
  have HV4 := Lib.hid hv4; clear hv4
  clear h1 h2 h3 h4
  go_enter Tryz.func11, Tryz.ntmps11
  have HS : St w [] w := St.start
  go_upto_region 0 with (fail)
  refine wp_seq_text [] (StR.no HS) ?_
  refine Seq.box rfl rfl rfl (v := .agg (BC a0 a1 a2 a3)) (cs := BC a0 a1 a2 a3) rfl rfl ?_
  intro bk2 _ _ hbk2_r
  simp only [Act.put, nA, nB, nC]
  refine Seq.box rfl rfl rfl (v := .agg (BC b0 b1 b2 b3)) (cs := BC b0 b1 b2 b3) rfl rfl ?_
  intro bk3 _ _ hbk3_r
  obtain ⟨ne_bk3_bk2, hbk3_r⟩ := Reg.ne_of_put hbk3_r
  have ne_bk2_bk3 := Ne.symm ne_bk3_bk2
  simp only [Act.put, nA, nB, nC]
  refine Seq.pure rfl rfl (by intro w; go_simp; try rfl) ?_
  simp only [Act.put, nA, nB, nC]
  refine Seq.done fun ws1 hws => ?_
  have HS1 := hws.list2 (p := bk2) (q := bk3) (by repeat (first | exact rS | refine rN (by assumption) ?_)) (by repeat (first | exact rS | refine rN (by assumption) ?_)) (by assumption)
  clear HS hws
  go_upto_region 1 with (fail)
  refine wp_seq_text [] (StR.no HS1) ?_
  refine Seq.load rfl rfl rfl rfl (by repeat (first | exact mC | apply mT)) (n := 12) rfl (by kernel_rfl) ?_
  simp only [Act.put, nA, nB, nC]
  refine Seq.call rfl rfl rfl rfl (by kernel_rfl) (valid_q (k := k) HT.out Z_a0.out Z_a1.out Z_a2.out Z_a3.out HO.out.1 HO.out.2.1 (by omega)) ?_
  simp only [Act.put, nA, nB, nC]
  refine Seq.pure rfl rfl (by intro w; go_simp; try rfl) ?_
  simp only [Act.put, nA, nB, nC]
  refine Seq.load rfl rfl rfl rfl (by repeat (first | exact mC | apply mT)) (n := 12) rfl (by kernel_rfl) ?_
  simp only [Act.put, nA, nB, nC]
  refine Seq.call rfl rfl rfl rfl (by kernel_rfl) (valid_q (k := k) HT.out Z_b0.out Z_b1.out Z_b2.out Z_b3.out HO.out.2.2.1 HO.out.2.2.2 (by omega)) ?_
  simp only [Act.put, nA, nB, nC]
  iterate 4 (refine Seq.pure rfl rfl (by intro w; go_simp; try rfl) ?_; simp only [Act.put, nA, nB, nC])
  refine Seq.loadAt rfl rfl rfl rfl (by repeat (first | exact mC | apply mT)) (n := 3) (cs' := RC a0) (Nat.le_of_ble_eq_true rfl) (by kernel_rfl) rfl ?_
  simp only [Act.put, nA, nB, nC]
  iterate 2 (refine Seq.pure rfl rfl (by intro w; go_simp; try rfl) ?_; simp only [Act.put, nA, nB, nC])
  refine Seq.loadAt rfl rfl rfl rfl (by repeat (first | exact mC | apply mT)) (n := 3) (cs' := RC b2) (Nat.le_of_ble_eq_true rfl) (by kernel_rfl) rfl ?_
  simp only [Act.put, nA, nB, nC]
  refine Seq.call rfl rfl rfl rfl (by kernel_rfl) (cmp_q (k := (1 * k + 0)) HT.out (Z_a0.out.more (by omega)) (Z_b2.out.more (by omega)) HV1.out (by omega)) ?_
  simp only [Act.put, nA, nB, nC]
  iterate 5 (refine Seq.pure rfl rfl (by intro w; go_simp; try rfl) ?_; simp only [Act.put, nA, nB, nC])
  refine Seq.loadAt rfl rfl rfl rfl (by repeat (first | exact mC | apply mT)) (n := 3) (cs' := RC b0) (Nat.le_of_ble_eq_true rfl) (by kernel_rfl) rfl ?_
  simp only [Act.put, nA, nB, nC]
  iterate 2 (refine Seq.pure rfl rfl (by intro w; go_simp; try rfl) ?_; simp only [Act.put, nA, nB, nC])
  refine Seq.loadAt rfl rfl rfl rfl (by repeat (first | exact mC | apply mT)) (n := 3) (cs' := RC a2) (Nat.le_of_ble_eq_true rfl) (by kernel_rfl) rfl ?_
  simp only [Act.put, nA, nB, nC]
  refine Seq.call rfl rfl rfl rfl (by kernel_rfl) (cmp_q (k := (1 * k + 0)) HT.out (Z_b0.out.more (by omega)) (Z_a2.out.more (by omega)) HV2.out (by omega)) ?_
  simp only [Act.put, nA, nB, nC]
  iterate 5 (refine Seq.pure rfl rfl (by intro w; go_simp; try rfl) ?_; simp only [Act.put, nA, nB, nC])
  refine Seq.loadAt rfl rfl rfl rfl (by repeat (first | exact mC | apply mT)) (n := 3) (cs' := RC a1) (Nat.le_of_ble_eq_true rfl) (by kernel_rfl) rfl ?_
  simp only [Act.put, nA, nB, nC]
  iterate 2 (refine Seq.pure rfl rfl (by intro w; go_simp; try rfl) ?_; simp only [Act.put, nA, nB, nC])
  refine Seq.loadAt rfl rfl rfl rfl (by repeat (first | exact mC | apply mT)) (n := 3) (cs' := RC b3) (Nat.le_of_ble_eq_true rfl) (by kernel_rfl) rfl ?_
  simp only [Act.put, nA, nB, nC]
  refine Seq.call rfl rfl rfl rfl (by kernel_rfl) (cmp_q (k := (1 * k + 0)) HT.out (Z_a1.out.more (by omega)) (Z_b3.out.more (by omega)) HV3.out (by omega)) ?_
  simp only [Act.put, nA, nB, nC]
  iterate 5 (refine Seq.pure rfl rfl (by intro w; go_simp; try rfl) ?_; simp only [Act.put, nA, nB, nC])
  refine Seq.loadAt rfl rfl rfl rfl (by repeat (first | exact mC | apply mT)) (n := 3) (cs' := RC b1) (Nat.le_of_ble_eq_true rfl) (by kernel_rfl) rfl ?_
  simp only [Act.put, nA, nB, nC]
  iterate 2 (refine Seq.pure rfl rfl (by intro w; go_simp; try rfl) ?_; simp only [Act.put, nA, nB, nC])
  refine Seq.loadAt rfl rfl rfl rfl (by repeat (first | exact mC | apply mT)) (n := 3) (cs' := RC a3) (Nat.le_of_ble_eq_true rfl) (by kernel_rfl) rfl ?_
  simp only [Act.put, nA, nB, nC]
  refine Seq.call rfl rfl rfl rfl (by kernel_rfl) (cmp_q (k := (1 * k + 0)) HT.out (Z_b1.out.more (by omega)) (Z_a3.out.more (by omega)) HV4.out (by omega)) ?_
  simp only [Act.put, nA, nB, nC]
  iterate 3 (refine Seq.pure rfl rfl (by intro w; go_simp; try rfl) ?_; simp only [Act.put, nA, nB, nC])
  refine Seq.done fun ws2 hws => ?_
  have HS2 := hws.st
  clear HS1 hws
  go_wp2_with fail
  go_ret
  exact ⟨rfl, HS2.below⟩
theorem boxes_b {k : Nat} {a0 a1 a2 a3 b0 b1 b2 b3 : Rat} {r : Bool} {W : World} {l : List Own} (hT : Tab W) (Za0 : Rz k a0) (Za1 : Rz k a1) (Za2 : Rz k a2) (Za3 : Rz k a3) (Zb0 : Rz k b0) (Zb1 : Rz k b1) (Zb2 : Rz k b2) (Zb3 : Rz k b3) (ha : a0 ≤ a2 ∧ a1 ≤ a3) (hb : b0 ≤ b2 ∧ b1 ≤ b3) (hr : decide (a0 ≤ b2 ∧ b0 ≤ a2 ∧ a1 ≤ b3 ∧ b1 ≤ a3) = r) (hk : k ≤ 1000000000) (w : World) (h : St W l w) :
    Calls Tryz.prog 11 #[.agg (BC a0 a1 a2 a3), .agg (BC b0 b1 b2 b3)] w fun e w' => e = .returned (.bool r) ∧ Below w.heap.size w w' := by
  by_cases h1 : a0 ≤ b2
  · by_cases h2 : b0 ≤ a2
    · by_cases h3 : a1 ≤ b3
      · by_cases h4 : b1 ≤ a3
        · rw [decide_eq_true ⟨h1, h2, h3, h4⟩] at hr; subst hr
          exact boxes_q hT Za0 Za1 Za2 Za3 Zb0 Zb1 Zb2 Zb3 ha hb h1 h2 h3 h4 hk w h
        · rw [decide_eq_false (fun g => h4 g.2.2.2)] at hr; subst hr
          exact boxes_no4 hT Za0 Za1 Za2 Za3 Zb0 Zb1 Zb2 Zb3 ha hb h1 h2 h3 h4 hk w h
      · rw [decide_eq_false (fun g => h3 g.2.2.1)] at hr; subst hr
        exact boxes_no3 hT Za0 Za1 Za2 Za3 Zb0 Zb1 Zb2 Zb3 ha hb h1 h2 h3 hk w h
    · rw [decide_eq_false (fun g => h2 g.2.1)] at hr; subst hr
      exact boxes_no2 hT Za0 Za1 Za2 Za3 Zb0 Zb1 Zb2 Zb3 ha hb h1 h2 hk w h
  · rw [decide_eq_false (fun g => h1 g.1)] at hr; subst hr
    exact boxes_no1 hT Za0 Za1 Za2 Za3 Zb0 Zb1 Zb2 Zb3 ha hb h1 hk w h
set_option maxHeartbeats 2000000 in
set_option maxRecDepth 20000 in
theorem boxed_q {x y u v : Int} {z0 z1 z2 z3 : Rat} {W : World} {l : List Own} (hT : Tab W) (hx : (-9223372036854775808 ≤ x ∧ x ≤ 9223372036854775807)) (hy : (-9223372036854775808 ≤ y ∧ y ≤ 9223372036854775807)) (hu : (-9223372036854775808 ≤ u ∧ u ≤ 9223372036854775807)) (hv : (-9223372036854775808 ≤ v ∧ v ≤ 9223372036854775807)) (hz0 : minQ (ratMq x) (ratMq y) = z0) (hz1 : minQ (ratMq u) (ratMq v) = z1) (hz2 : maxQ (ratMq x) (ratMq y) = z2) (hz3 : maxQ (ratMq u) (ratMq v) = z3) (w : World) (h : St W l w) :
    Calls Tryz.prog 8 #[.int .i64 x, .int .i64 y, .int .i64 u, .int .i64 v] w fun e w' => e = .returned (.agg (BC z0 z1 z2 z3)) ∧ Below w.heap.size w w' := by
  subst hz0 hz1 hz2 hz3
  have HT := Lib.hid (tabS hT h); clear hT h
  have HIx := Lib.hid hx; clear hx
  have HIy := Lib.hid hy; clear hy
  have HIu := Lib.hid hu; clear hu
  have HIv := Lib.hid hv; clear hv
  go_enter Tryz.func8, Tryz.ntmps8
  have HS : St w [] w := St.start
  go_upto_region 0 with (fail)
  refine wp_seq_text [] (StR.no HS) ?_
  refine Seq.alloc rfl rfl rfl (z := .agg (#[.bool false, .string ⟨#[]⟩, .string ⟨#[]⟩, .bool false, .string ⟨#[]⟩, .string ⟨#[]⟩, .bool false, .string ⟨#[]⟩, .string ⟨#[]⟩, .bool false, .string ⟨#[]⟩, .string ⟨#[]⟩])) (by kernel_rfl) rfl ?_
  intro bk8 _ _ hbk8_r
  simp only [Act.put, nA, nB, nC]
  refine Seq.done fun ws1 hws => ?_
  have HS1 := hws.list1 (p := bk8) (by repeat (first | exact rS | refine rN (by assumption) ?_))
  clear HS hws
  go_upto_region 1 with (fail)
  refine wp_seq_text [] (StR.no HS1) ?_
  iterate 2 (refine Seq.pure rfl rfl (by intro w; go_simp; try rfl) ?_; simp only [Act.put, nA, nB, nC])
  refine Seq.call rfl rfl rfl rfl (by kernel_rfl) (made_sq HT.out HIx.out HIy.out rfl rfl) ?_
  simp only [Act.put, nA, nB, nC]
  iterate 2 (refine Seq.pure rfl rfl (by intro w; go_simp; try rfl) ?_; simp only [Act.put, nA, nB, nC])
  refine Seq.call rfl rfl rfl rfl (by kernel_rfl) (made_sq HT.out HIu.out HIv.out rfl rfl) ?_
  simp only [Act.put, nA, nB, nC]
  refine Seq.alloc rfl rfl rfl (z := .agg (SW rz0 rz0)) (by kernel_rfl) rfl ?_
  intro bk9 _ _ hbk9_r
  simp only [Act.put, nA, nB, nC]
  refine Seq.alloc rfl rfl rfl (z := .agg (SW rz0 rz0)) (by kernel_rfl) rfl ?_
  intro bk10 _ _ hbk10_r
  obtain ⟨ne_bk10_bk9, hbk10_r⟩ := Reg.ne_of_put hbk10_r
  have ne_bk9_bk10 := Ne.symm ne_bk10_bk9
  simp only [Act.put, nA, nB, nC]
  refine Seq.store rfl rfl rfl rfl rfl (by repeat (first | exact rS | refine rN (by assumption) ?_)) (n := 6) rfl rfl (by kernel_rfl) (VC_one _ _) ?_
  simp only [Act.put, nA, nB, nC]
  refine Seq.store rfl rfl rfl rfl rfl (by repeat (first | exact rS | refine rN (by assumption) ?_)) (n := 6) rfl rfl (by kernel_rfl) (VC_one _ _) ?_
  simp only [Act.put, nA, nB, nC]
  refine Seq.done fun ws2 hws => ?_
  have HS2 := hws.list2 (p := bk9) (q := bk10) (by repeat (first | exact rS | refine rN (by assumption) ?_)) (by repeat (first | exact rS | refine rN (by assumption) ?_)) (by assumption)
  clear HS1 hws
  go_upto_region 2 with (fail)
  have HPbk8 := HS2.f2
  refine wp_seq_text [] (StR.move (StR.no HPbk8)) ?_
  refine Seq.pure rfl rfl (by intro w; go_simp; try rfl) ?_
  simp only [Act.put, nA, nB, nC]
  refine Seq.loadAt rfl rfl rfl rfl (by repeat (first | exact mC | apply mT)) (n := 3) (cs' := RC (minQ (ratMq x) (ratMq y))) (Nat.le_of_ble_eq_true rfl) (by kernel_rfl) rfl ?_
  simp only [Act.put, nA, nB, nC]
  refine Seq.pure rfl rfl (by intro w; go_simp; try rfl) ?_
  simp only [Act.put, nA, nB, nC]
  refine Seq.loadAt rfl rfl rfl rfl (by repeat (first | exact mC | apply mT)) (n := 3) (cs' := RC (minQ (ratMq u) (ratMq v))) (Nat.le_of_ble_eq_true rfl) (by kernel_rfl) rfl ?_
  simp only [Act.put, nA, nB, nC]
  refine Seq.pure (v := .agg (VC (minQ (ratMq x) (ratMq y)) (minQ (ratMq u) (ratMq v)))) rfl rfl (fun w => bld_Vec rfl rfl rfl w) ?_
  simp only [Act.put, nA, nB, nC]
  refine Seq.pure rfl rfl (by intro w; go_simp; try rfl) ?_
  simp only [Act.put, nA, nB, nC]
  refine Seq.loadAt rfl rfl rfl rfl (by repeat (first | exact mC | apply mT)) (n := 3) (cs' := RC (maxQ (ratMq x) (ratMq y))) (Nat.le_of_ble_eq_true rfl) (by kernel_rfl) rfl ?_
  simp only [Act.put, nA, nB, nC]
  refine Seq.pure rfl rfl (by intro w; go_simp; try rfl) ?_
  simp only [Act.put, nA, nB, nC]
  refine Seq.loadAt rfl rfl rfl rfl (by repeat (first | exact mC | apply mT)) (n := 3) (cs' := RC (maxQ (ratMq u) (ratMq v))) (Nat.le_of_ble_eq_true rfl) (by kernel_rfl) rfl ?_
  simp only [Act.put, nA, nB, nC]
  refine Seq.pure (v := .agg (VC (maxQ (ratMq x) (ratMq y)) (maxQ (ratMq u) (ratMq v)))) rfl rfl (fun w => bld_Vec rfl rfl rfl w) ?_
  simp only [Act.put, nA, nB, nC]
  refine Seq.pure (v := .agg (BC (minQ (ratMq x) (ratMq y)) (minQ (ratMq u) (ratMq v)) (maxQ (ratMq x) (ratMq y)) (maxQ (ratMq u) (ratMq v)))) rfl rfl (fun w => bld_Box rfl rfl rfl w) ?_
  simp only [Act.put, nA, nB, nC]
  refine Seq.store rfl rfl rfl rfl rfl (by repeat (first | exact rS | refine rN (by assumption) ?_)) (n := 12) rfl rfl (by kernel_rfl) (BC_one _ _ _ _) ?_
  simp only [Act.put, nA, nB, nC]
  refine Seq.done fun ws3 hws => ?_
  have HS3 := hws.list1 (p := bk8) (by repeat (first | exact rS | refine rN (by assumption) ?_))
  clear HS2 hws HPbk8
  go_wp2_with fail
  exact ret_own rfl rfl rfl HS3 (by repeat (first | exact mC | apply mT)) (n := 12) rfl (by kernel_rfl) ⟨rfl, HS3.below⟩
end Go.Proofs.YtoejojfjiikogaaGreatDoor
