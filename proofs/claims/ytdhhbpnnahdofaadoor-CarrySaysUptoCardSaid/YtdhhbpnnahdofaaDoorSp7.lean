/- Joined texts. -/
import Derived.Test.YtdhhbpnnahdofaaDoorSp6
import Derived.Test.YtdhhbpnnahdofaaDoorThL
import Derived.LoopN

/- turn.CosSpan, SinSpan (printed by lawvec.py). -/
namespace Go.Proofs.YtdhhbpnnahdofaaDoor
open Go.RowKit
set_option linter.unusedVariables false
set_option linter.unusedSimpArgs false

theorem Rz.fC {k : Nat} {x : Rat} (h0 : 0 ≤ x) (hx : Rz k x) : Rz (4 * k + 10) (fC x) := by
  unfold Go.Proofs.YtdhhbpnnahdofaaDoor.fC
  exact ((Rz.one2.sub hx).div (Rz.one2.add hx) (by grind)).more (by omega)
theorem Rz.sLo {k : Nat} {l h : Rat} (hl : Rz k l) (hh : Rz k h) : Rz (8 * k + 10) (sLo l h) := by
  unfold Go.Proofs.YtdhhbpnnahdofaaDoor.sLo; split
  · exact Rz.neg1.more (by omega)
  · exact (Rz.sinT hl).min (Rz.sinT hh)
theorem Rz.sHi {k : Nat} {l h : Rat} (hl : Rz k l) (hh : Rz k h) : Rz (8 * k + 10) (sHi l h) := by
  unfold Go.Proofs.YtdhhbpnnahdofaaDoor.sHi; split
  · exact Rz.one2.more (by omega)
  · exact (Rz.sinT hl).max (Rz.sinT hh)
set_option maxHeartbeats 2000000 in
set_option maxRecDepth 20000 in
theorem cosf_q {k : Nat} {t : Rat} {z0 : Rat} {W : World} {l : List Own} (hT : Tab W) (Zt : Rz k t) (h0 : 0 ≤ t) (hz0 : fC t = z0) (hk : k ≤ 1000000000000) (w : World) (h : St W l w) :
    Calls Tryd.prog 145 #[.agg (RC t)] w fun e w' => e = .returned (.agg (RC z0)) ∧ Below w.heap.size w w' := by
  subst hz0
  have HT := Lib.hid (tabS hT h); clear hT h
  have Z_t := Lib.hid Zt; clear Zt
  go_enter Tryd.func145, Tryd.ntmps145
  have HS : St w [] w := St.start
  go_upto_region 0 with (fail)
  refine wp_seq_text [] (StR.no HS) ?_
  refine Seq.box rfl rfl rfl (v := .agg (RC t)) (cs := RC t) rfl rfl ?_
  intro bk1 _ _ hbk1_r
  simp only [Act.put, nA, nB, nC]
  refine Seq.alloc rfl rfl rfl (z := .agg #[.bool false, .string ⟨#[]⟩, .string ⟨#[]⟩]) (by kernel_rfl) rfl ?_
  intro bk2 _ _ hbk2_r
  obtain ⟨ne_bk2_bk1, hbk2_r⟩ := Reg.ne_of_put hbk2_r
  have ne_bk1_bk2 := Ne.symm ne_bk2_bk1
  simp only [Act.put, nA, nB, nC]
  refine Seq.done fun ws1 hws => ?_
  have HS1 : St w [(bk1, 32, RC t), (bk2, 32, #[.bool false, .string ⟨#[]⟩, .string ⟨#[]⟩])] ws1 := hws.list2 (by repeat (first | exact rS | refine rN (by assumption) ?_)) (by repeat (first | exact rS | refine rN (by assumption) ?_)) (by assumption)
  clear HS hws
  go_upto_region 1 with (fail)
  refine wp_seq [] (by kernel_rfl) (by kernel_rfl) Reg.fin_no (StR.no HS1) ?_
  refine Seq.call rfl rfl rfl rfl (by kernel_rfl) (of_q HT.out (by omega) (by omega) (show ((1 : Int) : Rat) = (1 : Rat) from rfl)) ?_
  simp only [Act.put, nA, nB, nC]
  refine Seq.load rfl rfl rfl rfl (by repeat (first | exact mC | apply mT)) (n := 3) rfl (by kernel_rfl) ?_
  simp only [Act.put, nA, nB, nC]
  refine Seq.call rfl rfl rfl rfl (by kernel_rfl) (sub_q (k := (1 * k + 2)) HT.out ((show Rz 2 (1 : Rat) from Rz.lit (z := 1) rfl (by decide)).more (by omega)) (Z_t.out.more (by omega)) rfl (by omega)) ?_
  simp only [Act.put, nA, nB, nC]
  refine Seq.call rfl rfl rfl rfl (by kernel_rfl) (of_q HT.out (by omega) (by omega) (show ((1 : Int) : Rat) = (1 : Rat) from rfl)) ?_
  simp only [Act.put, nA, nB, nC]
  refine Seq.load rfl rfl rfl rfl (by repeat (first | exact mC | apply mT)) (n := 3) rfl (by kernel_rfl) ?_
  simp only [Act.put, nA, nB, nC]
  refine Seq.call rfl rfl rfl rfl (by kernel_rfl) (add_q (k := (1 * k + 2)) HT.out ((show Rz 2 (1 : Rat) from Rz.lit (z := 1) rfl (by decide)).more (by omega)) (Z_t.out.more (by omega)) rfl (by omega)) ?_
  simp only [Act.put, nA, nB, nC]
  refine Seq.call rfl rfl rfl rfl (by kernel_rfl) (div_q (k := (2 * k + 5)) HT.out (((show Rz 2 (1 : Rat) from Rz.lit (z := 1) rfl (by decide)).sub Z_t.out).more (by omega)) (((show Rz 2 (1 : Rat) from Rz.lit (z := 1) rfl (by decide)).add Z_t.out).more (by omega)) (by have := h0; grind) rfl (by omega)) ?_
  simp only [Act.put, nA, nB, nC]
  refine Seq.pure rfl rfl (by intro w; go_simp; try rfl) ?_
  simp only [Act.put, nA, nB, nC]
  refine Seq.pure (v := .agg (RC (fC t))) rfl rfl (fun w => rfl) ?_
  simp only [Act.put, nA, nB, nC]
  refine Seq.pure (v := .int .i64 0) rfl rfl (fun w => rfl) ?_
  simp only [Act.put, nA, nB, nC]
  refine Seq.alloc rfl rfl rfl (z := .agg #[.bool false, .string ⟨#[]⟩, .string ⟨#[]⟩]) (by kernel_rfl) rfl ?_
  intro bk3 _ _ hbk3_r
  simp only [Act.put, nA, nB, nC]
  refine Seq.store rfl rfl rfl rfl rfl (by repeat (first | exact rS | refine rN (by assumption) ?_)) (n := 3) rfl rfl (by kernel_rfl) (RC_one _) ?_
  simp only [Act.put, nA, nB, nC]
  refine Seq.pure rfl rfl (by intro w; go_simp; try rfl) ?_
  simp only [Act.put, nA, nB, nC]
  refine Seq.done fun ws2 hws => ?_
  have HS2 : St w [(bk3, 32, RC (fC t)), (bk1, 32, RC t), (bk2, 32, #[.bool false, .string ⟨#[]⟩, .string ⟨#[]⟩])] ws2 := hws.list1 (by repeat (first | exact rS | refine rN (by assumption) ?_))
  clear HS1 hws
  go_upto_region 2 with (fail)
  have HPbk2 : St w [(bk2, 32, #[.bool false, .string ⟨#[]⟩, .string ⟨#[]⟩]), (bk3, 32, RC (fC t)), (bk1, 32, RC t)] _ := St.perm HS2 (List.perm_middle (l₁ := ([(bk3, 32, RC (fC t)), (bk1, 32, RC t)] : List Own)))
  refine wp_seq_text [] (StR.move (StR.no HPbk2)) ?_
  refine Seq.load rfl rfl rfl rfl (by repeat (first | exact mC | apply mT)) (n := 3) rfl (by kernel_rfl) ?_
  simp only [Act.put, nA, nB, nC]
  refine Seq.store rfl rfl rfl rfl rfl (by repeat (first | exact rS | refine rN (by assumption) ?_)) (n := 3) rfl rfl (by kernel_rfl) (RC_one _) ?_
  simp only [Act.put, nA, nB, nC]
  refine Seq.done fun ws3 hws => ?_
  have HS3 : St w [(bk2, 32, RC (fC t)), (bk3, 32, RC (fC t)), (bk1, 32, RC t)] ws3 := hws.list1 (by repeat (first | exact rS | refine rN (by assumption) ?_))
  clear HS2 hws HPbk2
  go_wp2_with fail
  exact ret_own rfl rfl rfl HS3 (by repeat (first | exact mC | apply mT)) (n := 3) rfl (by kernel_rfl) ⟨rfl, HS3.below⟩
theorem mx_nn (l h : Rat) : 0 ≤ maxQ (l * l) (h * h) := by
  have a := sq_nonneg l
  have b := le_max_l (l * l) (h * h)
  grind
set_option maxHeartbeats 2000000 in
set_option maxRecDepth 20000 in
theorem scos_q {k : Nat} {al ah z0 z1 : Rat} {W : World} {l : List Own} (hT : Tab W) (Zal : Rz k al) (Zah : Rz k ah) (hlea : al ≤ ah) (hz0 : fC (maxQ (al * al) (ah * ah)) = z0) (hz1 : fC (sqLo al ah) = z1) (hk : k ≤ 100000000000) (w : World) (h : St W l w) :
    Calls Tryd.prog 91 #[.agg (VC al ah)] w fun e w' => e = .returned (.agg (VC z0 z1)) ∧ Below w.heap.size w w' := by
  subst hz0
  subst hz1
  have HT := Lib.hid (tabS hT h); clear hT h
  have Z_al := Lib.hid Zal; clear Zal
  have Z_ah := Lib.hid Zah; clear Zah
  go_enter Tryd.func91, Tryd.ntmps91
  have HS : St w [] w := St.start
  go_upto_region 0 with (fail)
  refine wp_seq_text [] (StR.no HS) ?_
  refine Seq.box rfl rfl rfl (v := .agg (VC al ah)) (cs := VC al ah) rfl rfl ?_
  intro bk1 _ _ hbk1_r
  simp only [Act.put, nA, nB, nC]
  refine Seq.alloc rfl rfl rfl (z := .agg #[.bool false, .string ⟨#[]⟩, .string ⟨#[]⟩, .bool false, .string ⟨#[]⟩, .string ⟨#[]⟩]) (by kernel_rfl) rfl ?_
  intro bk2 _ _ hbk2_r
  obtain ⟨ne_bk2_bk1, hbk2_r⟩ := Reg.ne_of_put hbk2_r
  have ne_bk1_bk2 := Ne.symm ne_bk2_bk1
  simp only [Act.put, nA, nB, nC]
  refine Seq.done fun ws1 hws => ?_
  have HS1 : St w [(bk1, 34, VC al ah), (bk2, 34, #[.bool false, .string ⟨#[]⟩, .string ⟨#[]⟩, .bool false, .string ⟨#[]⟩, .string ⟨#[]⟩])] ws1 := hws.list2 (by repeat (first | exact rS | refine rN (by assumption) ?_)) (by repeat (first | exact rS | refine rN (by assumption) ?_)) (by assumption)
  clear HS hws
  go_upto_region 1 with (fail)
  refine wp_seq_text [] (StR.no HS1) ?_
  refine Seq.load rfl rfl rfl rfl (by repeat (first | exact mC | apply mT)) (n := 6) rfl (by kernel_rfl) ?_
  simp only [Act.put, nA, nB, nC]
  refine Seq.call rfl rfl rfl rfl (by kernel_rfl) (ssq_q (k := (1 * k + 0)) HT.out (Z_al.out.more (by omega)) (Z_ah.out.more (by omega)) hlea rfl rfl (by omega)) ?_
  simp only [Act.put, nA, nB, nC]
  refine Seq.alloc rfl rfl rfl (z := .agg #[.bool false, .string ⟨#[]⟩, .string ⟨#[]⟩, .bool false, .string ⟨#[]⟩, .string ⟨#[]⟩]) (by kernel_rfl) rfl ?_
  intro bk3 _ _ hbk3_r
  simp only [Act.put, nA, nB, nC]
  refine Seq.store rfl rfl rfl rfl rfl (by repeat (first | exact rS | refine rN (by assumption) ?_)) (n := 6) rfl rfl (by kernel_rfl) (VC_one _ _) ?_
  simp only [Act.put, nA, nB, nC]
  refine Seq.done fun ws2 hws => ?_
  have HS2 : St w [(bk3, 34, VC (sqLo al ah) (maxQ (al * al) (ah * ah))), (bk1, 34, VC al ah), (bk2, 34, #[.bool false, .string ⟨#[]⟩, .string ⟨#[]⟩, .bool false, .string ⟨#[]⟩, .string ⟨#[]⟩])] ws2 := hws.list1 (by repeat (first | exact rS | refine rN (by assumption) ?_))
  clear HS1 hws
  go_upto_region 2 with (fail)
  refine wp_seq_text [] (StR.no HS2) ?_
  refine Seq.pure rfl rfl (by intro w; go_simp; try rfl) ?_
  simp only [Act.put, nA, nB, nC]
  refine Seq.done fun ws3 hws => ?_
  have HS3 := hws.st
  clear HS2 hws
  go_upto_region 3 with (fail)
  have HPbk2 : St w [(bk2, 34, #[.bool false, .string ⟨#[]⟩, .string ⟨#[]⟩, .bool false, .string ⟨#[]⟩, .string ⟨#[]⟩]), (bk3, 34, VC (sqLo al ah) (maxQ (al * al) (ah * ah))), (bk1, 34, VC al ah)] _ := St.perm HS3 (List.perm_middle (l₁ := ([(bk3, 34, VC (sqLo al ah) (maxQ (al * al) (ah * ah))), (bk1, 34, VC al ah)] : List Own)))
  refine wp_seq [] (by kernel_rfl) (by kernel_rfl) (Reg.fin.put Reg.fin_no _ _) (StR.move (StR.no HPbk2)) ?_
  iterate 2 (refine Seq.pure rfl rfl (by intro w; go_simp; try rfl) ?_; simp only [Act.put, nA, nB, nC])
  refine Seq.loadAt rfl rfl rfl rfl (by repeat (first | exact mC | apply mT)) (n := 3) (cs' := RC (maxQ (al * al) (ah * ah))) (Nat.le_of_ble_eq_true rfl) (by kernel_rfl) rfl ?_
  simp only [Act.put, nA, nB, nC]
  refine Seq.callV rfl rfl rfl rfl rfl (by kernel_rfl) (cosf_q (k := (2 * k + 0)) HT.out ((Rz.max (k := (2 * k + 0)) ((Z_al.out.mul Z_al.out).more (by omega)) ((Z_ah.out.mul Z_ah.out).more (by omega))).more (by omega)) (mx_nn al ah) rfl (by omega)) ?_
  simp only [Act.put, nA, nB, nC]
  iterate 2 (refine Seq.pure rfl rfl (by intro w; go_simp; try rfl) ?_; simp only [Act.put, nA, nB, nC])
  refine Seq.loadAt rfl rfl rfl rfl (by repeat (first | exact mC | apply mT)) (n := 3) (cs' := RC (sqLo al ah)) (Nat.le_of_ble_eq_true rfl) (by kernel_rfl) rfl ?_
  simp only [Act.put, nA, nB, nC]
  refine Seq.callV rfl rfl rfl rfl rfl (by kernel_rfl) (cosf_q (k := (2 * k + 2)) HT.out ((Rz.sqLo (k := (1 * k + 0)) (Z_al.out.more (by omega)) (Z_ah.out.more (by omega))).more (by omega)) (sqLo_nonneg al ah) rfl (by omega)) ?_
  simp only [Act.put, nA, nB, nC]
  refine Seq.pure (v := .agg (VC (fC (maxQ (al * al) (ah * ah))) (fC (sqLo al ah)))) rfl rfl (fun w => bld_Span rfl rfl rfl w) ?_
  simp only [Act.put, nA, nB, nC]
  refine Seq.store rfl rfl rfl rfl rfl (by repeat (first | exact rS | refine rN (by assumption) ?_)) (n := 6) rfl rfl (by kernel_rfl) (VC_one _ _) ?_
  simp only [Act.put, nA, nB, nC]
  refine Seq.done fun ws4 hws => ?_
  have HS4 : St w [(bk2, 34, VC (fC (maxQ (al * al) (ah * ah))) (fC (sqLo al ah))), (bk3, 34, VC (sqLo al ah) (maxQ (al * al) (ah * ah))), (bk1, 34, VC al ah)] ws4 := hws.list1 (by repeat (first | exact rS | refine rN (by assumption) ?_))
  clear HS3 hws HPbk2
  go_wp2_with fail
  exact ret_own rfl rfl rfl HS4 (by repeat (first | exact mC | apply mT)) (n := 6) rfl (by kernel_rfl) ⟨rfl, HS4.below⟩
set_option maxHeartbeats 4000000 in
set_option maxRecDepth 20000 in
theorem ssin_yy {k : Nat} {al ah : Rat} {W : World} {l : List Own} (hT : Tab W) (Zal : Rz k al) (Zah : Rz k ah) (hlea : al ≤ ah) (h1 : (al ≤ -1 ∧ -1 ≤ ah)) (h2 : (al ≤ 1 ∧ 1 ≤ ah)) (hk : k ≤ 1000000000) (w : World) (h : St W l w) :
    Calls Tryd.prog 92 #[.agg (VC al ah)] w fun e w' => e = .returned (.agg (VC (-1) (1))) ∧ Below w.heap.size w w' := by
  have HT := Lib.hid (tabS hT h); clear hT h
  have Z_al := Lib.hid Zal; clear Zal
  have Z_ah := Lib.hid Zah; clear Zah
  have H1 := Lib.hid (show decide (al ≤ (-1 : Rat) ∧ (-1 : Rat) ≤ ah) = true from decide_eq_true h1); clear h1
  have H2 := Lib.hid (show decide (al ≤ (1 : Rat) ∧ (1 : Rat) ≤ ah) = true from decide_eq_true h2); clear h2
  have HLE := Lib.hid hlea; clear hlea
  obtain ⟨m0, hm0⟩ : ∃ r_, minQ (sinT al) (sinT ah) = r_ := ⟨_, rfl⟩
  obtain ⟨m1, hm1⟩ : ∃ r_, maxQ (sinT al) (sinT ah) = r_ := ⟨_, rfl⟩
  have Z_m0 := Lib.hid (show Rz (8 * k + 10) m0 from hm0 ▸ (Rz.sinT Z_al.out).min (Rz.sinT Z_ah.out))
  have Z_m1 := Lib.hid (show Rz (8 * k + 10) m1 from hm1 ▸ (Rz.sinT Z_al.out).max (Rz.sinT Z_ah.out))
  have g0 : -1 ≤ m0 := hm0 ▸ le_min (sin_ge al) (sin_ge ah)
  have g1 : m1 ≤ 1 := hm1 ▸ max_le (sin_le1 al) (sin_le1 ah)
  have g2 : m0 ≤ m1 := hm0 ▸ hm1 ▸ min_le_max _ _
  have HJ := Lib.hid (show m0 ≤ m1 ∧ minQ m0 (-1) = -1 ∧ maxQ m1 (-1) = m1 ∧ (minQ m0 1 = m0 ∧ minQ (-1) 1 = -1) ∧ (-1 : Rat) ≤ m1 ∧ maxQ m1 1 = 1 ∧ m0 ≤ 1 from
    ⟨g2, (jm g0 g1).1, (jx (a := m1) (b := m1) (by grind) g1).1, ⟨(jx (a := m0) (b := m0) g0 (by grind)).2, (jx (a := -1) (b := -1) Rat.le_refl (by grind)).2⟩, by grind, (jm g0 g1).2, by grind⟩)
  have HX := Lib.hid (show (-1 : Rat) ≤ (1 : Rat) from by grind)
  clear g0 g1 g2
  have HM := Lib.hid (And.intro hm0 hm1)
  clear hm0 hm1
  go_enter Tryd.func92, Tryd.ntmps92
  have HS : St w [] w := St.start
  go_upto_region 0 with (fail)
  refine wp_seq_text [] (StR.no HS) ?_
  refine Seq.box rfl rfl rfl (v := .agg (VC al ah)) (cs := VC al ah) rfl rfl ?_
  intro bk1 _ _ hbk1_r
  simp only [Act.put, nA, nB, nC]
  refine Seq.alloc rfl rfl rfl (z := .agg #[.bool false, .string ⟨#[]⟩, .string ⟨#[]⟩, .bool false, .string ⟨#[]⟩, .string ⟨#[]⟩]) (by kernel_rfl) rfl ?_
  intro bk2 _ _ hbk2_r
  obtain ⟨ne_bk2_bk1, hbk2_r⟩ := Reg.ne_of_put hbk2_r
  have ne_bk1_bk2 := Ne.symm ne_bk2_bk1
  simp only [Act.put, nA, nB, nC]
  refine Seq.done fun ws1 hws => ?_
  have HS1 : St w [(bk1, 34, VC al ah), (bk2, 34, #[.bool false, .string ⟨#[]⟩, .string ⟨#[]⟩, .bool false, .string ⟨#[]⟩, .string ⟨#[]⟩])] ws1 := hws.list2 (by repeat (first | exact rS | refine rN (by assumption) ?_)) (by repeat (first | exact rS | refine rN (by assumption) ?_)) (by assumption)
  clear HS hws
  go_upto_region 1 with (fail)
  refine wp_seq_text [0, 2] (StR.move (StR.no HS1)) ?_
  refine Seq.get rfl rfl rfl rfl (by repeat (first | exact rS | refine rN (by assumption) ?_)) (n := 6) rfl (by kernel_rfl) ?_
  simp only [Act.put, nA, nB, nC]
  refine Seq.get rfl rfl rfl rfl (by repeat (first | exact rS | refine rN (by assumption) ?_)) (n := 6) rfl (by kernel_rfl) ?_
  simp only [Act.put, nA, nB, nC]
  refine Seq.call rfl rfl rfl rfl (by kernel_rfl) (sjoin_q (k := (1 * k + 0)) HT.out (Z_al.out.more (by omega)) (Z_ah.out.more (by omega)) (Z_al.out.more (by omega)) (Z_ah.out.more (by omega)) HLE.out HLE.out (min_self _) (max_self _) (by omega)) ?_
  simp only [Act.put, nA, nB, nC]
  refine Seq.store rfl rfl rfl rfl rfl (by repeat (first | exact rS | refine rN (by assumption) ?_)) (n := 6) rfl rfl (by kernel_rfl) (VC_one _ _) ?_
  simp only [Act.put, nA, nB, nC]
  refine Seq.done fun ws2 hws => ?_
  have HS2 : St w [(bk1, 34, VC al ah), (bk2, 34, #[.bool false, .string ⟨#[]⟩, .string ⟨#[]⟩, .bool false, .string ⟨#[]⟩, .string ⟨#[]⟩])] ws2 := hws.list1 (by repeat (first | exact rS | refine rN (by assumption) ?_))
  clear HS1 hws
  go_upto_region 2 with (fail)
  refine wp_seq [] (by kernel_rfl) (by kernel_rfl) Reg.fin_no (StR.no HS2) ?_
  refine Seq.pure rfl rfl (by intro w; go_simp; try rfl) ?_
  simp only [Act.put, nA, nB, nC]
  refine Seq.loadAt rfl rfl rfl rfl (by repeat (first | exact mC | apply mT)) (n := 3) (cs' := RC al) (Nat.le_of_ble_eq_true rfl) (by kernel_rfl) rfl ?_
  simp only [Act.put, nA, nB, nC]
  refine Seq.call rfl rfl rfl rfl (by kernel_rfl) (tof_q (k := (1 * k + 0)) HT.out (Z_al.out.more (by omega))  rfl (by omega)) ?_
  simp only [Act.put, nA, nB, nC]
  refine Seq.call rfl rfl rfl rfl (by kernel_rfl) (sin_q (k := (1 * k + 0)) HT.out (Z_al.out.more (by omega)) (fun h => by cases h) rfl (by omega)) ?_
  simp only [Act.put, nA, nB, nC]
  refine Seq.call rfl rfl rfl rfl (by kernel_rfl) (sof_q (k := (8 * k + 10)) HT.out ((Rz.sinT Z_al.out).more (by omega))  rfl rfl (by omega)) ?_
  simp only [Act.put, nA, nB, nC]
  refine Seq.pure rfl rfl (by intro w; go_simp; try rfl) ?_
  simp only [Act.put, nA, nB, nC]
  refine Seq.loadAt rfl rfl rfl rfl (by repeat (first | exact mC | apply mT)) (n := 3) (cs' := RC ah) (Nat.le_of_ble_eq_true rfl) (by kernel_rfl) rfl ?_
  simp only [Act.put, nA, nB, nC]
  refine Seq.call rfl rfl rfl rfl (by kernel_rfl) (tof_q (k := (1 * k + 0)) HT.out (Z_ah.out.more (by omega))  rfl (by omega)) ?_
  simp only [Act.put, nA, nB, nC]
  refine Seq.call rfl rfl rfl rfl (by kernel_rfl) (sin_q (k := (1 * k + 0)) HT.out (Z_ah.out.more (by omega)) (fun h => by cases h) rfl (by omega)) ?_
  simp only [Act.put, nA, nB, nC]
  refine Seq.call rfl rfl rfl rfl (by kernel_rfl) (sof_q (k := (8 * k + 10)) HT.out ((Rz.sinT Z_ah.out).more (by omega))  rfl rfl (by omega)) ?_
  simp only [Act.put, nA, nB, nC]
  refine Seq.call rfl rfl rfl rfl (by kernel_rfl) (sjoin_q (k := (8 * k + 10)) HT.out ((Rz.sinT Z_al.out).more (by omega)) ((Rz.sinT Z_al.out).more (by omega)) ((Rz.sinT Z_ah.out).more (by omega)) ((Rz.sinT Z_ah.out).more (by omega)) (Rat.le_refl (a := sinT al)) (Rat.le_refl (a := sinT ah)) HM.out.1 HM.out.2 (by omega)) ?_
  simp only [Act.put, nA, nB, nC]
  refine Seq.alloc rfl rfl rfl (z := .agg #[.bool false, .string ⟨#[]⟩, .string ⟨#[]⟩, .bool false, .string ⟨#[]⟩, .string ⟨#[]⟩]) (by kernel_rfl) rfl ?_
  intro bk3 _ _ hbk3_r
  simp only [Act.put, nA, nB, nC]
  refine Seq.store rfl rfl rfl rfl rfl (by repeat (first | exact rS | refine rN (by assumption) ?_)) (n := 6) rfl rfl (by kernel_rfl) (VC_one _ _) ?_
  simp only [Act.put, nA, nB, nC]
  refine Seq.done fun ws3 hws => ?_
  have HS3 : St w [(bk3, 34, VC m0 m1), (bk1, 34, VC al ah), (bk2, 34, #[.bool false, .string ⟨#[]⟩, .string ⟨#[]⟩, .bool false, .string ⟨#[]⟩, .string ⟨#[]⟩])] ws3 := hws.list1 (by repeat (first | exact rS | refine rN (by assumption) ?_))
  clear HS2 hws
  go_upto_region 3 with (fail)
  refine wp_seq_text [] (StR.no HS3) ?_
  refine Seq.slice (n := 2) (e := 3) (cs := #[.int .i64 (-1), .int .i64 1]) rfl rfl (by intro w; go_simp; try rfl) ?_
  intro bk21 _ _ hbk21_r
  simp only [Act.put, nA, nB, nC]
  refine Seq.pure (v := .int .i64 2) rfl rfl (by intro w; go_simp; try rfl) ?_
  simp only [Act.put, nA, nB, nC]
  refine Seq.pure rfl rfl (by intro w; go_simp; try rfl) ?_
  simp only [Act.put, nA, nB, nC]
  refine Seq.done fun ws4 hws => ?_
  have HS4 : St w [(bk21, 3, #[.int .i64 (-1), .int .i64 1]), (bk3, 34, VC m0 m1), (bk1, 34, VC al ah), (bk2, 34, #[.bool false, .string ⟨#[]⟩, .string ⟨#[]⟩, .bool false, .string ⟨#[]⟩, .string ⟨#[]⟩])] ws4 := hws.list1 (by repeat (first | exact rS | refine rN (by assumption) ?_))
  clear HS3 hws
  go_wp2_with fail
  refine wp_loop_rounds 3 ?_
  rw [rounds_succ]
  go_upto_region 4 with (fail)
  refine wp_seq_text [] (StR.no HS4) ?_
  refine Seq.pure rfl rfl (by intro w; go_simp; try rfl) ?_
  simp only [Act.put, nA, nB, nC]
  refine Seq.done fun ws5 hws => ?_
  have HS5 := hws.st
  clear HS4 hws
  go_upto_region 5 with (fail)
  refine wp_seq_text [] (StR.no HS5) ?_
  refine Seq.pure rfl rfl (by intro w; go_simp; try rfl) ?_
  simp only [Act.put, nA, nB, nC]
  refine Seq.loadCell rfl rfl rfl rfl (by repeat (first | exact mC | apply mT)) (v := .int .i64 (-1)) rfl (by kernel_rfl) rfl ?_
  simp only [Act.put, nA, nB, nC]
  refine Seq.pure rfl rfl (by intro w; go_simp; try rfl) ?_
  simp only [Act.put, nA, nB, nC]
  refine Seq.done fun ws6 hws => ?_
  have HS6 := hws.st
  clear HS5 hws
  go_upto_region 6 with (fail)
  refine wp_seq_text [] (StR.no HS6) ?_
  refine Seq.pure rfl rfl (by intro w; go_simp; try rfl) ?_
  simp only [Act.put, nA, nB, nC]
  refine Seq.call rfl rfl rfl rfl (by kernel_rfl) (of_q HT.out (by omega) (by omega) (show ((-1 : Int) : Rat) = (-1 : Rat) from rfl)) ?_
  simp only [Act.put, nA, nB, nC]
  refine Seq.alloc rfl rfl rfl (z := .agg #[.bool false, .string ⟨#[]⟩, .string ⟨#[]⟩]) (by kernel_rfl) rfl ?_
  intro bk6 _ _ hbk6_r
  simp only [Act.put, nA, nB, nC]
  refine Seq.store rfl rfl rfl rfl rfl (by repeat (first | exact rS | refine rN (by assumption) ?_)) (n := 3) rfl rfl (by kernel_rfl) (RC_one _) ?_
  simp only [Act.put, nA, nB, nC]
  refine Seq.done fun ws7 hws => ?_
  have HS7 : St w [(bk6, 32, RC (-1 : Rat)), (bk21, 3, #[.int .i64 (-1), .int .i64 1]), (bk3, 34, VC m0 m1), (bk1, 34, VC al ah), (bk2, 34, #[.bool false, .string ⟨#[]⟩, .string ⟨#[]⟩, .bool false, .string ⟨#[]⟩, .string ⟨#[]⟩])] ws7 := hws.list1 (by repeat (first | exact rS | refine rN (by assumption) ?_))
  clear HS6 hws
  go_upto_region 7 with (fail)
  refine wp_seq_text [] (StR.no HS7) ?_
  refine Seq.load rfl rfl rfl rfl (by repeat (first | exact mC | apply mT)) (n := 6) rfl (by kernel_rfl) ?_
  simp only [Act.put, nA, nB, nC]
  refine Seq.load rfl rfl rfl rfl (by repeat (first | exact mC | apply mT)) (n := 3) rfl (by kernel_rfl) ?_
  simp only [Act.put, nA, nB, nC]
  refine Seq.call rfl rfl rfl rfl (by kernel_rfl) (has_q (k := (1 * k + 2)) HT.out (Z_al.out.more (by omega)) (Z_ah.out.more (by omega)) ((show Rz 2 (-1 : Rat) from Rz.lit (z := -1) rfl (by decide)).more (by omega)) HLE.out H1.out (by omega)) ?_
  simp only [Act.put, nA, nB, nC]
  refine Seq.done fun ws8 hws => ?_
  have HS8 := hws.st
  clear HS7 hws
  go_upto_region 8 with (fail)
  have HPbk3 : St w [(bk3, 34, VC m0 m1), (bk6, 32, RC (-1 : Rat)), (bk21, 3, #[.int .i64 (-1), .int .i64 1]), (bk1, 34, VC al ah), (bk2, 34, #[.bool false, .string ⟨#[]⟩, .string ⟨#[]⟩, .bool false, .string ⟨#[]⟩, .string ⟨#[]⟩])] _ := St.perm HS8 (List.perm_middle (l₁ := ([(bk6, 32, RC (-1 : Rat)), (bk21, 3, #[.int .i64 (-1), .int .i64 1])] : List Own)))
  refine wp_seq [0] (by kernel_rfl) (by kernel_rfl) (Reg.fin.put Reg.fin_no _ _) (StR.move (StR.no HPbk3)) ?_
  refine Seq.get rfl rfl rfl rfl (by repeat (first | exact rS | refine rN (by assumption) ?_)) (n := 6) rfl (by kernel_rfl) ?_
  simp only [Act.put, nA, nB, nC]
  refine Seq.load rfl rfl rfl rfl (by repeat (first | exact mC | apply mT)) (n := 3) rfl (by kernel_rfl) ?_
  simp only [Act.put, nA, nB, nC]
  refine Seq.call rfl rfl rfl rfl (by kernel_rfl) (sof_q (k := 2) HT.out ((show Rz 2 (-1 : Rat) from Rz.lit (z := -1) rfl (by decide)).more (by omega))  rfl rfl (by omega)) ?_
  simp only [Act.put, nA, nB, nC]
  refine Seq.call rfl rfl rfl rfl (by kernel_rfl) (sjoin_q (k := (8 * k + 10)) HT.out (Z_m0.out.more (by omega)) (Z_m1.out.more (by omega)) ((show Rz 2 (-1 : Rat) from Rz.lit (z := -1) rfl (by decide)).more (by omega)) ((show Rz 2 (-1 : Rat) from Rz.lit (z := -1) rfl (by decide)).more (by omega)) HJ.out.1 (Rat.le_refl (a := (-1 : Rat))) HJ.out.2.1 HJ.out.2.2.1 (by omega)) ?_
  simp only [Act.put, nA, nB, nC]
  refine Seq.store rfl rfl rfl rfl rfl (by repeat (first | exact rS | refine rN (by assumption) ?_)) (n := 6) rfl rfl (by kernel_rfl) (VC_one _ _) ?_
  simp only [Act.put, nA, nB, nC]
  refine Seq.done fun ws9 hws => ?_
  have HS9 : St w [(bk3, 34, VC (-1 : Rat) m1), (bk6, 32, RC (-1 : Rat)), (bk21, 3, #[.int .i64 (-1), .int .i64 1]), (bk1, 34, VC al ah), (bk2, 34, #[.bool false, .string ⟨#[]⟩, .string ⟨#[]⟩, .bool false, .string ⟨#[]⟩, .string ⟨#[]⟩])] ws9 := hws.list1 (by repeat (first | exact rS | refine rN (by assumption) ?_))
  clear HS8 hws HPbk3
  go_upto_region 9 with (fail)
  refine wp_seq_text [] (StR.no HS9) ?_
  refine Seq.pure (v := .int .i64 1) rfl rfl (by intro w; go_simp; try rfl) ?_
  simp only [Act.put, nA, nB, nC]
  refine Seq.pure rfl rfl (by intro w; go_simp; try rfl) ?_
  simp only [Act.put, nA, nB, nC]
  refine Seq.done fun ws10 hws => ?_
  have HS10 := hws.st
  clear HS9 hws
  go_wp2_with fail
  rw [rounds_succ]
  go_upto_region 4 with (fail)
  refine wp_seq_text [] (StR.no HS10) ?_
  refine Seq.pure rfl rfl (by intro w; go_simp; try rfl) ?_
  simp only [Act.put, nA, nB, nC]
  refine Seq.done fun ws11 hws => ?_
  have HS11 := hws.st
  clear HS10 hws
  go_upto_region 5 with (fail)
  refine wp_seq_text [] (StR.no HS11) ?_
  refine Seq.pure rfl rfl (by intro w; go_simp; try rfl) ?_
  simp only [Act.put, nA, nB, nC]
  refine Seq.loadCell rfl rfl rfl rfl (by repeat (first | exact mC | apply mT)) (v := .int .i64 1) rfl (by kernel_rfl) rfl ?_
  simp only [Act.put, nA, nB, nC]
  refine Seq.pure rfl rfl (by intro w; go_simp; try rfl) ?_
  simp only [Act.put, nA, nB, nC]
  refine Seq.done fun ws12 hws => ?_
  have HS12 := hws.st
  clear HS11 hws
  go_upto_region 6 with (fail)
  refine wp_seq_text [] (StR.no HS12) ?_
  refine Seq.pure rfl rfl (by intro w; go_simp; try rfl) ?_
  simp only [Act.put, nA, nB, nC]
  refine Seq.call rfl rfl rfl rfl (by kernel_rfl) (of_q HT.out (by omega) (by omega) (show ((1 : Int) : Rat) = (1 : Rat) from rfl)) ?_
  simp only [Act.put, nA, nB, nC]
  refine Seq.alloc rfl rfl rfl (z := .agg #[.bool false, .string ⟨#[]⟩, .string ⟨#[]⟩]) (by kernel_rfl) rfl ?_
  intro bk6_1 _ _ hbk6_1_r
  simp only [Act.put, nA, nB, nC]
  refine Seq.store rfl rfl rfl rfl rfl (by repeat (first | exact rS | refine rN (by assumption) ?_)) (n := 3) rfl rfl (by kernel_rfl) (RC_one _) ?_
  simp only [Act.put, nA, nB, nC]
  refine Seq.done fun ws13 hws => ?_
  have HS13 : St w [(bk6_1, 32, RC (1 : Rat)), (bk3, 34, VC (-1 : Rat) m1), (bk6, 32, RC (-1 : Rat)), (bk21, 3, #[.int .i64 (-1), .int .i64 1]), (bk1, 34, VC al ah), (bk2, 34, #[.bool false, .string ⟨#[]⟩, .string ⟨#[]⟩, .bool false, .string ⟨#[]⟩, .string ⟨#[]⟩])] ws13 := hws.list1 (by repeat (first | exact rS | refine rN (by assumption) ?_))
  clear HS12 hws
  go_upto_region 7 with (fail)
  refine wp_seq_text [] (StR.no HS13) ?_
  refine Seq.load rfl rfl rfl rfl (by repeat (first | exact mC | apply mT)) (n := 6) rfl (by kernel_rfl) ?_
  simp only [Act.put, nA, nB, nC]
  refine Seq.load rfl rfl rfl rfl (by repeat (first | exact mC | apply mT)) (n := 3) rfl (by kernel_rfl) ?_
  simp only [Act.put, nA, nB, nC]
  refine Seq.call rfl rfl rfl rfl (by kernel_rfl) (has_q (k := (1 * k + 2)) HT.out (Z_al.out.more (by omega)) (Z_ah.out.more (by omega)) ((show Rz 2 (1 : Rat) from Rz.lit (z := 1) rfl (by decide)).more (by omega)) HLE.out H2.out (by omega)) ?_
  simp only [Act.put, nA, nB, nC]
  refine Seq.done fun ws14 hws => ?_
  have HS14 := hws.st
  clear HS13 hws
  go_upto_region 8 with (fail)
  have HPbk3 : St w [(bk3, 34, VC (-1 : Rat) m1), (bk6_1, 32, RC (1 : Rat)), (bk6, 32, RC (-1 : Rat)), (bk21, 3, #[.int .i64 (-1), .int .i64 1]), (bk1, 34, VC al ah), (bk2, 34, #[.bool false, .string ⟨#[]⟩, .string ⟨#[]⟩, .bool false, .string ⟨#[]⟩, .string ⟨#[]⟩])] _ := St.perm HS14 (List.perm_middle (l₁ := ([(bk6_1, 32, RC (1 : Rat))] : List Own)))
  refine wp_seq [0] (by kernel_rfl) (by kernel_rfl) (Reg.fin.put Reg.fin_no _ _) (StR.move (StR.no HPbk3)) ?_
  refine Seq.get rfl rfl rfl rfl (by repeat (first | exact rS | refine rN (by assumption) ?_)) (n := 6) rfl (by kernel_rfl) ?_
  simp only [Act.put, nA, nB, nC]
  refine Seq.load rfl rfl rfl rfl (by repeat (first | exact mC | apply mT)) (n := 3) rfl (by kernel_rfl) ?_
  simp only [Act.put, nA, nB, nC]
  refine Seq.call rfl rfl rfl rfl (by kernel_rfl) (sof_q (k := 2) HT.out ((show Rz 2 (1 : Rat) from Rz.lit (z := 1) rfl (by decide)).more (by omega))  rfl rfl (by omega)) ?_
  simp only [Act.put, nA, nB, nC]
  refine Seq.call rfl rfl rfl rfl (by kernel_rfl) (sjoin_q (k := (8 * k + 10)) HT.out (Rz.neg1.more (by omega)) (Z_m1.out.more (by omega)) ((show Rz 2 (1 : Rat) from Rz.lit (z := 1) rfl (by decide)).more (by omega)) ((show Rz 2 (1 : Rat) from Rz.lit (z := 1) rfl (by decide)).more (by omega)) HJ.out.2.2.2.2.1 (Rat.le_refl (a := (1 : Rat))) HJ.out.2.2.2.1.2 HJ.out.2.2.2.2.2.1 (by omega)) ?_
  simp only [Act.put, nA, nB, nC]
  refine Seq.store rfl rfl rfl rfl rfl (by repeat (first | exact rS | refine rN (by assumption) ?_)) (n := 6) rfl rfl (by kernel_rfl) (VC_one _ _) ?_
  simp only [Act.put, nA, nB, nC]
  refine Seq.done fun ws15 hws => ?_
  have HS15 : St w [(bk3, 34, VC (-1 : Rat) (1 : Rat)), (bk6_1, 32, RC (1 : Rat)), (bk6, 32, RC (-1 : Rat)), (bk21, 3, #[.int .i64 (-1), .int .i64 1]), (bk1, 34, VC al ah), (bk2, 34, #[.bool false, .string ⟨#[]⟩, .string ⟨#[]⟩, .bool false, .string ⟨#[]⟩, .string ⟨#[]⟩])] ws15 := hws.list1 (by repeat (first | exact rS | refine rN (by assumption) ?_))
  clear HS14 hws HPbk3
  go_upto_region 9 with (fail)
  refine wp_seq_text [] (StR.no HS15) ?_
  refine Seq.pure (v := .int .i64 2) rfl rfl (by intro w; go_simp; try rfl) ?_
  simp only [Act.put, nA, nB, nC]
  refine Seq.pure rfl rfl (by intro w; go_simp; try rfl) ?_
  simp only [Act.put, nA, nB, nC]
  refine Seq.done fun ws16 hws => ?_
  have HS16 := hws.st
  clear HS15 hws
  go_wp2_with fail
  rw [rounds_succ]
  go_upto_region 4 with (fail)
  refine wp_seq_text [] (StR.no HS16) ?_
  refine Seq.pure rfl rfl (by intro w; go_simp; try rfl) ?_
  simp only [Act.put, nA, nB, nC]
  refine Seq.done fun ws17 hws => ?_
  have HS17 := hws.st
  clear HS16 hws
  go_upto_region 10 with (fail)
  have HPbk2 : St w [(bk2, 34, #[.bool false, .string ⟨#[]⟩, .string ⟨#[]⟩, .bool false, .string ⟨#[]⟩, .string ⟨#[]⟩]), (bk3, 34, VC (-1 : Rat) (1 : Rat)), (bk6_1, 32, RC (1 : Rat)), (bk6, 32, RC (-1 : Rat)), (bk21, 3, #[.int .i64 (-1), .int .i64 1]), (bk1, 34, VC al ah)] _ := St.perm HS17 (List.perm_middle (l₁ := ([(bk3, 34, VC (-1 : Rat) (1 : Rat)), (bk6_1, 32, RC (1 : Rat)), (bk6, 32, RC (-1 : Rat)), (bk21, 3, #[.int .i64 (-1), .int .i64 1]), (bk1, 34, VC al ah)] : List Own)))
  refine wp_seq_text [] (StR.move (StR.no HPbk2)) ?_
  refine Seq.load rfl rfl rfl rfl (by repeat (first | exact mC | apply mT)) (n := 6) rfl (by kernel_rfl) ?_
  simp only [Act.put, nA, nB, nC]
  refine Seq.store rfl rfl rfl rfl rfl (by repeat (first | exact rS | refine rN (by assumption) ?_)) (n := 6) rfl rfl (by kernel_rfl) (VC_one _ _) ?_
  simp only [Act.put, nA, nB, nC]
  refine Seq.done fun ws18 hws => ?_
  have HS18 : St w [(bk2, 34, VC (-1 : Rat) (1 : Rat)), (bk3, 34, VC (-1 : Rat) (1 : Rat)), (bk6_1, 32, RC (1 : Rat)), (bk6, 32, RC (-1 : Rat)), (bk21, 3, #[.int .i64 (-1), .int .i64 1]), (bk1, 34, VC al ah)] ws18 := hws.list1 (by repeat (first | exact rS | refine rN (by assumption) ?_))
  clear HS17 hws HPbk2
  go_wp2_with fail
  exact ret_own rfl rfl rfl HS18 (by repeat (first | exact mC | apply mT)) (n := 6) rfl (by kernel_rfl) ⟨rfl, HS18.below⟩
set_option maxHeartbeats 4000000 in
set_option maxRecDepth 20000 in
theorem ssin_yn {k : Nat} {al ah : Rat} {W : World} {l : List Own} (hT : Tab W) (Zal : Rz k al) (Zah : Rz k ah) (hlea : al ≤ ah) (h1 : (al ≤ -1 ∧ -1 ≤ ah)) (h2 : ¬ (al ≤ 1 ∧ 1 ≤ ah)) (hk : k ≤ 1000000000) (w : World) (h : St W l w) :
    Calls Tryd.prog 92 #[.agg (VC al ah)] w fun e w' => e = .returned (.agg (VC (-1) (maxQ (sinT al) (sinT ah)))) ∧ Below w.heap.size w w' := by
  have HT := Lib.hid (tabS hT h); clear hT h
  have Z_al := Lib.hid Zal; clear Zal
  have Z_ah := Lib.hid Zah; clear Zah
  have H1 := Lib.hid (show decide (al ≤ (-1 : Rat) ∧ (-1 : Rat) ≤ ah) = true from decide_eq_true h1); clear h1
  have H2 := Lib.hid (show decide (al ≤ (1 : Rat) ∧ (1 : Rat) ≤ ah) = false from decide_eq_false h2); clear h2
  have HLE := Lib.hid hlea; clear hlea
  obtain ⟨m0, hm0⟩ : ∃ r_, minQ (sinT al) (sinT ah) = r_ := ⟨_, rfl⟩
  obtain ⟨m1, hm1⟩ : ∃ r_, maxQ (sinT al) (sinT ah) = r_ := ⟨_, rfl⟩
  have Z_m0 := Lib.hid (show Rz (8 * k + 10) m0 from hm0 ▸ (Rz.sinT Z_al.out).min (Rz.sinT Z_ah.out))
  have Z_m1 := Lib.hid (show Rz (8 * k + 10) m1 from hm1 ▸ (Rz.sinT Z_al.out).max (Rz.sinT Z_ah.out))
  have g0 : -1 ≤ m0 := hm0 ▸ le_min (sin_ge al) (sin_ge ah)
  have g1 : m1 ≤ 1 := hm1 ▸ max_le (sin_le1 al) (sin_le1 ah)
  have g2 : m0 ≤ m1 := hm0 ▸ hm1 ▸ min_le_max _ _
  have HJ := Lib.hid (show m0 ≤ m1 ∧ minQ m0 (-1) = -1 ∧ maxQ m1 (-1) = m1 ∧ (minQ m0 1 = m0 ∧ minQ (-1) 1 = -1) ∧ (-1 : Rat) ≤ m1 ∧ maxQ m1 1 = 1 ∧ m0 ≤ 1 from
    ⟨g2, (jm g0 g1).1, (jx (a := m1) (b := m1) (by grind) g1).1, ⟨(jx (a := m0) (b := m0) g0 (by grind)).2, (jx (a := -1) (b := -1) Rat.le_refl (by grind)).2⟩, by grind, (jm g0 g1).2, by grind⟩)
  have HX := Lib.hid (show (-1 : Rat) ≤ (1 : Rat) from by grind)
  clear g0 g1 g2
  have HM := Lib.hid (And.intro hm0 hm1)
  rw [hm1]
  clear hm0 hm1
  go_enter Tryd.func92, Tryd.ntmps92
  have HS : St w [] w := St.start
  go_upto_region 0 with (fail)
  refine wp_seq_text [] (StR.no HS) ?_
  refine Seq.box rfl rfl rfl (v := .agg (VC al ah)) (cs := VC al ah) rfl rfl ?_
  intro bk1 _ _ hbk1_r
  simp only [Act.put, nA, nB, nC]
  refine Seq.alloc rfl rfl rfl (z := .agg #[.bool false, .string ⟨#[]⟩, .string ⟨#[]⟩, .bool false, .string ⟨#[]⟩, .string ⟨#[]⟩]) (by kernel_rfl) rfl ?_
  intro bk2 _ _ hbk2_r
  obtain ⟨ne_bk2_bk1, hbk2_r⟩ := Reg.ne_of_put hbk2_r
  have ne_bk1_bk2 := Ne.symm ne_bk2_bk1
  simp only [Act.put, nA, nB, nC]
  refine Seq.done fun ws1 hws => ?_
  have HS1 : St w [(bk1, 34, VC al ah), (bk2, 34, #[.bool false, .string ⟨#[]⟩, .string ⟨#[]⟩, .bool false, .string ⟨#[]⟩, .string ⟨#[]⟩])] ws1 := hws.list2 (by repeat (first | exact rS | refine rN (by assumption) ?_)) (by repeat (first | exact rS | refine rN (by assumption) ?_)) (by assumption)
  clear HS hws
  go_upto_region 1 with (fail)
  refine wp_seq_text [0, 2] (StR.move (StR.no HS1)) ?_
  refine Seq.get rfl rfl rfl rfl (by repeat (first | exact rS | refine rN (by assumption) ?_)) (n := 6) rfl (by kernel_rfl) ?_
  simp only [Act.put, nA, nB, nC]
  refine Seq.get rfl rfl rfl rfl (by repeat (first | exact rS | refine rN (by assumption) ?_)) (n := 6) rfl (by kernel_rfl) ?_
  simp only [Act.put, nA, nB, nC]
  refine Seq.call rfl rfl rfl rfl (by kernel_rfl) (sjoin_q (k := (1 * k + 0)) HT.out (Z_al.out.more (by omega)) (Z_ah.out.more (by omega)) (Z_al.out.more (by omega)) (Z_ah.out.more (by omega)) HLE.out HLE.out (min_self _) (max_self _) (by omega)) ?_
  simp only [Act.put, nA, nB, nC]
  refine Seq.store rfl rfl rfl rfl rfl (by repeat (first | exact rS | refine rN (by assumption) ?_)) (n := 6) rfl rfl (by kernel_rfl) (VC_one _ _) ?_
  simp only [Act.put, nA, nB, nC]
  refine Seq.done fun ws2 hws => ?_
  have HS2 : St w [(bk1, 34, VC al ah), (bk2, 34, #[.bool false, .string ⟨#[]⟩, .string ⟨#[]⟩, .bool false, .string ⟨#[]⟩, .string ⟨#[]⟩])] ws2 := hws.list1 (by repeat (first | exact rS | refine rN (by assumption) ?_))
  clear HS1 hws
  go_upto_region 2 with (fail)
  refine wp_seq [] (by kernel_rfl) (by kernel_rfl) Reg.fin_no (StR.no HS2) ?_
  refine Seq.pure rfl rfl (by intro w; go_simp; try rfl) ?_
  simp only [Act.put, nA, nB, nC]
  refine Seq.loadAt rfl rfl rfl rfl (by repeat (first | exact mC | apply mT)) (n := 3) (cs' := RC al) (Nat.le_of_ble_eq_true rfl) (by kernel_rfl) rfl ?_
  simp only [Act.put, nA, nB, nC]
  refine Seq.call rfl rfl rfl rfl (by kernel_rfl) (tof_q (k := (1 * k + 0)) HT.out (Z_al.out.more (by omega))  rfl (by omega)) ?_
  simp only [Act.put, nA, nB, nC]
  refine Seq.call rfl rfl rfl rfl (by kernel_rfl) (sin_q (k := (1 * k + 0)) HT.out (Z_al.out.more (by omega)) (fun h => by cases h) rfl (by omega)) ?_
  simp only [Act.put, nA, nB, nC]
  refine Seq.call rfl rfl rfl rfl (by kernel_rfl) (sof_q (k := (8 * k + 10)) HT.out ((Rz.sinT Z_al.out).more (by omega))  rfl rfl (by omega)) ?_
  simp only [Act.put, nA, nB, nC]
  refine Seq.pure rfl rfl (by intro w; go_simp; try rfl) ?_
  simp only [Act.put, nA, nB, nC]
  refine Seq.loadAt rfl rfl rfl rfl (by repeat (first | exact mC | apply mT)) (n := 3) (cs' := RC ah) (Nat.le_of_ble_eq_true rfl) (by kernel_rfl) rfl ?_
  simp only [Act.put, nA, nB, nC]
  refine Seq.call rfl rfl rfl rfl (by kernel_rfl) (tof_q (k := (1 * k + 0)) HT.out (Z_ah.out.more (by omega))  rfl (by omega)) ?_
  simp only [Act.put, nA, nB, nC]
  refine Seq.call rfl rfl rfl rfl (by kernel_rfl) (sin_q (k := (1 * k + 0)) HT.out (Z_ah.out.more (by omega)) (fun h => by cases h) rfl (by omega)) ?_
  simp only [Act.put, nA, nB, nC]
  refine Seq.call rfl rfl rfl rfl (by kernel_rfl) (sof_q (k := (8 * k + 10)) HT.out ((Rz.sinT Z_ah.out).more (by omega))  rfl rfl (by omega)) ?_
  simp only [Act.put, nA, nB, nC]
  refine Seq.call rfl rfl rfl rfl (by kernel_rfl) (sjoin_q (k := (8 * k + 10)) HT.out ((Rz.sinT Z_al.out).more (by omega)) ((Rz.sinT Z_al.out).more (by omega)) ((Rz.sinT Z_ah.out).more (by omega)) ((Rz.sinT Z_ah.out).more (by omega)) (Rat.le_refl (a := sinT al)) (Rat.le_refl (a := sinT ah)) HM.out.1 HM.out.2 (by omega)) ?_
  simp only [Act.put, nA, nB, nC]
  refine Seq.alloc rfl rfl rfl (z := .agg #[.bool false, .string ⟨#[]⟩, .string ⟨#[]⟩, .bool false, .string ⟨#[]⟩, .string ⟨#[]⟩]) (by kernel_rfl) rfl ?_
  intro bk3 _ _ hbk3_r
  simp only [Act.put, nA, nB, nC]
  refine Seq.store rfl rfl rfl rfl rfl (by repeat (first | exact rS | refine rN (by assumption) ?_)) (n := 6) rfl rfl (by kernel_rfl) (VC_one _ _) ?_
  simp only [Act.put, nA, nB, nC]
  refine Seq.done fun ws3 hws => ?_
  have HS3 : St w [(bk3, 34, VC m0 m1), (bk1, 34, VC al ah), (bk2, 34, #[.bool false, .string ⟨#[]⟩, .string ⟨#[]⟩, .bool false, .string ⟨#[]⟩, .string ⟨#[]⟩])] ws3 := hws.list1 (by repeat (first | exact rS | refine rN (by assumption) ?_))
  clear HS2 hws
  go_upto_region 3 with (fail)
  refine wp_seq_text [] (StR.no HS3) ?_
  refine Seq.slice (n := 2) (e := 3) (cs := #[.int .i64 (-1), .int .i64 1]) rfl rfl (by intro w; go_simp; try rfl) ?_
  intro bk21 _ _ hbk21_r
  simp only [Act.put, nA, nB, nC]
  refine Seq.pure (v := .int .i64 2) rfl rfl (by intro w; go_simp; try rfl) ?_
  simp only [Act.put, nA, nB, nC]
  refine Seq.pure rfl rfl (by intro w; go_simp; try rfl) ?_
  simp only [Act.put, nA, nB, nC]
  refine Seq.done fun ws4 hws => ?_
  have HS4 : St w [(bk21, 3, #[.int .i64 (-1), .int .i64 1]), (bk3, 34, VC m0 m1), (bk1, 34, VC al ah), (bk2, 34, #[.bool false, .string ⟨#[]⟩, .string ⟨#[]⟩, .bool false, .string ⟨#[]⟩, .string ⟨#[]⟩])] ws4 := hws.list1 (by repeat (first | exact rS | refine rN (by assumption) ?_))
  clear HS3 hws
  go_wp2_with fail
  refine wp_loop_rounds 3 ?_
  rw [rounds_succ]
  go_upto_region 4 with (fail)
  refine wp_seq_text [] (StR.no HS4) ?_
  refine Seq.pure rfl rfl (by intro w; go_simp; try rfl) ?_
  simp only [Act.put, nA, nB, nC]
  refine Seq.done fun ws5 hws => ?_
  have HS5 := hws.st
  clear HS4 hws
  go_upto_region 5 with (fail)
  refine wp_seq_text [] (StR.no HS5) ?_
  refine Seq.pure rfl rfl (by intro w; go_simp; try rfl) ?_
  simp only [Act.put, nA, nB, nC]
  refine Seq.loadCell rfl rfl rfl rfl (by repeat (first | exact mC | apply mT)) (v := .int .i64 (-1)) rfl (by kernel_rfl) rfl ?_
  simp only [Act.put, nA, nB, nC]
  refine Seq.pure rfl rfl (by intro w; go_simp; try rfl) ?_
  simp only [Act.put, nA, nB, nC]
  refine Seq.done fun ws6 hws => ?_
  have HS6 := hws.st
  clear HS5 hws
  go_upto_region 6 with (fail)
  refine wp_seq_text [] (StR.no HS6) ?_
  refine Seq.pure rfl rfl (by intro w; go_simp; try rfl) ?_
  simp only [Act.put, nA, nB, nC]
  refine Seq.call rfl rfl rfl rfl (by kernel_rfl) (of_q HT.out (by omega) (by omega) (show ((-1 : Int) : Rat) = (-1 : Rat) from rfl)) ?_
  simp only [Act.put, nA, nB, nC]
  refine Seq.alloc rfl rfl rfl (z := .agg #[.bool false, .string ⟨#[]⟩, .string ⟨#[]⟩]) (by kernel_rfl) rfl ?_
  intro bk6 _ _ hbk6_r
  simp only [Act.put, nA, nB, nC]
  refine Seq.store rfl rfl rfl rfl rfl (by repeat (first | exact rS | refine rN (by assumption) ?_)) (n := 3) rfl rfl (by kernel_rfl) (RC_one _) ?_
  simp only [Act.put, nA, nB, nC]
  refine Seq.done fun ws7 hws => ?_
  have HS7 : St w [(bk6, 32, RC (-1 : Rat)), (bk21, 3, #[.int .i64 (-1), .int .i64 1]), (bk3, 34, VC m0 m1), (bk1, 34, VC al ah), (bk2, 34, #[.bool false, .string ⟨#[]⟩, .string ⟨#[]⟩, .bool false, .string ⟨#[]⟩, .string ⟨#[]⟩])] ws7 := hws.list1 (by repeat (first | exact rS | refine rN (by assumption) ?_))
  clear HS6 hws
  go_upto_region 7 with (fail)
  refine wp_seq_text [] (StR.no HS7) ?_
  refine Seq.load rfl rfl rfl rfl (by repeat (first | exact mC | apply mT)) (n := 6) rfl (by kernel_rfl) ?_
  simp only [Act.put, nA, nB, nC]
  refine Seq.load rfl rfl rfl rfl (by repeat (first | exact mC | apply mT)) (n := 3) rfl (by kernel_rfl) ?_
  simp only [Act.put, nA, nB, nC]
  refine Seq.call rfl rfl rfl rfl (by kernel_rfl) (has_q (k := (1 * k + 2)) HT.out (Z_al.out.more (by omega)) (Z_ah.out.more (by omega)) ((show Rz 2 (-1 : Rat) from Rz.lit (z := -1) rfl (by decide)).more (by omega)) HLE.out H1.out (by omega)) ?_
  simp only [Act.put, nA, nB, nC]
  refine Seq.done fun ws8 hws => ?_
  have HS8 := hws.st
  clear HS7 hws
  go_upto_region 8 with (fail)
  have HPbk3 : St w [(bk3, 34, VC m0 m1), (bk6, 32, RC (-1 : Rat)), (bk21, 3, #[.int .i64 (-1), .int .i64 1]), (bk1, 34, VC al ah), (bk2, 34, #[.bool false, .string ⟨#[]⟩, .string ⟨#[]⟩, .bool false, .string ⟨#[]⟩, .string ⟨#[]⟩])] _ := St.perm HS8 (List.perm_middle (l₁ := ([(bk6, 32, RC (-1 : Rat)), (bk21, 3, #[.int .i64 (-1), .int .i64 1])] : List Own)))
  refine wp_seq [0] (by kernel_rfl) (by kernel_rfl) (Reg.fin.put Reg.fin_no _ _) (StR.move (StR.no HPbk3)) ?_
  refine Seq.get rfl rfl rfl rfl (by repeat (first | exact rS | refine rN (by assumption) ?_)) (n := 6) rfl (by kernel_rfl) ?_
  simp only [Act.put, nA, nB, nC]
  refine Seq.load rfl rfl rfl rfl (by repeat (first | exact mC | apply mT)) (n := 3) rfl (by kernel_rfl) ?_
  simp only [Act.put, nA, nB, nC]
  refine Seq.call rfl rfl rfl rfl (by kernel_rfl) (sof_q (k := 2) HT.out ((show Rz 2 (-1 : Rat) from Rz.lit (z := -1) rfl (by decide)).more (by omega))  rfl rfl (by omega)) ?_
  simp only [Act.put, nA, nB, nC]
  refine Seq.call rfl rfl rfl rfl (by kernel_rfl) (sjoin_q (k := (8 * k + 10)) HT.out (Z_m0.out.more (by omega)) (Z_m1.out.more (by omega)) ((show Rz 2 (-1 : Rat) from Rz.lit (z := -1) rfl (by decide)).more (by omega)) ((show Rz 2 (-1 : Rat) from Rz.lit (z := -1) rfl (by decide)).more (by omega)) HJ.out.1 (Rat.le_refl (a := (-1 : Rat))) HJ.out.2.1 HJ.out.2.2.1 (by omega)) ?_
  simp only [Act.put, nA, nB, nC]
  refine Seq.store rfl rfl rfl rfl rfl (by repeat (first | exact rS | refine rN (by assumption) ?_)) (n := 6) rfl rfl (by kernel_rfl) (VC_one _ _) ?_
  simp only [Act.put, nA, nB, nC]
  refine Seq.done fun ws9 hws => ?_
  have HS9 : St w [(bk3, 34, VC (-1 : Rat) m1), (bk6, 32, RC (-1 : Rat)), (bk21, 3, #[.int .i64 (-1), .int .i64 1]), (bk1, 34, VC al ah), (bk2, 34, #[.bool false, .string ⟨#[]⟩, .string ⟨#[]⟩, .bool false, .string ⟨#[]⟩, .string ⟨#[]⟩])] ws9 := hws.list1 (by repeat (first | exact rS | refine rN (by assumption) ?_))
  clear HS8 hws HPbk3
  go_upto_region 9 with (fail)
  refine wp_seq_text [] (StR.no HS9) ?_
  refine Seq.pure (v := .int .i64 1) rfl rfl (by intro w; go_simp; try rfl) ?_
  simp only [Act.put, nA, nB, nC]
  refine Seq.pure rfl rfl (by intro w; go_simp; try rfl) ?_
  simp only [Act.put, nA, nB, nC]
  refine Seq.done fun ws10 hws => ?_
  have HS10 := hws.st
  clear HS9 hws
  go_wp2_with fail
  rw [rounds_succ]
  go_upto_region 4 with (fail)
  refine wp_seq_text [] (StR.no HS10) ?_
  refine Seq.pure rfl rfl (by intro w; go_simp; try rfl) ?_
  simp only [Act.put, nA, nB, nC]
  refine Seq.done fun ws11 hws => ?_
  have HS11 := hws.st
  clear HS10 hws
  go_upto_region 5 with (fail)
  refine wp_seq_text [] (StR.no HS11) ?_
  refine Seq.pure rfl rfl (by intro w; go_simp; try rfl) ?_
  simp only [Act.put, nA, nB, nC]
  refine Seq.loadCell rfl rfl rfl rfl (by repeat (first | exact mC | apply mT)) (v := .int .i64 1) rfl (by kernel_rfl) rfl ?_
  simp only [Act.put, nA, nB, nC]
  refine Seq.pure rfl rfl (by intro w; go_simp; try rfl) ?_
  simp only [Act.put, nA, nB, nC]
  refine Seq.done fun ws12 hws => ?_
  have HS12 := hws.st
  clear HS11 hws
  go_upto_region 6 with (fail)
  refine wp_seq_text [] (StR.no HS12) ?_
  refine Seq.pure rfl rfl (by intro w; go_simp; try rfl) ?_
  simp only [Act.put, nA, nB, nC]
  refine Seq.call rfl rfl rfl rfl (by kernel_rfl) (of_q HT.out (by omega) (by omega) (show ((1 : Int) : Rat) = (1 : Rat) from rfl)) ?_
  simp only [Act.put, nA, nB, nC]
  refine Seq.alloc rfl rfl rfl (z := .agg #[.bool false, .string ⟨#[]⟩, .string ⟨#[]⟩]) (by kernel_rfl) rfl ?_
  intro bk6_1 _ _ hbk6_1_r
  simp only [Act.put, nA, nB, nC]
  refine Seq.store rfl rfl rfl rfl rfl (by repeat (first | exact rS | refine rN (by assumption) ?_)) (n := 3) rfl rfl (by kernel_rfl) (RC_one _) ?_
  simp only [Act.put, nA, nB, nC]
  refine Seq.done fun ws13 hws => ?_
  have HS13 : St w [(bk6_1, 32, RC (1 : Rat)), (bk3, 34, VC (-1 : Rat) m1), (bk6, 32, RC (-1 : Rat)), (bk21, 3, #[.int .i64 (-1), .int .i64 1]), (bk1, 34, VC al ah), (bk2, 34, #[.bool false, .string ⟨#[]⟩, .string ⟨#[]⟩, .bool false, .string ⟨#[]⟩, .string ⟨#[]⟩])] ws13 := hws.list1 (by repeat (first | exact rS | refine rN (by assumption) ?_))
  clear HS12 hws
  go_upto_region 7 with (fail)
  refine wp_seq_text [] (StR.no HS13) ?_
  refine Seq.load rfl rfl rfl rfl (by repeat (first | exact mC | apply mT)) (n := 6) rfl (by kernel_rfl) ?_
  simp only [Act.put, nA, nB, nC]
  refine Seq.load rfl rfl rfl rfl (by repeat (first | exact mC | apply mT)) (n := 3) rfl (by kernel_rfl) ?_
  simp only [Act.put, nA, nB, nC]
  refine Seq.call rfl rfl rfl rfl (by kernel_rfl) (has_q (k := (1 * k + 2)) HT.out (Z_al.out.more (by omega)) (Z_ah.out.more (by omega)) ((show Rz 2 (1 : Rat) from Rz.lit (z := 1) rfl (by decide)).more (by omega)) HLE.out H2.out (by omega)) ?_
  simp only [Act.put, nA, nB, nC]
  refine Seq.done fun ws14 hws => ?_
  have HS14 := hws.st
  clear HS13 hws
  go_upto_region 9 with (fail)
  refine wp_seq_text [] (StR.no HS14) ?_
  refine Seq.pure (v := .int .i64 2) rfl rfl (by intro w; go_simp; try rfl) ?_
  simp only [Act.put, nA, nB, nC]
  refine Seq.pure rfl rfl (by intro w; go_simp; try rfl) ?_
  simp only [Act.put, nA, nB, nC]
  refine Seq.done fun ws15 hws => ?_
  have HS15 := hws.st
  clear HS14 hws
  go_wp2_with fail
  rw [rounds_succ]
  go_upto_region 4 with (fail)
  refine wp_seq_text [] (StR.no HS15) ?_
  refine Seq.pure rfl rfl (by intro w; go_simp; try rfl) ?_
  simp only [Act.put, nA, nB, nC]
  refine Seq.done fun ws16 hws => ?_
  have HS16 := hws.st
  clear HS15 hws
  go_upto_region 10 with (fail)
  have HPbk2 : St w [(bk2, 34, #[.bool false, .string ⟨#[]⟩, .string ⟨#[]⟩, .bool false, .string ⟨#[]⟩, .string ⟨#[]⟩]), (bk6_1, 32, RC (1 : Rat)), (bk3, 34, VC (-1 : Rat) m1), (bk6, 32, RC (-1 : Rat)), (bk21, 3, #[.int .i64 (-1), .int .i64 1]), (bk1, 34, VC al ah)] _ := St.perm HS16 (List.perm_middle (l₁ := ([(bk6_1, 32, RC (1 : Rat)), (bk3, 34, VC (-1 : Rat) m1), (bk6, 32, RC (-1 : Rat)), (bk21, 3, #[.int .i64 (-1), .int .i64 1]), (bk1, 34, VC al ah)] : List Own)))
  refine wp_seq_text [] (StR.move (StR.no HPbk2)) ?_
  refine Seq.load rfl rfl rfl rfl (by repeat (first | exact mC | apply mT)) (n := 6) rfl (by kernel_rfl) ?_
  simp only [Act.put, nA, nB, nC]
  refine Seq.store rfl rfl rfl rfl rfl (by repeat (first | exact rS | refine rN (by assumption) ?_)) (n := 6) rfl rfl (by kernel_rfl) (VC_one _ _) ?_
  simp only [Act.put, nA, nB, nC]
  refine Seq.done fun ws17 hws => ?_
  have HS17 : St w [(bk2, 34, VC (-1 : Rat) m1), (bk6_1, 32, RC (1 : Rat)), (bk3, 34, VC (-1 : Rat) m1), (bk6, 32, RC (-1 : Rat)), (bk21, 3, #[.int .i64 (-1), .int .i64 1]), (bk1, 34, VC al ah)] ws17 := hws.list1 (by repeat (first | exact rS | refine rN (by assumption) ?_))
  clear HS16 hws HPbk2
  go_wp2_with fail
  exact ret_own rfl rfl rfl HS17 (by repeat (first | exact mC | apply mT)) (n := 6) rfl (by kernel_rfl) ⟨rfl, HS17.below⟩
set_option maxHeartbeats 4000000 in
set_option maxRecDepth 20000 in
theorem ssin_ny {k : Nat} {al ah : Rat} {W : World} {l : List Own} (hT : Tab W) (Zal : Rz k al) (Zah : Rz k ah) (hlea : al ≤ ah) (h1 : ¬ (al ≤ -1 ∧ -1 ≤ ah)) (h2 : (al ≤ 1 ∧ 1 ≤ ah)) (hk : k ≤ 1000000000) (w : World) (h : St W l w) :
    Calls Tryd.prog 92 #[.agg (VC al ah)] w fun e w' => e = .returned (.agg (VC (minQ (sinT al) (sinT ah)) (1))) ∧ Below w.heap.size w w' := by
  have HT := Lib.hid (tabS hT h); clear hT h
  have Z_al := Lib.hid Zal; clear Zal
  have Z_ah := Lib.hid Zah; clear Zah
  have H1 := Lib.hid (show decide (al ≤ (-1 : Rat) ∧ (-1 : Rat) ≤ ah) = false from decide_eq_false h1); clear h1
  have H2 := Lib.hid (show decide (al ≤ (1 : Rat) ∧ (1 : Rat) ≤ ah) = true from decide_eq_true h2); clear h2
  have HLE := Lib.hid hlea; clear hlea
  obtain ⟨m0, hm0⟩ : ∃ r_, minQ (sinT al) (sinT ah) = r_ := ⟨_, rfl⟩
  obtain ⟨m1, hm1⟩ : ∃ r_, maxQ (sinT al) (sinT ah) = r_ := ⟨_, rfl⟩
  have Z_m0 := Lib.hid (show Rz (8 * k + 10) m0 from hm0 ▸ (Rz.sinT Z_al.out).min (Rz.sinT Z_ah.out))
  have Z_m1 := Lib.hid (show Rz (8 * k + 10) m1 from hm1 ▸ (Rz.sinT Z_al.out).max (Rz.sinT Z_ah.out))
  have g0 : -1 ≤ m0 := hm0 ▸ le_min (sin_ge al) (sin_ge ah)
  have g1 : m1 ≤ 1 := hm1 ▸ max_le (sin_le1 al) (sin_le1 ah)
  have g2 : m0 ≤ m1 := hm0 ▸ hm1 ▸ min_le_max _ _
  have HJ := Lib.hid (show m0 ≤ m1 ∧ minQ m0 (-1) = -1 ∧ maxQ m1 (-1) = m1 ∧ (minQ m0 1 = m0 ∧ minQ (-1) 1 = -1) ∧ (-1 : Rat) ≤ m1 ∧ maxQ m1 1 = 1 ∧ m0 ≤ 1 from
    ⟨g2, (jm g0 g1).1, (jx (a := m1) (b := m1) (by grind) g1).1, ⟨(jx (a := m0) (b := m0) g0 (by grind)).2, (jx (a := -1) (b := -1) Rat.le_refl (by grind)).2⟩, by grind, (jm g0 g1).2, by grind⟩)
  have HX := Lib.hid (show m0 ≤ (1 : Rat) from by grind)
  clear g0 g1 g2
  have HM := Lib.hid (And.intro hm0 hm1)
  rw [hm0]
  clear hm0 hm1
  go_enter Tryd.func92, Tryd.ntmps92
  have HS : St w [] w := St.start
  go_upto_region 0 with (fail)
  refine wp_seq_text [] (StR.no HS) ?_
  refine Seq.box rfl rfl rfl (v := .agg (VC al ah)) (cs := VC al ah) rfl rfl ?_
  intro bk1 _ _ hbk1_r
  simp only [Act.put, nA, nB, nC]
  refine Seq.alloc rfl rfl rfl (z := .agg #[.bool false, .string ⟨#[]⟩, .string ⟨#[]⟩, .bool false, .string ⟨#[]⟩, .string ⟨#[]⟩]) (by kernel_rfl) rfl ?_
  intro bk2 _ _ hbk2_r
  obtain ⟨ne_bk2_bk1, hbk2_r⟩ := Reg.ne_of_put hbk2_r
  have ne_bk1_bk2 := Ne.symm ne_bk2_bk1
  simp only [Act.put, nA, nB, nC]
  refine Seq.done fun ws1 hws => ?_
  have HS1 : St w [(bk1, 34, VC al ah), (bk2, 34, #[.bool false, .string ⟨#[]⟩, .string ⟨#[]⟩, .bool false, .string ⟨#[]⟩, .string ⟨#[]⟩])] ws1 := hws.list2 (by repeat (first | exact rS | refine rN (by assumption) ?_)) (by repeat (first | exact rS | refine rN (by assumption) ?_)) (by assumption)
  clear HS hws
  go_upto_region 1 with (fail)
  refine wp_seq_text [0, 2] (StR.move (StR.no HS1)) ?_
  refine Seq.get rfl rfl rfl rfl (by repeat (first | exact rS | refine rN (by assumption) ?_)) (n := 6) rfl (by kernel_rfl) ?_
  simp only [Act.put, nA, nB, nC]
  refine Seq.get rfl rfl rfl rfl (by repeat (first | exact rS | refine rN (by assumption) ?_)) (n := 6) rfl (by kernel_rfl) ?_
  simp only [Act.put, nA, nB, nC]
  refine Seq.call rfl rfl rfl rfl (by kernel_rfl) (sjoin_q (k := (1 * k + 0)) HT.out (Z_al.out.more (by omega)) (Z_ah.out.more (by omega)) (Z_al.out.more (by omega)) (Z_ah.out.more (by omega)) HLE.out HLE.out (min_self _) (max_self _) (by omega)) ?_
  simp only [Act.put, nA, nB, nC]
  refine Seq.store rfl rfl rfl rfl rfl (by repeat (first | exact rS | refine rN (by assumption) ?_)) (n := 6) rfl rfl (by kernel_rfl) (VC_one _ _) ?_
  simp only [Act.put, nA, nB, nC]
  refine Seq.done fun ws2 hws => ?_
  have HS2 : St w [(bk1, 34, VC al ah), (bk2, 34, #[.bool false, .string ⟨#[]⟩, .string ⟨#[]⟩, .bool false, .string ⟨#[]⟩, .string ⟨#[]⟩])] ws2 := hws.list1 (by repeat (first | exact rS | refine rN (by assumption) ?_))
  clear HS1 hws
  go_upto_region 2 with (fail)
  refine wp_seq [] (by kernel_rfl) (by kernel_rfl) Reg.fin_no (StR.no HS2) ?_
  refine Seq.pure rfl rfl (by intro w; go_simp; try rfl) ?_
  simp only [Act.put, nA, nB, nC]
  refine Seq.loadAt rfl rfl rfl rfl (by repeat (first | exact mC | apply mT)) (n := 3) (cs' := RC al) (Nat.le_of_ble_eq_true rfl) (by kernel_rfl) rfl ?_
  simp only [Act.put, nA, nB, nC]
  refine Seq.call rfl rfl rfl rfl (by kernel_rfl) (tof_q (k := (1 * k + 0)) HT.out (Z_al.out.more (by omega))  rfl (by omega)) ?_
  simp only [Act.put, nA, nB, nC]
  refine Seq.call rfl rfl rfl rfl (by kernel_rfl) (sin_q (k := (1 * k + 0)) HT.out (Z_al.out.more (by omega)) (fun h => by cases h) rfl (by omega)) ?_
  simp only [Act.put, nA, nB, nC]
  refine Seq.call rfl rfl rfl rfl (by kernel_rfl) (sof_q (k := (8 * k + 10)) HT.out ((Rz.sinT Z_al.out).more (by omega))  rfl rfl (by omega)) ?_
  simp only [Act.put, nA, nB, nC]
  refine Seq.pure rfl rfl (by intro w; go_simp; try rfl) ?_
  simp only [Act.put, nA, nB, nC]
  refine Seq.loadAt rfl rfl rfl rfl (by repeat (first | exact mC | apply mT)) (n := 3) (cs' := RC ah) (Nat.le_of_ble_eq_true rfl) (by kernel_rfl) rfl ?_
  simp only [Act.put, nA, nB, nC]
  refine Seq.call rfl rfl rfl rfl (by kernel_rfl) (tof_q (k := (1 * k + 0)) HT.out (Z_ah.out.more (by omega))  rfl (by omega)) ?_
  simp only [Act.put, nA, nB, nC]
  refine Seq.call rfl rfl rfl rfl (by kernel_rfl) (sin_q (k := (1 * k + 0)) HT.out (Z_ah.out.more (by omega)) (fun h => by cases h) rfl (by omega)) ?_
  simp only [Act.put, nA, nB, nC]
  refine Seq.call rfl rfl rfl rfl (by kernel_rfl) (sof_q (k := (8 * k + 10)) HT.out ((Rz.sinT Z_ah.out).more (by omega))  rfl rfl (by omega)) ?_
  simp only [Act.put, nA, nB, nC]
  refine Seq.call rfl rfl rfl rfl (by kernel_rfl) (sjoin_q (k := (8 * k + 10)) HT.out ((Rz.sinT Z_al.out).more (by omega)) ((Rz.sinT Z_al.out).more (by omega)) ((Rz.sinT Z_ah.out).more (by omega)) ((Rz.sinT Z_ah.out).more (by omega)) (Rat.le_refl (a := sinT al)) (Rat.le_refl (a := sinT ah)) HM.out.1 HM.out.2 (by omega)) ?_
  simp only [Act.put, nA, nB, nC]
  refine Seq.alloc rfl rfl rfl (z := .agg #[.bool false, .string ⟨#[]⟩, .string ⟨#[]⟩, .bool false, .string ⟨#[]⟩, .string ⟨#[]⟩]) (by kernel_rfl) rfl ?_
  intro bk3 _ _ hbk3_r
  simp only [Act.put, nA, nB, nC]
  refine Seq.store rfl rfl rfl rfl rfl (by repeat (first | exact rS | refine rN (by assumption) ?_)) (n := 6) rfl rfl (by kernel_rfl) (VC_one _ _) ?_
  simp only [Act.put, nA, nB, nC]
  refine Seq.done fun ws3 hws => ?_
  have HS3 : St w [(bk3, 34, VC m0 m1), (bk1, 34, VC al ah), (bk2, 34, #[.bool false, .string ⟨#[]⟩, .string ⟨#[]⟩, .bool false, .string ⟨#[]⟩, .string ⟨#[]⟩])] ws3 := hws.list1 (by repeat (first | exact rS | refine rN (by assumption) ?_))
  clear HS2 hws
  go_upto_region 3 with (fail)
  refine wp_seq_text [] (StR.no HS3) ?_
  refine Seq.slice (n := 2) (e := 3) (cs := #[.int .i64 (-1), .int .i64 1]) rfl rfl (by intro w; go_simp; try rfl) ?_
  intro bk21 _ _ hbk21_r
  simp only [Act.put, nA, nB, nC]
  refine Seq.pure (v := .int .i64 2) rfl rfl (by intro w; go_simp; try rfl) ?_
  simp only [Act.put, nA, nB, nC]
  refine Seq.pure rfl rfl (by intro w; go_simp; try rfl) ?_
  simp only [Act.put, nA, nB, nC]
  refine Seq.done fun ws4 hws => ?_
  have HS4 : St w [(bk21, 3, #[.int .i64 (-1), .int .i64 1]), (bk3, 34, VC m0 m1), (bk1, 34, VC al ah), (bk2, 34, #[.bool false, .string ⟨#[]⟩, .string ⟨#[]⟩, .bool false, .string ⟨#[]⟩, .string ⟨#[]⟩])] ws4 := hws.list1 (by repeat (first | exact rS | refine rN (by assumption) ?_))
  clear HS3 hws
  go_wp2_with fail
  refine wp_loop_rounds 3 ?_
  rw [rounds_succ]
  go_upto_region 4 with (fail)
  refine wp_seq_text [] (StR.no HS4) ?_
  refine Seq.pure rfl rfl (by intro w; go_simp; try rfl) ?_
  simp only [Act.put, nA, nB, nC]
  refine Seq.done fun ws5 hws => ?_
  have HS5 := hws.st
  clear HS4 hws
  go_upto_region 5 with (fail)
  refine wp_seq_text [] (StR.no HS5) ?_
  refine Seq.pure rfl rfl (by intro w; go_simp; try rfl) ?_
  simp only [Act.put, nA, nB, nC]
  refine Seq.loadCell rfl rfl rfl rfl (by repeat (first | exact mC | apply mT)) (v := .int .i64 (-1)) rfl (by kernel_rfl) rfl ?_
  simp only [Act.put, nA, nB, nC]
  refine Seq.pure rfl rfl (by intro w; go_simp; try rfl) ?_
  simp only [Act.put, nA, nB, nC]
  refine Seq.done fun ws6 hws => ?_
  have HS6 := hws.st
  clear HS5 hws
  go_upto_region 6 with (fail)
  refine wp_seq_text [] (StR.no HS6) ?_
  refine Seq.pure rfl rfl (by intro w; go_simp; try rfl) ?_
  simp only [Act.put, nA, nB, nC]
  refine Seq.call rfl rfl rfl rfl (by kernel_rfl) (of_q HT.out (by omega) (by omega) (show ((-1 : Int) : Rat) = (-1 : Rat) from rfl)) ?_
  simp only [Act.put, nA, nB, nC]
  refine Seq.alloc rfl rfl rfl (z := .agg #[.bool false, .string ⟨#[]⟩, .string ⟨#[]⟩]) (by kernel_rfl) rfl ?_
  intro bk6 _ _ hbk6_r
  simp only [Act.put, nA, nB, nC]
  refine Seq.store rfl rfl rfl rfl rfl (by repeat (first | exact rS | refine rN (by assumption) ?_)) (n := 3) rfl rfl (by kernel_rfl) (RC_one _) ?_
  simp only [Act.put, nA, nB, nC]
  refine Seq.done fun ws7 hws => ?_
  have HS7 : St w [(bk6, 32, RC (-1 : Rat)), (bk21, 3, #[.int .i64 (-1), .int .i64 1]), (bk3, 34, VC m0 m1), (bk1, 34, VC al ah), (bk2, 34, #[.bool false, .string ⟨#[]⟩, .string ⟨#[]⟩, .bool false, .string ⟨#[]⟩, .string ⟨#[]⟩])] ws7 := hws.list1 (by repeat (first | exact rS | refine rN (by assumption) ?_))
  clear HS6 hws
  go_upto_region 7 with (fail)
  refine wp_seq_text [] (StR.no HS7) ?_
  refine Seq.load rfl rfl rfl rfl (by repeat (first | exact mC | apply mT)) (n := 6) rfl (by kernel_rfl) ?_
  simp only [Act.put, nA, nB, nC]
  refine Seq.load rfl rfl rfl rfl (by repeat (first | exact mC | apply mT)) (n := 3) rfl (by kernel_rfl) ?_
  simp only [Act.put, nA, nB, nC]
  refine Seq.call rfl rfl rfl rfl (by kernel_rfl) (has_q (k := (1 * k + 2)) HT.out (Z_al.out.more (by omega)) (Z_ah.out.more (by omega)) ((show Rz 2 (-1 : Rat) from Rz.lit (z := -1) rfl (by decide)).more (by omega)) HLE.out H1.out (by omega)) ?_
  simp only [Act.put, nA, nB, nC]
  refine Seq.done fun ws8 hws => ?_
  have HS8 := hws.st
  clear HS7 hws
  go_upto_region 9 with (fail)
  refine wp_seq_text [] (StR.no HS8) ?_
  refine Seq.pure (v := .int .i64 1) rfl rfl (by intro w; go_simp; try rfl) ?_
  simp only [Act.put, nA, nB, nC]
  refine Seq.pure rfl rfl (by intro w; go_simp; try rfl) ?_
  simp only [Act.put, nA, nB, nC]
  refine Seq.done fun ws9 hws => ?_
  have HS9 := hws.st
  clear HS8 hws
  go_wp2_with fail
  rw [rounds_succ]
  go_upto_region 4 with (fail)
  refine wp_seq_text [] (StR.no HS9) ?_
  refine Seq.pure rfl rfl (by intro w; go_simp; try rfl) ?_
  simp only [Act.put, nA, nB, nC]
  refine Seq.done fun ws10 hws => ?_
  have HS10 := hws.st
  clear HS9 hws
  go_upto_region 5 with (fail)
  refine wp_seq_text [] (StR.no HS10) ?_
  refine Seq.pure rfl rfl (by intro w; go_simp; try rfl) ?_
  simp only [Act.put, nA, nB, nC]
  refine Seq.loadCell rfl rfl rfl rfl (by repeat (first | exact mC | apply mT)) (v := .int .i64 1) rfl (by kernel_rfl) rfl ?_
  simp only [Act.put, nA, nB, nC]
  refine Seq.pure rfl rfl (by intro w; go_simp; try rfl) ?_
  simp only [Act.put, nA, nB, nC]
  refine Seq.done fun ws11 hws => ?_
  have HS11 := hws.st
  clear HS10 hws
  go_upto_region 6 with (fail)
  refine wp_seq_text [] (StR.no HS11) ?_
  refine Seq.pure rfl rfl (by intro w; go_simp; try rfl) ?_
  simp only [Act.put, nA, nB, nC]
  refine Seq.call rfl rfl rfl rfl (by kernel_rfl) (of_q HT.out (by omega) (by omega) (show ((1 : Int) : Rat) = (1 : Rat) from rfl)) ?_
  simp only [Act.put, nA, nB, nC]
  refine Seq.alloc rfl rfl rfl (z := .agg #[.bool false, .string ⟨#[]⟩, .string ⟨#[]⟩]) (by kernel_rfl) rfl ?_
  intro bk6_1 _ _ hbk6_1_r
  simp only [Act.put, nA, nB, nC]
  refine Seq.store rfl rfl rfl rfl rfl (by repeat (first | exact rS | refine rN (by assumption) ?_)) (n := 3) rfl rfl (by kernel_rfl) (RC_one _) ?_
  simp only [Act.put, nA, nB, nC]
  refine Seq.done fun ws12 hws => ?_
  have HS12 : St w [(bk6_1, 32, RC (1 : Rat)), (bk6, 32, RC (-1 : Rat)), (bk21, 3, #[.int .i64 (-1), .int .i64 1]), (bk3, 34, VC m0 m1), (bk1, 34, VC al ah), (bk2, 34, #[.bool false, .string ⟨#[]⟩, .string ⟨#[]⟩, .bool false, .string ⟨#[]⟩, .string ⟨#[]⟩])] ws12 := hws.list1 (by repeat (first | exact rS | refine rN (by assumption) ?_))
  clear HS11 hws
  go_upto_region 7 with (fail)
  refine wp_seq_text [] (StR.no HS12) ?_
  refine Seq.load rfl rfl rfl rfl (by repeat (first | exact mC | apply mT)) (n := 6) rfl (by kernel_rfl) ?_
  simp only [Act.put, nA, nB, nC]
  refine Seq.load rfl rfl rfl rfl (by repeat (first | exact mC | apply mT)) (n := 3) rfl (by kernel_rfl) ?_
  simp only [Act.put, nA, nB, nC]
  refine Seq.call rfl rfl rfl rfl (by kernel_rfl) (has_q (k := (1 * k + 2)) HT.out (Z_al.out.more (by omega)) (Z_ah.out.more (by omega)) ((show Rz 2 (1 : Rat) from Rz.lit (z := 1) rfl (by decide)).more (by omega)) HLE.out H2.out (by omega)) ?_
  simp only [Act.put, nA, nB, nC]
  refine Seq.done fun ws13 hws => ?_
  have HS13 := hws.st
  clear HS12 hws
  go_upto_region 8 with (fail)
  have HPbk3 : St w [(bk3, 34, VC m0 m1), (bk6_1, 32, RC (1 : Rat)), (bk6, 32, RC (-1 : Rat)), (bk21, 3, #[.int .i64 (-1), .int .i64 1]), (bk1, 34, VC al ah), (bk2, 34, #[.bool false, .string ⟨#[]⟩, .string ⟨#[]⟩, .bool false, .string ⟨#[]⟩, .string ⟨#[]⟩])] _ := St.perm HS13 (List.perm_middle (l₁ := ([(bk6_1, 32, RC (1 : Rat)), (bk6, 32, RC (-1 : Rat)), (bk21, 3, #[.int .i64 (-1), .int .i64 1])] : List Own)))
  refine wp_seq [0] (by kernel_rfl) (by kernel_rfl) (Reg.fin.put Reg.fin_no _ _) (StR.move (StR.no HPbk3)) ?_
  refine Seq.get rfl rfl rfl rfl (by repeat (first | exact rS | refine rN (by assumption) ?_)) (n := 6) rfl (by kernel_rfl) ?_
  simp only [Act.put, nA, nB, nC]
  refine Seq.load rfl rfl rfl rfl (by repeat (first | exact mC | apply mT)) (n := 3) rfl (by kernel_rfl) ?_
  simp only [Act.put, nA, nB, nC]
  refine Seq.call rfl rfl rfl rfl (by kernel_rfl) (sof_q (k := 2) HT.out ((show Rz 2 (1 : Rat) from Rz.lit (z := 1) rfl (by decide)).more (by omega))  rfl rfl (by omega)) ?_
  simp only [Act.put, nA, nB, nC]
  refine Seq.call rfl rfl rfl rfl (by kernel_rfl) (sjoin_q (k := (8 * k + 10)) HT.out (Z_m0.out.more (by omega)) (Z_m1.out.more (by omega)) ((show Rz 2 (1 : Rat) from Rz.lit (z := 1) rfl (by decide)).more (by omega)) ((show Rz 2 (1 : Rat) from Rz.lit (z := 1) rfl (by decide)).more (by omega)) HJ.out.1 (Rat.le_refl (a := (1 : Rat))) HJ.out.2.2.2.1.1 HJ.out.2.2.2.2.2.1 (by omega)) ?_
  simp only [Act.put, nA, nB, nC]
  refine Seq.store rfl rfl rfl rfl rfl (by repeat (first | exact rS | refine rN (by assumption) ?_)) (n := 6) rfl rfl (by kernel_rfl) (VC_one _ _) ?_
  simp only [Act.put, nA, nB, nC]
  refine Seq.done fun ws14 hws => ?_
  have HS14 : St w [(bk3, 34, VC m0 (1 : Rat)), (bk6_1, 32, RC (1 : Rat)), (bk6, 32, RC (-1 : Rat)), (bk21, 3, #[.int .i64 (-1), .int .i64 1]), (bk1, 34, VC al ah), (bk2, 34, #[.bool false, .string ⟨#[]⟩, .string ⟨#[]⟩, .bool false, .string ⟨#[]⟩, .string ⟨#[]⟩])] ws14 := hws.list1 (by repeat (first | exact rS | refine rN (by assumption) ?_))
  clear HS13 hws HPbk3
  go_upto_region 9 with (fail)
  refine wp_seq_text [] (StR.no HS14) ?_
  refine Seq.pure (v := .int .i64 2) rfl rfl (by intro w; go_simp; try rfl) ?_
  simp only [Act.put, nA, nB, nC]
  refine Seq.pure rfl rfl (by intro w; go_simp; try rfl) ?_
  simp only [Act.put, nA, nB, nC]
  refine Seq.done fun ws15 hws => ?_
  have HS15 := hws.st
  clear HS14 hws
  go_wp2_with fail
  rw [rounds_succ]
  go_upto_region 4 with (fail)
  refine wp_seq_text [] (StR.no HS15) ?_
  refine Seq.pure rfl rfl (by intro w; go_simp; try rfl) ?_
  simp only [Act.put, nA, nB, nC]
  refine Seq.done fun ws16 hws => ?_
  have HS16 := hws.st
  clear HS15 hws
  go_upto_region 10 with (fail)
  have HPbk2 : St w [(bk2, 34, #[.bool false, .string ⟨#[]⟩, .string ⟨#[]⟩, .bool false, .string ⟨#[]⟩, .string ⟨#[]⟩]), (bk3, 34, VC m0 (1 : Rat)), (bk6_1, 32, RC (1 : Rat)), (bk6, 32, RC (-1 : Rat)), (bk21, 3, #[.int .i64 (-1), .int .i64 1]), (bk1, 34, VC al ah)] _ := St.perm HS16 (List.perm_middle (l₁ := ([(bk3, 34, VC m0 (1 : Rat)), (bk6_1, 32, RC (1 : Rat)), (bk6, 32, RC (-1 : Rat)), (bk21, 3, #[.int .i64 (-1), .int .i64 1]), (bk1, 34, VC al ah)] : List Own)))
  refine wp_seq_text [] (StR.move (StR.no HPbk2)) ?_
  refine Seq.load rfl rfl rfl rfl (by repeat (first | exact mC | apply mT)) (n := 6) rfl (by kernel_rfl) ?_
  simp only [Act.put, nA, nB, nC]
  refine Seq.store rfl rfl rfl rfl rfl (by repeat (first | exact rS | refine rN (by assumption) ?_)) (n := 6) rfl rfl (by kernel_rfl) (VC_one _ _) ?_
  simp only [Act.put, nA, nB, nC]
  refine Seq.done fun ws17 hws => ?_
  have HS17 : St w [(bk2, 34, VC m0 (1 : Rat)), (bk3, 34, VC m0 (1 : Rat)), (bk6_1, 32, RC (1 : Rat)), (bk6, 32, RC (-1 : Rat)), (bk21, 3, #[.int .i64 (-1), .int .i64 1]), (bk1, 34, VC al ah)] ws17 := hws.list1 (by repeat (first | exact rS | refine rN (by assumption) ?_))
  clear HS16 hws HPbk2
  go_wp2_with fail
  exact ret_own rfl rfl rfl HS17 (by repeat (first | exact mC | apply mT)) (n := 6) rfl (by kernel_rfl) ⟨rfl, HS17.below⟩
set_option maxHeartbeats 4000000 in
set_option maxRecDepth 20000 in
theorem ssin_nn {k : Nat} {al ah : Rat} {W : World} {l : List Own} (hT : Tab W) (Zal : Rz k al) (Zah : Rz k ah) (hlea : al ≤ ah) (h1 : ¬ (al ≤ -1 ∧ -1 ≤ ah)) (h2 : ¬ (al ≤ 1 ∧ 1 ≤ ah)) (hk : k ≤ 1000000000) (w : World) (h : St W l w) :
    Calls Tryd.prog 92 #[.agg (VC al ah)] w fun e w' => e = .returned (.agg (VC (minQ (sinT al) (sinT ah)) (maxQ (sinT al) (sinT ah)))) ∧ Below w.heap.size w w' := by
  have HT := Lib.hid (tabS hT h); clear hT h
  have Z_al := Lib.hid Zal; clear Zal
  have Z_ah := Lib.hid Zah; clear Zah
  have H1 := Lib.hid (show decide (al ≤ (-1 : Rat) ∧ (-1 : Rat) ≤ ah) = false from decide_eq_false h1); clear h1
  have H2 := Lib.hid (show decide (al ≤ (1 : Rat) ∧ (1 : Rat) ≤ ah) = false from decide_eq_false h2); clear h2
  have HLE := Lib.hid hlea; clear hlea
  obtain ⟨m0, hm0⟩ : ∃ r_, minQ (sinT al) (sinT ah) = r_ := ⟨_, rfl⟩
  obtain ⟨m1, hm1⟩ : ∃ r_, maxQ (sinT al) (sinT ah) = r_ := ⟨_, rfl⟩
  have Z_m0 := Lib.hid (show Rz (8 * k + 10) m0 from hm0 ▸ (Rz.sinT Z_al.out).min (Rz.sinT Z_ah.out))
  have Z_m1 := Lib.hid (show Rz (8 * k + 10) m1 from hm1 ▸ (Rz.sinT Z_al.out).max (Rz.sinT Z_ah.out))
  have g0 : -1 ≤ m0 := hm0 ▸ le_min (sin_ge al) (sin_ge ah)
  have g1 : m1 ≤ 1 := hm1 ▸ max_le (sin_le1 al) (sin_le1 ah)
  have g2 : m0 ≤ m1 := hm0 ▸ hm1 ▸ min_le_max _ _
  have HJ := Lib.hid (show m0 ≤ m1 ∧ minQ m0 (-1) = -1 ∧ maxQ m1 (-1) = m1 ∧ (minQ m0 1 = m0 ∧ minQ (-1) 1 = -1) ∧ (-1 : Rat) ≤ m1 ∧ maxQ m1 1 = 1 ∧ m0 ≤ 1 from
    ⟨g2, (jm g0 g1).1, (jx (a := m1) (b := m1) (by grind) g1).1, ⟨(jx (a := m0) (b := m0) g0 (by grind)).2, (jx (a := -1) (b := -1) Rat.le_refl (by grind)).2⟩, by grind, (jm g0 g1).2, by grind⟩)
  have HX := Lib.hid (show m0 ≤ (1 : Rat) from by grind)
  clear g0 g1 g2
  have HM := Lib.hid (And.intro hm0 hm1)
  rw [hm0, hm1]
  clear hm0 hm1
  go_enter Tryd.func92, Tryd.ntmps92
  have HS : St w [] w := St.start
  go_upto_region 0 with (fail)
  refine wp_seq_text [] (StR.no HS) ?_
  refine Seq.box rfl rfl rfl (v := .agg (VC al ah)) (cs := VC al ah) rfl rfl ?_
  intro bk1 _ _ hbk1_r
  simp only [Act.put, nA, nB, nC]
  refine Seq.alloc rfl rfl rfl (z := .agg #[.bool false, .string ⟨#[]⟩, .string ⟨#[]⟩, .bool false, .string ⟨#[]⟩, .string ⟨#[]⟩]) (by kernel_rfl) rfl ?_
  intro bk2 _ _ hbk2_r
  obtain ⟨ne_bk2_bk1, hbk2_r⟩ := Reg.ne_of_put hbk2_r
  have ne_bk1_bk2 := Ne.symm ne_bk2_bk1
  simp only [Act.put, nA, nB, nC]
  refine Seq.done fun ws1 hws => ?_
  have HS1 : St w [(bk1, 34, VC al ah), (bk2, 34, #[.bool false, .string ⟨#[]⟩, .string ⟨#[]⟩, .bool false, .string ⟨#[]⟩, .string ⟨#[]⟩])] ws1 := hws.list2 (by repeat (first | exact rS | refine rN (by assumption) ?_)) (by repeat (first | exact rS | refine rN (by assumption) ?_)) (by assumption)
  clear HS hws
  go_upto_region 1 with (fail)
  refine wp_seq_text [0, 2] (StR.move (StR.no HS1)) ?_
  refine Seq.get rfl rfl rfl rfl (by repeat (first | exact rS | refine rN (by assumption) ?_)) (n := 6) rfl (by kernel_rfl) ?_
  simp only [Act.put, nA, nB, nC]
  refine Seq.get rfl rfl rfl rfl (by repeat (first | exact rS | refine rN (by assumption) ?_)) (n := 6) rfl (by kernel_rfl) ?_
  simp only [Act.put, nA, nB, nC]
  refine Seq.call rfl rfl rfl rfl (by kernel_rfl) (sjoin_q (k := (1 * k + 0)) HT.out (Z_al.out.more (by omega)) (Z_ah.out.more (by omega)) (Z_al.out.more (by omega)) (Z_ah.out.more (by omega)) HLE.out HLE.out (min_self _) (max_self _) (by omega)) ?_
  simp only [Act.put, nA, nB, nC]
  refine Seq.store rfl rfl rfl rfl rfl (by repeat (first | exact rS | refine rN (by assumption) ?_)) (n := 6) rfl rfl (by kernel_rfl) (VC_one _ _) ?_
  simp only [Act.put, nA, nB, nC]
  refine Seq.done fun ws2 hws => ?_
  have HS2 : St w [(bk1, 34, VC al ah), (bk2, 34, #[.bool false, .string ⟨#[]⟩, .string ⟨#[]⟩, .bool false, .string ⟨#[]⟩, .string ⟨#[]⟩])] ws2 := hws.list1 (by repeat (first | exact rS | refine rN (by assumption) ?_))
  clear HS1 hws
  go_upto_region 2 with (fail)
  refine wp_seq [] (by kernel_rfl) (by kernel_rfl) Reg.fin_no (StR.no HS2) ?_
  refine Seq.pure rfl rfl (by intro w; go_simp; try rfl) ?_
  simp only [Act.put, nA, nB, nC]
  refine Seq.loadAt rfl rfl rfl rfl (by repeat (first | exact mC | apply mT)) (n := 3) (cs' := RC al) (Nat.le_of_ble_eq_true rfl) (by kernel_rfl) rfl ?_
  simp only [Act.put, nA, nB, nC]
  refine Seq.call rfl rfl rfl rfl (by kernel_rfl) (tof_q (k := (1 * k + 0)) HT.out (Z_al.out.more (by omega))  rfl (by omega)) ?_
  simp only [Act.put, nA, nB, nC]
  refine Seq.call rfl rfl rfl rfl (by kernel_rfl) (sin_q (k := (1 * k + 0)) HT.out (Z_al.out.more (by omega)) (fun h => by cases h) rfl (by omega)) ?_
  simp only [Act.put, nA, nB, nC]
  refine Seq.call rfl rfl rfl rfl (by kernel_rfl) (sof_q (k := (8 * k + 10)) HT.out ((Rz.sinT Z_al.out).more (by omega))  rfl rfl (by omega)) ?_
  simp only [Act.put, nA, nB, nC]
  refine Seq.pure rfl rfl (by intro w; go_simp; try rfl) ?_
  simp only [Act.put, nA, nB, nC]
  refine Seq.loadAt rfl rfl rfl rfl (by repeat (first | exact mC | apply mT)) (n := 3) (cs' := RC ah) (Nat.le_of_ble_eq_true rfl) (by kernel_rfl) rfl ?_
  simp only [Act.put, nA, nB, nC]
  refine Seq.call rfl rfl rfl rfl (by kernel_rfl) (tof_q (k := (1 * k + 0)) HT.out (Z_ah.out.more (by omega))  rfl (by omega)) ?_
  simp only [Act.put, nA, nB, nC]
  refine Seq.call rfl rfl rfl rfl (by kernel_rfl) (sin_q (k := (1 * k + 0)) HT.out (Z_ah.out.more (by omega)) (fun h => by cases h) rfl (by omega)) ?_
  simp only [Act.put, nA, nB, nC]
  refine Seq.call rfl rfl rfl rfl (by kernel_rfl) (sof_q (k := (8 * k + 10)) HT.out ((Rz.sinT Z_ah.out).more (by omega))  rfl rfl (by omega)) ?_
  simp only [Act.put, nA, nB, nC]
  refine Seq.call rfl rfl rfl rfl (by kernel_rfl) (sjoin_q (k := (8 * k + 10)) HT.out ((Rz.sinT Z_al.out).more (by omega)) ((Rz.sinT Z_al.out).more (by omega)) ((Rz.sinT Z_ah.out).more (by omega)) ((Rz.sinT Z_ah.out).more (by omega)) (Rat.le_refl (a := sinT al)) (Rat.le_refl (a := sinT ah)) HM.out.1 HM.out.2 (by omega)) ?_
  simp only [Act.put, nA, nB, nC]
  refine Seq.alloc rfl rfl rfl (z := .agg #[.bool false, .string ⟨#[]⟩, .string ⟨#[]⟩, .bool false, .string ⟨#[]⟩, .string ⟨#[]⟩]) (by kernel_rfl) rfl ?_
  intro bk3 _ _ hbk3_r
  simp only [Act.put, nA, nB, nC]
  refine Seq.store rfl rfl rfl rfl rfl (by repeat (first | exact rS | refine rN (by assumption) ?_)) (n := 6) rfl rfl (by kernel_rfl) (VC_one _ _) ?_
  simp only [Act.put, nA, nB, nC]
  refine Seq.done fun ws3 hws => ?_
  have HS3 : St w [(bk3, 34, VC m0 m1), (bk1, 34, VC al ah), (bk2, 34, #[.bool false, .string ⟨#[]⟩, .string ⟨#[]⟩, .bool false, .string ⟨#[]⟩, .string ⟨#[]⟩])] ws3 := hws.list1 (by repeat (first | exact rS | refine rN (by assumption) ?_))
  clear HS2 hws
  go_upto_region 3 with (fail)
  refine wp_seq_text [] (StR.no HS3) ?_
  refine Seq.slice (n := 2) (e := 3) (cs := #[.int .i64 (-1), .int .i64 1]) rfl rfl (by intro w; go_simp; try rfl) ?_
  intro bk21 _ _ hbk21_r
  simp only [Act.put, nA, nB, nC]
  refine Seq.pure (v := .int .i64 2) rfl rfl (by intro w; go_simp; try rfl) ?_
  simp only [Act.put, nA, nB, nC]
  refine Seq.pure rfl rfl (by intro w; go_simp; try rfl) ?_
  simp only [Act.put, nA, nB, nC]
  refine Seq.done fun ws4 hws => ?_
  have HS4 : St w [(bk21, 3, #[.int .i64 (-1), .int .i64 1]), (bk3, 34, VC m0 m1), (bk1, 34, VC al ah), (bk2, 34, #[.bool false, .string ⟨#[]⟩, .string ⟨#[]⟩, .bool false, .string ⟨#[]⟩, .string ⟨#[]⟩])] ws4 := hws.list1 (by repeat (first | exact rS | refine rN (by assumption) ?_))
  clear HS3 hws
  go_wp2_with fail
  refine wp_loop_rounds 3 ?_
  rw [rounds_succ]
  go_upto_region 4 with (fail)
  refine wp_seq_text [] (StR.no HS4) ?_
  refine Seq.pure rfl rfl (by intro w; go_simp; try rfl) ?_
  simp only [Act.put, nA, nB, nC]
  refine Seq.done fun ws5 hws => ?_
  have HS5 := hws.st
  clear HS4 hws
  go_upto_region 5 with (fail)
  refine wp_seq_text [] (StR.no HS5) ?_
  refine Seq.pure rfl rfl (by intro w; go_simp; try rfl) ?_
  simp only [Act.put, nA, nB, nC]
  refine Seq.loadCell rfl rfl rfl rfl (by repeat (first | exact mC | apply mT)) (v := .int .i64 (-1)) rfl (by kernel_rfl) rfl ?_
  simp only [Act.put, nA, nB, nC]
  refine Seq.pure rfl rfl (by intro w; go_simp; try rfl) ?_
  simp only [Act.put, nA, nB, nC]
  refine Seq.done fun ws6 hws => ?_
  have HS6 := hws.st
  clear HS5 hws
  go_upto_region 6 with (fail)
  refine wp_seq_text [] (StR.no HS6) ?_
  refine Seq.pure rfl rfl (by intro w; go_simp; try rfl) ?_
  simp only [Act.put, nA, nB, nC]
  refine Seq.call rfl rfl rfl rfl (by kernel_rfl) (of_q HT.out (by omega) (by omega) (show ((-1 : Int) : Rat) = (-1 : Rat) from rfl)) ?_
  simp only [Act.put, nA, nB, nC]
  refine Seq.alloc rfl rfl rfl (z := .agg #[.bool false, .string ⟨#[]⟩, .string ⟨#[]⟩]) (by kernel_rfl) rfl ?_
  intro bk6 _ _ hbk6_r
  simp only [Act.put, nA, nB, nC]
  refine Seq.store rfl rfl rfl rfl rfl (by repeat (first | exact rS | refine rN (by assumption) ?_)) (n := 3) rfl rfl (by kernel_rfl) (RC_one _) ?_
  simp only [Act.put, nA, nB, nC]
  refine Seq.done fun ws7 hws => ?_
  have HS7 : St w [(bk6, 32, RC (-1 : Rat)), (bk21, 3, #[.int .i64 (-1), .int .i64 1]), (bk3, 34, VC m0 m1), (bk1, 34, VC al ah), (bk2, 34, #[.bool false, .string ⟨#[]⟩, .string ⟨#[]⟩, .bool false, .string ⟨#[]⟩, .string ⟨#[]⟩])] ws7 := hws.list1 (by repeat (first | exact rS | refine rN (by assumption) ?_))
  clear HS6 hws
  go_upto_region 7 with (fail)
  refine wp_seq_text [] (StR.no HS7) ?_
  refine Seq.load rfl rfl rfl rfl (by repeat (first | exact mC | apply mT)) (n := 6) rfl (by kernel_rfl) ?_
  simp only [Act.put, nA, nB, nC]
  refine Seq.load rfl rfl rfl rfl (by repeat (first | exact mC | apply mT)) (n := 3) rfl (by kernel_rfl) ?_
  simp only [Act.put, nA, nB, nC]
  refine Seq.call rfl rfl rfl rfl (by kernel_rfl) (has_q (k := (1 * k + 2)) HT.out (Z_al.out.more (by omega)) (Z_ah.out.more (by omega)) ((show Rz 2 (-1 : Rat) from Rz.lit (z := -1) rfl (by decide)).more (by omega)) HLE.out H1.out (by omega)) ?_
  simp only [Act.put, nA, nB, nC]
  refine Seq.done fun ws8 hws => ?_
  have HS8 := hws.st
  clear HS7 hws
  go_upto_region 9 with (fail)
  refine wp_seq_text [] (StR.no HS8) ?_
  refine Seq.pure (v := .int .i64 1) rfl rfl (by intro w; go_simp; try rfl) ?_
  simp only [Act.put, nA, nB, nC]
  refine Seq.pure rfl rfl (by intro w; go_simp; try rfl) ?_
  simp only [Act.put, nA, nB, nC]
  refine Seq.done fun ws9 hws => ?_
  have HS9 := hws.st
  clear HS8 hws
  go_wp2_with fail
  rw [rounds_succ]
  go_upto_region 4 with (fail)
  refine wp_seq_text [] (StR.no HS9) ?_
  refine Seq.pure rfl rfl (by intro w; go_simp; try rfl) ?_
  simp only [Act.put, nA, nB, nC]
  refine Seq.done fun ws10 hws => ?_
  have HS10 := hws.st
  clear HS9 hws
  go_upto_region 5 with (fail)
  refine wp_seq_text [] (StR.no HS10) ?_
  refine Seq.pure rfl rfl (by intro w; go_simp; try rfl) ?_
  simp only [Act.put, nA, nB, nC]
  refine Seq.loadCell rfl rfl rfl rfl (by repeat (first | exact mC | apply mT)) (v := .int .i64 1) rfl (by kernel_rfl) rfl ?_
  simp only [Act.put, nA, nB, nC]
  refine Seq.pure rfl rfl (by intro w; go_simp; try rfl) ?_
  simp only [Act.put, nA, nB, nC]
  refine Seq.done fun ws11 hws => ?_
  have HS11 := hws.st
  clear HS10 hws
  go_upto_region 6 with (fail)
  refine wp_seq_text [] (StR.no HS11) ?_
  refine Seq.pure rfl rfl (by intro w; go_simp; try rfl) ?_
  simp only [Act.put, nA, nB, nC]
  refine Seq.call rfl rfl rfl rfl (by kernel_rfl) (of_q HT.out (by omega) (by omega) (show ((1 : Int) : Rat) = (1 : Rat) from rfl)) ?_
  simp only [Act.put, nA, nB, nC]
  refine Seq.alloc rfl rfl rfl (z := .agg #[.bool false, .string ⟨#[]⟩, .string ⟨#[]⟩]) (by kernel_rfl) rfl ?_
  intro bk6_1 _ _ hbk6_1_r
  simp only [Act.put, nA, nB, nC]
  refine Seq.store rfl rfl rfl rfl rfl (by repeat (first | exact rS | refine rN (by assumption) ?_)) (n := 3) rfl rfl (by kernel_rfl) (RC_one _) ?_
  simp only [Act.put, nA, nB, nC]
  refine Seq.done fun ws12 hws => ?_
  have HS12 : St w [(bk6_1, 32, RC (1 : Rat)), (bk6, 32, RC (-1 : Rat)), (bk21, 3, #[.int .i64 (-1), .int .i64 1]), (bk3, 34, VC m0 m1), (bk1, 34, VC al ah), (bk2, 34, #[.bool false, .string ⟨#[]⟩, .string ⟨#[]⟩, .bool false, .string ⟨#[]⟩, .string ⟨#[]⟩])] ws12 := hws.list1 (by repeat (first | exact rS | refine rN (by assumption) ?_))
  clear HS11 hws
  go_upto_region 7 with (fail)
  refine wp_seq_text [] (StR.no HS12) ?_
  refine Seq.load rfl rfl rfl rfl (by repeat (first | exact mC | apply mT)) (n := 6) rfl (by kernel_rfl) ?_
  simp only [Act.put, nA, nB, nC]
  refine Seq.load rfl rfl rfl rfl (by repeat (first | exact mC | apply mT)) (n := 3) rfl (by kernel_rfl) ?_
  simp only [Act.put, nA, nB, nC]
  refine Seq.call rfl rfl rfl rfl (by kernel_rfl) (has_q (k := (1 * k + 2)) HT.out (Z_al.out.more (by omega)) (Z_ah.out.more (by omega)) ((show Rz 2 (1 : Rat) from Rz.lit (z := 1) rfl (by decide)).more (by omega)) HLE.out H2.out (by omega)) ?_
  simp only [Act.put, nA, nB, nC]
  refine Seq.done fun ws13 hws => ?_
  have HS13 := hws.st
  clear HS12 hws
  go_upto_region 9 with (fail)
  refine wp_seq_text [] (StR.no HS13) ?_
  refine Seq.pure (v := .int .i64 2) rfl rfl (by intro w; go_simp; try rfl) ?_
  simp only [Act.put, nA, nB, nC]
  refine Seq.pure rfl rfl (by intro w; go_simp; try rfl) ?_
  simp only [Act.put, nA, nB, nC]
  refine Seq.done fun ws14 hws => ?_
  have HS14 := hws.st
  clear HS13 hws
  go_wp2_with fail
  rw [rounds_succ]
  go_upto_region 4 with (fail)
  refine wp_seq_text [] (StR.no HS14) ?_
  refine Seq.pure rfl rfl (by intro w; go_simp; try rfl) ?_
  simp only [Act.put, nA, nB, nC]
  refine Seq.done fun ws15 hws => ?_
  have HS15 := hws.st
  clear HS14 hws
  go_upto_region 10 with (fail)
  have HPbk2 : St w [(bk2, 34, #[.bool false, .string ⟨#[]⟩, .string ⟨#[]⟩, .bool false, .string ⟨#[]⟩, .string ⟨#[]⟩]), (bk6_1, 32, RC (1 : Rat)), (bk6, 32, RC (-1 : Rat)), (bk21, 3, #[.int .i64 (-1), .int .i64 1]), (bk3, 34, VC m0 m1), (bk1, 34, VC al ah)] _ := St.perm HS15 (List.perm_middle (l₁ := ([(bk6_1, 32, RC (1 : Rat)), (bk6, 32, RC (-1 : Rat)), (bk21, 3, #[.int .i64 (-1), .int .i64 1]), (bk3, 34, VC m0 m1), (bk1, 34, VC al ah)] : List Own)))
  refine wp_seq_text [] (StR.move (StR.no HPbk2)) ?_
  refine Seq.load rfl rfl rfl rfl (by repeat (first | exact mC | apply mT)) (n := 6) rfl (by kernel_rfl) ?_
  simp only [Act.put, nA, nB, nC]
  refine Seq.store rfl rfl rfl rfl rfl (by repeat (first | exact rS | refine rN (by assumption) ?_)) (n := 6) rfl rfl (by kernel_rfl) (VC_one _ _) ?_
  simp only [Act.put, nA, nB, nC]
  refine Seq.done fun ws16 hws => ?_
  have HS16 : St w [(bk2, 34, VC m0 m1), (bk6_1, 32, RC (1 : Rat)), (bk6, 32, RC (-1 : Rat)), (bk21, 3, #[.int .i64 (-1), .int .i64 1]), (bk3, 34, VC m0 m1), (bk1, 34, VC al ah)] ws16 := hws.list1 (by repeat (first | exact rS | refine rN (by assumption) ?_))
  clear HS15 hws HPbk2
  go_wp2_with fail
  exact ret_own rfl rfl rfl HS16 (by repeat (first | exact mC | apply mT)) (n := 6) rfl (by kernel_rfl) ⟨rfl, HS16.below⟩
theorem ssin_q {k : Nat} {al ah z0 z1 : Rat} {W : World} {l : List Own} (hT : Tab W) (Zal : Rz k al) (Zah : Rz k ah) (hlea : al ≤ ah) (hz0 : sLo al ah = z0) (hz1 : sHi al ah = z1) (hk : k ≤ 1000000000) (w : World) (h : St W l w) :
    Calls Tryd.prog 92 #[.agg (VC al ah)] w fun e w' => e = .returned (.agg (VC z0 z1)) ∧ Below w.heap.size w w' := by
  subst hz0
  subst hz1
  unfold sLo sHi
  by_cases h1 : al ≤ -1 ∧ -1 ≤ ah
  · by_cases h2 : al ≤ 1 ∧ 1 ≤ ah
    · rw [if_pos h1, if_pos h2]; exact ssin_yy hT Zal Zah hlea h1 h2 hk w h
    · rw [if_pos h1, if_neg h2]; exact ssin_yn hT Zal Zah hlea h1 h2 hk w h
  · by_cases h2 : al ≤ 1 ∧ 1 ≤ ah
    · rw [if_neg h1, if_pos h2]; exact ssin_ny hT Zal Zah hlea h1 h2 hk w h
    · rw [if_neg h1, if_neg h2]; exact ssin_nn hT Zal Zah hlea h1 h2 hk w h
end Go.Proofs.YtdhhbpnnahdofaaDoor
