/- Joined texts: Sp3 Sp5 ShL Sp6. -/
import Derived.Test.YtoejojfjiikogaaGreatDoorSp2
import Derived.LoopN
/- package span (printed by lawvec.py). -/
namespace Go.Proofs.YtoejojfjiikogaaGreatDoor
open Go.RowKit
set_option linter.unusedVariables false
set_option linter.unusedSimpArgs false

end Go.Proofs.YtoejojfjiikogaaGreatDoor
/- made, spanBegun of package gantkeep1; span.Make, span.Sq (printed by lawvec.py). -/
namespace Go.Proofs.YtoejojfjiikogaaGreatDoor
open Go.RowKit
set_option linter.unusedVariables false
set_option linter.unusedSimpArgs false

theorem min_le_max (a b : Rat) : minQ a b ≤ maxQ a b := by unfold minQ maxQ cmpQ; grind
theorem le_min {a b c : Rat} (h1 : c ≤ a) (h2 : c ≤ b) : c ≤ minQ a b := by unfold minQ; split <;> assumption
theorem max_le {a b c : Rat} (h1 : a ≤ c) (h2 : b ≤ c) : maxQ a b ≤ c := by unfold maxQ; split <;> assumption
set_option maxRecDepth 20000 in
theorem made_sq {x y : Int} {z0 z1 : Rat} {W : World} {l : List Own} (hT : Tab W) (hx : (-9223372036854775808 ≤ x ∧ x ≤ 9223372036854775807)) (hy : (-9223372036854775808 ≤ y ∧ y ≤ 9223372036854775807)) (hz0 : minQ (ratMq x) (ratMq y) = z0) (hz1 : maxQ (ratMq x) (ratMq y) = z1) (w : World) (h : St W l w) :
    Calls Tryz.prog 35 #[.int .i64 x, .int .i64 y] w fun e w' => e = .returned (.agg (VC z0 z1)) ∧ Below w.heap.size w w' := by
  subst hz0 hz1
  have HT := Lib.hid (tabS hT h); clear hT h
  have HI := Lib.hid (And.intro hx hy); clear hx hy
  go_enter Tryz.func35, Tryz.ntmps35
  have HS : St w [] w := St.start
  go_upto_region 0 with (fail)
  refine wp_seq_text [] (StR.no HS) ?_
  refine Seq.alloc rfl rfl rfl (z := .agg #[.bool false, .string ⟨#[]⟩, .string ⟨#[]⟩, .bool false, .string ⟨#[]⟩, .string ⟨#[]⟩]) (by kernel_rfl) rfl ?_
  intro bk4 _ _ hbk4_r
  simp only [Act.put, nA, nB, nC]
  refine Seq.done fun ws1 hws => ?_
  have HS1 : St w [(bk4, 41, #[.bool false, .string ⟨#[]⟩, .string ⟨#[]⟩, .bool false, .string ⟨#[]⟩, .string ⟨#[]⟩])] ws1 := hws.list1 (by repeat (first | exact rS | refine rN (by assumption) ?_))
  clear HS hws
  go_upto_region 1 with (fail)
  refine wp_seq_text [] (StR.no HS1) ?_
  refine Seq.pure rfl rfl (by intro w; go_simp; try rfl) ?_
  simp only [Act.put, nA, nB, nC]
  refine Seq.call rfl rfl rfl rfl (by kernel_rfl) (ratM_q rfl HI.out.1.1 HI.out.1.2) ?_
  simp only [Act.put, nA, nB, nC]
  refine Seq.pure rfl rfl (by intro w; go_simp; try rfl) ?_
  simp only [Act.put, nA, nB, nC]
  refine Seq.call rfl rfl rfl rfl (by kernel_rfl) (ratM_q rfl HI.out.2.1 HI.out.2.2) ?_
  simp only [Act.put, nA, nB, nC]
  refine Seq.alloc rfl rfl rfl (z := .agg #[.bool false, .string ⟨#[]⟩, .string ⟨#[]⟩]) (by kernel_rfl) rfl ?_
  intro bk5 _ _ hbk5_r
  simp only [Act.put, nA, nB, nC]
  refine Seq.alloc rfl rfl rfl (z := .agg #[.bool false, .string ⟨#[]⟩, .string ⟨#[]⟩]) (by kernel_rfl) rfl ?_
  intro bk6 _ _ hbk6_r
  obtain ⟨ne_bk6_bk5, hbk6_r⟩ := Reg.ne_of_put hbk6_r
  have ne_bk5_bk6 := Ne.symm ne_bk6_bk5
  simp only [Act.put, nA, nB, nC]
  refine Seq.store rfl rfl rfl rfl rfl (by repeat (first | exact rS | refine rN (by assumption) ?_)) (n := 3) rfl rfl (by kernel_rfl) (RC_one _) ?_
  simp only [Act.put, nA, nB, nC]
  refine Seq.store rfl rfl rfl rfl rfl (by repeat (first | exact rS | refine rN (by assumption) ?_)) (n := 3) rfl rfl (by kernel_rfl) (RC_one _) ?_
  simp only [Act.put, nA, nB, nC]
  refine Seq.done fun ws2 hws => ?_
  have HS2 : St w [(bk5, 24, RC (ratMq x)), (bk6, 24, RC (ratMq y)), (bk4, 41, #[.bool false, .string ⟨#[]⟩, .string ⟨#[]⟩, .bool false, .string ⟨#[]⟩, .string ⟨#[]⟩])] ws2 := hws.list2 (by repeat (first | exact rS | refine rN (by assumption) ?_)) (by repeat (first | exact rS | refine rN (by assumption) ?_)) (by assumption)
  clear HS1 hws
  go_upto_region 2 with (fail)
  have HPbk4 : St w [(bk4, 41, #[.bool false, .string ⟨#[]⟩, .string ⟨#[]⟩, .bool false, .string ⟨#[]⟩, .string ⟨#[]⟩]), (bk5, 24, RC (ratMq x)), (bk6, 24, RC (ratMq y))] _ := St.perm HS2 (List.perm_middle (l₁ := ([(bk5, 24, RC (ratMq x)), (bk6, 24, RC (ratMq y))] : List Own)))
  refine wp_seq [] (by kernel_rfl) (by kernel_rfl) (Reg.fin.put Reg.fin_no _ _) (StR.move (StR.no HPbk4)) ?_
  refine Seq.load rfl rfl rfl rfl (by repeat (first | exact mC | apply mT)) (n := 3) rfl (by kernel_rfl) ?_
  simp only [Act.put, nA, nB, nC]
  refine Seq.load rfl rfl rfl rfl (by repeat (first | exact mC | apply mT)) (n := 3) rfl (by kernel_rfl) ?_
  simp only [Act.put, nA, nB, nC]
  refine Seq.call rfl rfl rfl rfl (by kernel_rfl) (min_q (k := 1) HT.out ((ratMq_small x).rz.more (by omega)) ((ratMq_small y).rz.more (by omega)) rfl (by omega)) ?_
  simp only [Act.put, nA, nB, nC]
  refine Seq.load rfl rfl rfl rfl (by repeat (first | exact mC | apply mT)) (n := 3) rfl (by kernel_rfl) ?_
  simp only [Act.put, nA, nB, nC]
  refine Seq.load rfl rfl rfl rfl (by repeat (first | exact mC | apply mT)) (n := 3) rfl (by kernel_rfl) ?_
  simp only [Act.put, nA, nB, nC]
  refine Seq.call rfl rfl rfl rfl (by kernel_rfl) (max_q (k := 1) HT.out ((ratMq_small x).rz.more (by omega)) ((ratMq_small y).rz.more (by omega)) rfl (by omega)) ?_
  simp only [Act.put, nA, nB, nC]
  refine Seq.pure (v := .agg (VC (minQ (ratMq x) (ratMq y)) (maxQ (ratMq x) (ratMq y)))) rfl rfl (fun w => bld_Span rfl rfl rfl w) ?_
  simp only [Act.put, nA, nB, nC]
  refine Seq.store rfl rfl rfl rfl rfl (by repeat (first | exact rS | refine rN (by assumption) ?_)) (n := 6) rfl rfl (by kernel_rfl) (VC_one _ _) ?_
  simp only [Act.put, nA, nB, nC]
  refine Seq.done fun ws3 hws => ?_
  have HS3 : St w [(bk4, 41, VC (minQ (ratMq x) (ratMq y)) (maxQ (ratMq x) (ratMq y))), (bk5, 24, RC (ratMq x)), (bk6, 24, RC (ratMq y))] ws3 := hws.list1 (by repeat (first | exact rS | refine rN (by assumption) ?_))
  clear HS2 hws HPbk4
  go_wp2_with fail
  exact ret_own rfl rfl rfl HS3 (by repeat (first | exact mC | apply mT)) (n := 6) rfl (by kernel_rfl) ⟨rfl, HS3.below⟩
end Go.Proofs.YtoejojfjiikogaaGreatDoor
/- Plain laws: what is taken from spans is in the result. -/
namespace Go.Proofs.YtoejojfjiikogaaGreatDoor
open Go.RowKit
set_option linter.unusedVariables false
set_option linter.unusedSimpArgs false

theorem mul_le_r {a b c : Rat} (h : a ≤ b) (hc : 0 ≤ c) : a * c ≤ b * c := by
  rcases rat_tri a b with h1 | h1 | h1
  · rcases rat_tri c 0 with h2 | h2 | h2
    · grind
    · subst h2; grind
    · have := mul_lt_r h1 h2; grind
  · subst h1; grind
  · grind
/-- a number of a span -/
def ptQ (l h : Rat) (k : Int) : Rat := l + (((belowN k 9 : Nat) : Int) : Rat) / ((8 : Int) : Rat) * (h - l)
theorem pt_in {l h : Rat} (k : Int) (hle : l ≤ h) : l ≤ ptQ l h k ∧ ptQ l h k ≤ h := by
  have hm := belowN_lt k (show 0 < 9 by omega)
  unfold ptQ
  have h8 : ((8 : Int) : Rat) = 8 := rfl
  have m0 : (0 : Rat) ≤ (((belowN k 9 : Nat) : Int) : Rat) := by
    have : ((0 : Int) : Rat) ≤ (((belowN k 9 : Nat) : Int) : Rat) := Rat.intCast_le_intCast.2 (by omega)
    exact this
  have m8 : (((belowN k 9 : Nat) : Int) : Rat) ≤ 8 := by
    have : (((belowN k 9 : Nat) : Int) : Rat) ≤ ((8 : Int) : Rat) := Rat.intCast_le_intCast.2 (by omega)
    exact this
  rw [h8]
  generalize (((belowN k 9 : Nat) : Int) : Rat) = m at *
  have e1 : m / 8 * (h - l) * 8 = m * (h - l) := by grind
  have e2 : 0 * (h - l) ≤ m * (h - l) := mul_le_r m0 (by grind)
  have e3 : m * (h - l) ≤ 8 * (h - l) := mul_le_r m8 (by grind)
  constructor <;> grind
end Go.Proofs.YtoejojfjiikogaaGreatDoor
/- span.Div, Out, Sq; part (printed by lawvec.py). -/
namespace Go.Proofs.YtoejojfjiikogaaGreatDoor
open Go.RowKit
set_option linter.unusedVariables false
set_option linter.unusedSimpArgs false

set_option maxHeartbeats 2000000 in
set_option maxRecDepth 20000 in
theorem part_q {k : Nat} {al ah z0 : Rat} {x : Int} {W : World} {l : List Own} (hT : Tab W) (Zal : Rz k al) (Zah : Rz k ah) (hx : (-9223372036854775808 ≤ x ∧ x ≤ 9223372036854775807)) (hz0 : ptQ al ah x = z0) (hk : k ≤ 1000000000000) (w : World) (h : St W l w) :
    Calls Tryz.prog 13 #[.agg (VC al ah), .int .i64 x] w fun e w' => e = .returned (.agg (RC z0)) ∧ Below w.heap.size w w' := by
  subst hz0
  unfold ptQ
  have HT := Lib.hid (tabS hT h); clear hT h
  have Z_al := Lib.hid Zal; clear Zal
  have Z_ah := Lib.hid Zah; clear Zah
  have HI := Lib.hid hx; clear hx
  have HM := Lib.hid (show (((belowN x 9 : Nat) : Int)).natAbs < 65536 from by have := belowN_lt x (show 0 < 9 by omega); omega)
  go_enter Tryz.func13, Tryz.ntmps13
  have HS : St w [] w := St.start
  go_upto_region 0 with (fail)
  refine wp_seq_text [] (StR.no HS) ?_
  refine Seq.box rfl rfl rfl (v := .agg (VC al ah)) (cs := VC al ah) rfl rfl ?_
  intro bk2 _ _ hbk2_r
  simp only [Act.put, List.setIfInBounds_toArray, List.set_cons_zero, List.set_cons_succ]
  refine Seq.alloc rfl rfl rfl (z := .agg #[.bool false, .string ⟨#[]⟩, .string ⟨#[]⟩]) (by kernel_rfl) rfl ?_
  intro bk4 _ _ hbk4_r
  obtain ⟨ne_bk4_bk2, hbk4_r⟩ := Reg.ne_of_put hbk4_r
  have ne_bk2_bk4 := Ne.symm ne_bk4_bk2
  simp only [Act.put, List.setIfInBounds_toArray, List.set_cons_zero, List.set_cons_succ]
  refine Seq.done fun ws1 hws => ?_
  have HS1 : St w [(bk2, 41, VC al ah), (bk4, 24, #[.bool false, .string ⟨#[]⟩, .string ⟨#[]⟩])] ws1 := hws.list2 (by first | exact rS | exact rN (by assumption) (rS) | exact rN (by assumption) (rN (by assumption) (rS)) | exact rN (by assumption) (rN (by assumption) (rN (by assumption) (rS))) | exact rN (by assumption) (rN (by assumption) (rN (by assumption) (rN (by assumption) (rS))))) (by first | exact rS | exact rN (by assumption) (rS) | exact rN (by assumption) (rN (by assumption) (rS)) | exact rN (by assumption) (rN (by assumption) (rN (by assumption) (rS))) | exact rN (by assumption) (rN (by assumption) (rN (by assumption) (rN (by assumption) (rS))))) (by assumption)
  clear HS hws
  go_upto_region 1 with (fail)
  have HPbk4 : St w [(bk4, 24, #[.bool false, .string ⟨#[]⟩, .string ⟨#[]⟩]), (bk2, 41, VC al ah)] _ := St.perm HS1 (List.perm_middle (l₁ := ([(bk2, 41, VC al ah)] : List Own)))
  refine wp_seq [] (by kernel_rfl) (by kernel_rfl) (Reg.fin.put Reg.fin_no _ _) (StR.move (StR.no HPbk4)) ?_
  refine Seq.pure (v := .pointer (some ⟨bk2, 0, none⟩)) rfl rfl (by intro w; go_simp; try first | with_reducible rfl | rfl) ?_
  simp only [Act.put, List.setIfInBounds_toArray, List.set_cons_zero, List.set_cons_succ]
  refine Seq.loadAt rfl rfl rfl rfl (by repeat (first | exact mC | apply mT)) (n := 3) (cs' := RC al) (by first | decide | exact Nat.le_refl _ | (simp [VC, TC, FC, BC, RC]; done)) (by kernel_rfl) (by first | rfl | (simp [VC, TC, FC, BC, RC]; done)) ?_
  simp only [Act.put, List.setIfInBounds_toArray, List.set_cons_zero, List.set_cons_succ]
  refine Seq.pure rfl rfl (by intro w; go_simp; try first | with_reducible rfl | rfl) ?_
  simp only [Act.put, List.setIfInBounds_toArray, List.set_cons_zero, List.set_cons_succ]
  refine Seq.call rfl rfl rfl rfl (by kernel_rfl) (below_q (n := 9) HI.out.1 HI.out.2 (by omega) (by omega)) ?_
  simp only [Act.put, List.setIfInBounds_toArray, List.set_cons_zero, List.set_cons_succ]
  refine Seq.call rfl rfl rfl rfl (by kernel_rfl) (num_q HT.out HM.out (by decide) (by decide) rfl) ?_
  simp only [Act.put, List.setIfInBounds_toArray, List.set_cons_zero, List.set_cons_succ]
  refine Seq.pure (v := .pointer (some ⟨bk2, 3, none⟩)) rfl rfl (by intro w; go_simp; try first | with_reducible rfl | rfl) ?_
  simp only [Act.put, List.setIfInBounds_toArray, List.set_cons_zero, List.set_cons_succ]
  refine Seq.loadAt rfl rfl rfl rfl (by repeat (first | exact mC | apply mT)) (n := 3) (cs' := RC ah) (by first | decide | exact Nat.le_refl _ | (simp [VC, TC, FC, BC, RC]; done)) (by kernel_rfl) (by first | rfl | (simp [VC, TC, FC, BC, RC]; done)) ?_
  simp only [Act.put, List.setIfInBounds_toArray, List.set_cons_zero, List.set_cons_succ]
  refine Seq.pure (v := .pointer (some ⟨bk2, 0, none⟩)) rfl rfl (by intro w; go_simp; try first | with_reducible rfl | rfl) ?_
  simp only [Act.put, List.setIfInBounds_toArray, List.set_cons_zero, List.set_cons_succ]
  refine Seq.loadAt rfl rfl rfl rfl (by repeat (first | exact mC | apply mT)) (n := 3) (cs' := RC al) (by first | decide | exact Nat.le_refl _ | (simp [VC, TC, FC, BC, RC]; done)) (by kernel_rfl) (by first | rfl | (simp [VC, TC, FC, BC, RC]; done)) ?_
  simp only [Act.put, List.setIfInBounds_toArray, List.set_cons_zero, List.set_cons_succ]
  refine Seq.call rfl rfl rfl rfl (by kernel_rfl) (sub_q (k := (1 * k + 0)) HT.out (Z_ah.out.more (by omega)) (Z_al.out.more (by omega)) rfl (by omega)) ?_
  simp only [Act.put, List.setIfInBounds_toArray, List.set_cons_zero, List.set_cons_succ]
  refine Seq.call rfl rfl rfl rfl (by kernel_rfl) (mul_q (k := (4 * k + 4)) HT.out ((num_s _ 8 HM.out (by decide) (by decide)).more (by omega)) ((Z_ah.out.sub Z_al.out).more (by omega)) rfl (by omega)) ?_
  simp only [Act.put, List.setIfInBounds_toArray, List.set_cons_zero, List.set_cons_succ]
  refine Seq.call rfl rfl rfl rfl (by kernel_rfl) (add_q (k := (4 * k + 5)) HT.out (Z_al.out.more (by omega)) (((num_s _ 8 HM.out (by decide) (by decide)).mul (Z_ah.out.sub Z_al.out)).more (by omega)) rfl (by omega)) ?_
  simp only [Act.put, List.setIfInBounds_toArray, List.set_cons_zero, List.set_cons_succ]
  refine Seq.store rfl rfl rfl rfl rfl (by first | exact rS | exact rN (by assumption) (rS) | exact rN (by assumption) (rN (by assumption) (rS)) | exact rN (by assumption) (rN (by assumption) (rN (by assumption) (rS))) | exact rN (by assumption) (rN (by assumption) (rN (by assumption) (rN (by assumption) (rS))))) (n := 3) rfl rfl (by kernel_rfl) (RC_one _) ?_
  simp only [Act.put, List.setIfInBounds_toArray, List.set_cons_zero, List.set_cons_succ]
  refine Seq.done fun ws2 hws => ?_
  have HS2 : St w [(bk4, 24, RC (al + (((((belowN x 9 : Nat) : Int) : Rat) / ((8 : Int) : Rat)) * (ah - al)))), (bk2, 41, VC al ah)] ws2 := hws.list1 (by first | exact rS | exact rN (by assumption) (rS) | exact rN (by assumption) (rN (by assumption) (rS)) | exact rN (by assumption) (rN (by assumption) (rN (by assumption) (rS))) | exact rN (by assumption) (rN (by assumption) (rN (by assumption) (rN (by assumption) (rS)))))
  clear HS1 hws HPbk4
  go_wp2_with fail
  exact ret_own rfl rfl rfl HS2 (by repeat (first | exact mC | apply mT)) (n := 3) rfl (by kernel_rfl) ⟨rfl, HS2.below⟩
theorem ptQ_rz {k : Nat} {l h : Rat} (x : Int) (hl : Rz k l) (hh : Rz k h) : Rz (10 * k + 20) (ptQ l h x) := by
  unfold ptQ
  have hm : (((belowN x 9 : Nat) : Int)).natAbs < 65536 := by have := belowN_lt x (show 0 < 9 by omega); omega
  exact (hl.add ((num_s _ 8 hm (by decide) (by decide)).mul (hh.sub hl))).more (by omega)
end Go.Proofs.YtoejojfjiikogaaGreatDoor
