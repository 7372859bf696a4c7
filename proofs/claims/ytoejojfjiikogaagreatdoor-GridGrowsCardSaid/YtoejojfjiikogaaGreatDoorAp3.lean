/- Joined texts. -/
import Derived.Test.YtoejojfjiikogaaGreatDoorAp2
import Derived.Deep.LoopGhost

/- package apart: Sq (printed by lawvec.py). -/
namespace Go.Proofs.YtoejojfjiikogaaGreatDoor
open Go.RowKit
set_option linter.unusedVariables false
set_option linter.unusedSimpArgs false

set_option maxHeartbeats 4000000 in
set_option maxRecDepth 20000 in
theorem sq_t {k n m : Nat} {ps qs : Pts} {W : World} {l : List Own} (hT : Tab W) (hz : Pz k ps) (hl : ps.length = n) (hcv : 3 ≤ n ∧ n ≤ 64 ∧ Cvx ps) (hz2 : Pz k qs) (hl2 : qs.length = m) (hcv2 : 3 ≤ m ∧ m ≤ 64 ∧ Cvx qs) (hx : meetB ps qs = true) (hk : k ≤ 1000000) (g g2 : Nat) (w : World) (h : St W l w) (hg : Blk w g 26 (PC ps)) (hg2 : Blk w g2 26 (PC qs)) :
    Calls Tryz.prog 34 #[.slice (some ⟨g, 0, none⟩) n n, .slice (some ⟨g2, 0, none⟩) m m] w fun e w' => e = .returned (.tuple #[.agg (RC (sqQ ps qs)), .int .i64 0]) ∧ Below w.heap.size w w' := by
  have HSQ := Lib.hid (show sqQ ps qs = 0 from sq_zero hx)
  have HM := Lib.hid hx; clear hx
  have HT := Lib.hid (tabS hT h); clear hT h
  have HG := Lib.hid hg; clear hg
  have HL := Lib.hid hl; clear hl
  have HNZ := Lib.hid (show ¬ n = 0 by have := hcv.1; omega)
  have HZP := Lib.hid (show Pz (1 * k + 0) ps by rw [Nat.one_mul]; exact hz); clear hz
  have HG2 := Lib.hid hg2; clear hg2
  have HLQ := Lib.hid hl2; clear hl2
  have HZQ := Lib.hid (show Pz (1 * k + 0) qs by rw [Nat.one_mul]; exact hz2); clear hz2
  have HCV := Lib.hid hcv; clear hcv
  have HCQ := Lib.hid hcv2; clear hcv2
  go_enter Tryz.func34, Tryz.ntmps34
  have HS : St w [] w := St.start
  go_upto_region 0 with (fail)
  refine wp_seq_text [] (StR.no HS) ?_
  refine Seq.alloc rfl rfl rfl (z := .agg #[.bool false, .string ⟨#[]⟩, .string ⟨#[]⟩]) (by kernel_rfl) rfl ?_
  intro bk4 _ _ hbk4_r
  simp only [Act.put, nA, nB, nC]
  refine Seq.pure rfl rfl (by intro w; go_simp; try rfl) ?_
  simp only [Act.put, nA, nB, nC]
  refine Seq.done fun ws1 hws => ?_
  have HS1 : St w [(bk4, 24, #[.bool false, .string ⟨#[]⟩, .string ⟨#[]⟩])] ws1 := hws.list1 (by repeat (first | exact rS | refine rN (by assumption) ?_))
  clear HS hws
  go_upto_region 1 with (fail)
  refine wp_seq_text [] (StR.no HS1) ?_
  iterate 2 (refine Seq.pure rfl rfl (by intro w; go_simp; try rfl) ?_; simp only [Act.put, nA, nB, nC])
  refine Seq.call rfl rfl rfl rfl (by kernel_rfl) (fun w h => meet_q2 (k := 1 * k + 0) HT.out HZP.out HL.out HCV.out HZQ.out HLQ.out HCQ.out HM.out (by omega) _ _ w h (h.came HG.out) (h.came HG2.out)) ?_
  simp only [Act.put, nA, nB, nC]
  refine Seq.pure rfl rfl (by intro w; go_simp; try rfl) ?_
  simp only [Act.put, nA, nB, nC]
  refine Seq.pure (v := .bool true) rfl rfl (fun w => rfl) ?_
  simp only [Act.put, nA, nB, nC]
  refine Seq.pure (v := .int .i64 0) rfl rfl (fun w => rfl) ?_
  simp only [Act.put, nA, nB, nC]
  iterate 2 (refine Seq.pure rfl rfl (by intro w; go_simp; try rfl) ?_; simp only [Act.put, nA, nB, nC])
  refine Seq.done fun ws2 hws => ?_
  have HS2 := hws.st
  clear HS1 hws
  go_upto_region 2 with (fail)
  refine wp_seq_text [] (StR.no HS2) ?_
  iterate 2 (refine Seq.pure rfl rfl (by intro w; go_simp; try rfl) ?_; simp only [Act.put, nA, nB, nC])
  refine Seq.done fun ws3 hws => ?_
  have HS3 := hws.st
  clear HS2 hws
  go_upto_region 4 with (fail)
  refine wp_seq_text [] (StR.no HS3) ?_
  refine Seq.pure rfl rfl (by intro w; go_simp; try rfl) ?_
  simp only [Act.put, nA, nB, nC]
  refine Seq.done fun ws4 hws => ?_
  have HS4 := hws.st
  clear HS3 hws
  go_upto_region 5 with (fail)
  refine wp_seq_text [] (StR.move (StR.no HS4)) ?_
  refine Seq.call rfl rfl rfl rfl (by kernel_rfl) (of_q HT.out (by omega) (by omega) (show ((0 : Int) : Rat) = (0 : Rat) from rfl)) ?_
  simp only [Act.put, nA, nB, nC]
  refine Seq.store rfl rfl rfl rfl rfl (by repeat (first | exact rS | refine rN (by assumption) ?_)) (n := 3) rfl rfl (by kernel_rfl) (RC_one _) ?_
  simp only [Act.put, nA, nB, nC]
  refine Seq.pure rfl rfl (by intro w; go_simp; try rfl) ?_
  simp only [Act.put, nA, nB, nC]
  refine Seq.done fun ws5 hws => ?_
  have HS5 : St w [(bk4, 24, RC (0 : Rat))] ws5 := hws.list1 (by repeat (first | exact rS | refine rN (by assumption) ?_))
  clear HS4 hws
  go_wp2_with fail
  exact ret_own2 rfl rfl rfl rfl HS5 (by repeat (first | exact mC | apply mT)) (n := 3) rfl (by kernel_rfl) ⟨by rw [HSQ.out]; rfl, HS5.below⟩
set_option maxHeartbeats 4000000 in
set_option maxRecDepth 20000 in
theorem sq_f {k n m : Nat} {ps qs : Pts} {W : World} {l : List Own} (hT : Tab W) (hz : Pz k ps) (hl : ps.length = n) (hcv : 3 ≤ n ∧ n ≤ 64 ∧ Cvx ps) (hz2 : Pz k qs) (hl2 : qs.length = m) (hcv2 : 3 ≤ m ∧ m ≤ 64 ∧ Cvx qs) (hx : meetB ps qs = false) (hk : k ≤ 1000000) (g g2 : Nat) (w : World) (h : St W l w) (hg : Blk w g 26 (PC ps)) (hg2 : Blk w g2 26 (PC qs)) :
    Calls Tryz.prog 34 #[.slice (some ⟨g, 0, none⟩) n n, .slice (some ⟨g2, 0, none⟩) m m] w fun e w' => e = .returned (.tuple #[.agg (RC (sqQ ps qs)), .int .i64 0]) ∧ Below w.heap.size w w' := by
  have hza := sqA_rz hz hz2 (by omega) (by omega)
  have hzb := fun v hv => sqB_rz (v := v) hz hz2 (by omega) (by omega) hv
  obtain ⟨sa, hsa⟩ : ∃ z, sqA ps qs n = z := ⟨_, rfl⟩
  have ZA := Lib.hid (show ∀ i, i ≤ n → Rz (96 * k + 27) (sqA ps qs i) from fun i hi => hza i (by omega))
  have ZB := Lib.hid (show ∀ j, j ≤ m → Rz (96 * k + 27) (sqB ps qs sa j) from fun j hj => hzb sa (hsa ▸ ZA.out n (Nat.le_refl _)) j (by omega))
  have HZA := Lib.hid (ZA.out 0 (by omega))
  have HSA0 := Lib.hid hsa
  have HPOS := Lib.hid (show 0 < n by omega)
  clear hza hzb hsa
  have HM := Lib.hid hx; clear hx
  have HT := Lib.hid (tabS hT h); clear hT h
  have HG := Lib.hid hg; clear hg
  have HL := Lib.hid hl; clear hl
  have HNZ := Lib.hid (show ¬ n = 0 by have := hcv.1; omega)
  have HZP := Lib.hid (show Pz (1 * k + 0) ps by rw [Nat.one_mul]; exact hz); clear hz
  have HG2 := Lib.hid hg2; clear hg2
  have HLQ := Lib.hid hl2; clear hl2
  have HZQ := Lib.hid (show Pz (1 * k + 0) qs by rw [Nat.one_mul]; exact hz2); clear hz2
  have HCV := Lib.hid hcv; clear hcv
  have HCQ := Lib.hid hcv2; clear hcv2
  go_enter Tryz.func34, Tryz.ntmps34
  have HS : St w [] w := St.start
  go_upto_region 0 with (fail)
  refine wp_seq_text [] (StR.no HS) ?_
  refine Seq.alloc rfl rfl rfl (z := .agg #[.bool false, .string ⟨#[]⟩, .string ⟨#[]⟩]) (by kernel_rfl) rfl ?_
  intro bk4 _ _ hbk4_r
  simp only [Act.put, nA, nB, nC]
  refine Seq.pure rfl rfl (by intro w; go_simp; try rfl) ?_
  simp only [Act.put, nA, nB, nC]
  refine Seq.done fun ws1 hws => ?_
  have HS1 : St w [(bk4, 24, #[.bool false, .string ⟨#[]⟩, .string ⟨#[]⟩])] ws1 := hws.list1 (by repeat (first | exact rS | refine rN (by assumption) ?_))
  clear HS hws
  go_upto_region 1 with (fail)
  refine wp_seq_text [] (StR.no HS1) ?_
  iterate 2 (refine Seq.pure rfl rfl (by intro w; go_simp; try rfl) ?_; simp only [Act.put, nA, nB, nC])
  refine Seq.call rfl rfl rfl rfl (by kernel_rfl) (fun w h => meet_q2 (k := 1 * k + 0) HT.out HZP.out HL.out HCV.out HZQ.out HLQ.out HCQ.out HM.out (by omega) _ _ w h (h.came HG.out) (h.came HG2.out)) ?_
  simp only [Act.put, nA, nB, nC]
  refine Seq.pure rfl rfl (by intro w; go_simp; try rfl) ?_
  simp only [Act.put, nA, nB, nC]
  refine Seq.pure (v := .bool false) rfl rfl (fun w => rfl) ?_
  simp only [Act.put, nA, nB, nC]
  refine Seq.pure (v := .int .i64 0) rfl rfl (fun w => rfl) ?_
  simp only [Act.put, nA, nB, nC]
  iterate 2 (refine Seq.pure rfl rfl (by intro w; go_simp; try rfl) ?_; simp only [Act.put, nA, nB, nC])
  refine Seq.done fun ws2 hws => ?_
  have HS2 := hws.st
  clear HS1 hws
  go_upto_region 2 with (fail)
  refine wp_seq_text [] (StR.no HS2) ?_
  iterate 2 (refine Seq.pure rfl rfl (by intro w; go_simp; try rfl) ?_; simp only [Act.put, nA, nB, nC])
  refine Seq.done fun ws3 hws => ?_
  have HS3 := hws.st
  clear HS2 hws
  go_upto_region 4 with (fail)
  refine wp_seq_text [] (StR.no HS3) ?_
  refine Seq.pure rfl rfl (by intro w; go_simp; try rfl) ?_
  simp only [Act.put, nA, nB, nC]
  refine Seq.done fun ws4 hws => ?_
  have HS4 := hws.st
  clear HS3 hws
  go_upto_region 6 with (fail)
  refine wp_seq_text [] (StR.no HS4) ?_
  refine Seq.pure rfl rfl (by intro w; go_simp; try rfl) ?_
  simp only [Act.put, nA, nB, nC]
  refine Seq.index (m := 6) 0 rfl rfl rfl rfl rfl (by kernel_rfl) rfl HPOS.out ?_
  simp only [Act.put, nA, nB, nC]
  refine Seq.loadAtF rfl rfl rfl rfl HG.out (n := 6) (cs' := VC (px ps 0) (py ps 0)) (PC_room (lt_of_pts HL.out HPOS.out)) (by kernel_rfl) (PC_at (lt_of_pts HL.out HPOS.out)) ?_
  simp only [Act.put, nA, nB, nC]
  refine Seq.pure rfl rfl (by intro w; go_simp; try rfl) ?_
  simp only [Act.put, nA, nB, nC]
  refine Seq.call rfl rfl rfl rfl (by kernel_rfl) (fun w h => near_G (k := 1 * k + 0) HT.out HZQ.out HLQ.out HCQ.out ((HZP.out.x (lt_of_pts HL.out HPOS.out)).more (by omega)) ((HZP.out.y (lt_of_pts HL.out HPOS.out)).more (by omega)) rfl (by omega) _ w h (h.came HG2.out)) ?_
  simp only [Act.put, nA, nB, nC]
  refine Seq.alloc rfl rfl rfl (z := .agg #[.bool false, .string ⟨#[]⟩, .string ⟨#[]⟩]) (by kernel_rfl) rfl ?_
  intro bk8 _ _ hbk8_r
  simp only [Act.put, nA, nB, nC]
  refine Seq.store rfl rfl rfl rfl rfl (by repeat (first | exact rS | refine rN (by assumption) ?_)) (n := 3) rfl rfl (by kernel_rfl) (RC_one _) ?_
  simp only [Act.put, nA, nB, nC]
  refine Seq.done fun ws5 hws => ?_
  have HS5 : St w [(bk8, 24, RC (sqA ps qs 0)), (bk4, 24, #[.bool false, .string ⟨#[]⟩, .string ⟨#[]⟩])] ws5 := hws.list1 (by repeat (first | exact rS | refine rN (by assumption) ?_))
  clear HS4 hws
  go_upto_region 7 with (fail)
  refine wp_seq_text [] (StR.no HS5) ?_
  refine Seq.pure rfl rfl (by intro w; go_simp; try rfl) ?_
  simp only [Act.put, nA, nB, nC]
  refine Seq.pure (v := .int .i64 (n : Int)) rfl rfl (by intro w; go_simp; try rfl) ?_
  simp only [Act.put, nA, nB, nC]
  refine Seq.pure rfl rfl (by intro w; go_simp; try rfl) ?_
  simp only [Act.put, nA, nB, nC]
  refine Seq.done fun ws6 hws => ?_
  have HS6 := hws.st
  clear HS5 hws
  go_wp2_with fail
  go_loopg [32] n (fun kk s32 wr => ∃ i : Nat, kk = n - i ∧ s32 = .int .i64 (i : Int) ∧ i ≤ n ∧ Hid (St w [(bk8, 24, RC (sqA ps qs i)), (bk4, 24, #[.bool false, .string ⟨#[]⟩, .string ⟨#[]⟩])] wr))
  case atStart => exact ⟨0, rfl, rfl, by omega, Lib.hid HS6⟩
  case round =>
    obtain ⟨i, hgk, rfl, hin, hS⟩ := hrel
    have HGK := Lib.hid hgk; clear hgk
    have HR := hS.out; clear hS
    have HZA := Lib.hid (ZA.out i hin)
    by_cases hc : i < n
    · obtain ⟨i1, hi1⟩ : ∃ i1 : Nat, i1 = i + 1 := ⟨_, rfl⟩
      have HI1 := Lib.hid (show IntKind.i64.wrap ((i : Int) + 1) = (i1 : Int) ∧ n - i1 < n - i ∧ i1 ≤ n from ⟨by have := HCV.out.2.1; rw [i64_s _ (by omega) (by omega)]; omega, by omega, by omega⟩)
      have HZA1 := Lib.hid (ZA.out i1 HI1.out.2.2)
      have HE := Lib.hid (show minQ (sqA ps qs i) (nearQ (px ps i) (py ps i) qs) = sqA ps qs i1 by rw [hi1]; rfl)
      have HC := Lib.hid hc
      clear hc hin hi1
      go_upto_region 8 with (fail)
      refine wp_seq_text [] (StR.no HR) ?_
      refine Seq.pure (v := .bool true) rfl rfl (by intro w; go_simp <;> (first | (rw [HC.out]; done) | exact HC.out | (simp [HC.out]; done) | (trace_state; done))) ?_
      simp only [Act.put, nA, nB, nC]
      refine Seq.done fun ws7 hws => ?_
      have HS7 := hws.st
      clear HR hws
      go_upto_region 9 with (fail)
      refine wp_seq_text [] (StR.no HS7) ?_
      refine Seq.index (m := 6) i rfl rfl rfl rfl rfl (by kernel_rfl) rfl HC.out ?_
      simp only [Act.put, nA, nB, nC]
      refine Seq.loadAtF rfl rfl rfl rfl HG.out (n := 6) (cs' := VC (px ps i) (py ps i)) (PC_room (lt_of_pts HL.out HC.out)) (by kernel_rfl) (PC_at (lt_of_pts HL.out HC.out)) ?_
      simp only [Act.put, nA, nB, nC]
      refine Seq.alloc rfl rfl rfl (z := .agg #[.bool false, .string ⟨#[]⟩, .string ⟨#[]⟩, .bool false, .string ⟨#[]⟩, .string ⟨#[]⟩]) (by kernel_rfl) rfl ?_
      intro bk10 _ _ hbk10_r
      simp only [Act.put, nA, nB, nC]
      refine Seq.store rfl rfl rfl rfl rfl (by repeat (first | exact rS | refine rN (by assumption) ?_)) (n := 6) rfl rfl (by kernel_rfl) (VC_one _ _) ?_
      simp only [Act.put, nA, nB, nC]
      refine Seq.done fun ws8 hws => ?_
      have HS8 : St w [(bk10, 26, VC (px ps i) (py ps i)), (bk8, 24, RC (sqA ps qs i)), (bk4, 24, #[.bool false, .string ⟨#[]⟩, .string ⟨#[]⟩])] ws8 := hws.list1 (by repeat (first | exact rS | refine rN (by assumption) ?_))
      clear HS7 hws
      go_upto_region 10 with (fail)
      have HPbk8 : St w [(bk8, 24, RC (sqA ps qs i)), (bk10, 26, VC (px ps i) (py ps i)), (bk4, 24, #[.bool false, .string ⟨#[]⟩, .string ⟨#[]⟩])] _ := St.perm HS8 (List.perm_middle (l₁ := ([(bk10, 26, VC (px ps i) (py ps i))] : List Own)))
      refine wp_seq [0] (by kernel_rfl) (by kernel_rfl) (Reg.fin.put Reg.fin_no _ _) (StR.move (StR.no HPbk8)) ?_
      refine Seq.get rfl rfl rfl rfl (by repeat (first | exact rS | refine rN (by assumption) ?_)) (n := 3) rfl (by kernel_rfl) ?_
      simp only [Act.put, nA, nB, nC]
      refine Seq.load rfl rfl rfl rfl (by repeat (first | exact mC | apply mT)) (n := 6) rfl (by kernel_rfl) ?_
      simp only [Act.put, nA, nB, nC]
      refine Seq.pure rfl rfl (by intro w; go_simp; try rfl) ?_
      simp only [Act.put, nA, nB, nC]
      refine Seq.call rfl rfl rfl rfl (by kernel_rfl) (fun w h => near_G (k := 1 * k + 0) HT.out HZQ.out HLQ.out HCQ.out ((HZP.out.x (lt_of_pts HL.out HC.out)).more (by omega)) ((HZP.out.y (lt_of_pts HL.out HC.out)).more (by omega)) rfl (by omega) _ w h (h.came HG2.out)) ?_
      simp only [Act.put, nA, nB, nC]
      refine Seq.call rfl rfl rfl rfl (by kernel_rfl) (min_q (k := (96 * k + 27)) HT.out (HZA.out.more (by omega)) ((nearQ_rz (k := 1 * k + 0) HZQ.out ((HZP.out.x (lt_of_pts HL.out HC.out)).more (by omega)) ((HZP.out.y (lt_of_pts HL.out HC.out)).more (by omega)) (by rw [HLQ.out]; have := HCQ.out.1; omega)).more (by omega)) HE.out (by omega)) ?_
      simp only [Act.put, nA, nB, nC]
      refine Seq.store rfl rfl rfl rfl rfl (by repeat (first | exact rS | refine rN (by assumption) ?_)) (n := 3) rfl rfl (by kernel_rfl) (RC_one _) ?_
      simp only [Act.put, nA, nB, nC]
      refine Seq.done fun ws9 hws => ?_
      have HS9 : St w [(bk8, 24, RC (sqA ps qs i1)), (bk10, 26, VC (px ps i) (py ps i)), (bk4, 24, #[.bool false, .string ⟨#[]⟩, .string ⟨#[]⟩])] ws9 := hws.list1 (by repeat (first | exact rS | refine rN (by assumption) ?_))
      clear HS8 hws HPbk8
      go_upto_region 11 with (fail)
      refine wp_seq_text [] (StR.no HS9) ?_
      refine Seq.pure (v := .int .i64 (i1 : Int)) rfl rfl (by intro w; go_simp <;> (first | (rw [HI1.out.1]; done) | exact HI1.out.1 | (simp [HI1.out.1]; done) | (trace_state; done))) ?_
      simp only [Act.put, nA, nB, nC]
      refine Seq.pure rfl rfl (by intro w; go_simp; try rfl) ?_
      simp only [Act.put, nA, nB, nC]
      refine Seq.done fun ws10 hws => ?_
      have HS10 := hws.st
      clear HS9 hws
      go_wp2_with fail
      go_roundg (n - i1)
      case measure => rw [HGK.out]; exact HI1.out.2.1
      case rel => exact ⟨i1, rfl, rfl, HI1.out.2.2, Lib.hid (HS10.sub (.cons_cons _ (.cons _ (.refl _))))⟩
    · have hin' : i = n := by omega
      subst hin'
      have HC := Lib.hid (show i ≤ i from Nat.le_refl _)
      clear hc hin
      go_upto_region 8 with (fail)
      refine wp_seq_text [] (StR.no HR) ?_
      refine Seq.pure (v := .bool false) rfl rfl (by intro w; go_simp <;> (first | (rw [HC.out]; done) | exact HC.out | (simp [HC.out]; done) | (trace_state; done))) ?_
      simp only [Act.put, nA, nB, nC]
      refine Seq.done fun ws7 hws => ?_
      have HS7 := hws.st
      clear HR hws
      go_upto_region 12 with (fail)
      refine wp_seq_text [] (StR.no HS7) ?_
      refine Seq.pure rfl rfl (by intro w; go_simp; try rfl) ?_
      simp only [Act.put, nA, nB, nC]
      refine Seq.pure (v := .int .i64 (m : Int)) rfl rfl (by intro w; go_simp; try rfl) ?_
      simp only [Act.put, nA, nB, nC]
      refine Seq.pure rfl rfl (by intro w; go_simp; try rfl) ?_
      simp only [Act.put, nA, nB, nC]
      refine Seq.done fun ws8 hws => ?_
      have HS8 := hws.st
      clear HS7 hws
      have HSA := Lib.hid (show sqA ps qs i = sa from HSA0.out)
      rw [HSA.out] at HS8
      go_wp2_with fail
      go_loopg [44] m (fun kk s44 wr => ∃ j : Nat, kk = m - j ∧ s44 = .int .i64 (j : Int) ∧ j ≤ m ∧ Hid (St w [(bk8, 24, RC (sqB ps qs sa j)), (bk4, 24, #[.bool false, .string ⟨#[]⟩, .string ⟨#[]⟩])] wr))
      case atStart => exact ⟨0, rfl, rfl, by omega, Lib.hid HS8⟩
      case round =>
        obtain ⟨j, hgk2, rfl, hjm, hS2⟩ := hrel
        have HGK2 := Lib.hid hgk2; clear hgk2
        have HR2 := hS2.out; clear hS2
        have HZB := Lib.hid (ZB.out j hjm)
        by_cases hc2 : j < m
        · obtain ⟨j1, hj1⟩ : ∃ j1 : Nat, j1 = j + 1 := ⟨_, rfl⟩
          have HJ1 := Lib.hid (show IntKind.i64.wrap ((j : Int) + 1) = (j1 : Int) ∧ m - j1 < m - j ∧ j1 ≤ m from ⟨by have := HCQ.out.2.1; rw [i64_s _ (by omega) (by omega)]; omega, by omega, by omega⟩)
          have HZB1 := Lib.hid (ZB.out j1 HJ1.out.2.2)
          have HE2 := Lib.hid (show minQ (sqB ps qs sa j) (nearQ (px qs j) (py qs j) ps) = sqB ps qs sa j1 by rw [hj1]; rfl)
          have HC2 := Lib.hid hc2
          clear hc2 hjm hj1
          go_upto_region 13 with (fail)
          refine wp_seq_text [] (StR.no HR2) ?_
          refine Seq.pure (v := .bool true) rfl rfl (by intro w; go_simp <;> (first | (rw [HC2.out]; done) | exact HC2.out | (simp [HC2.out]; done) | (trace_state; done))) ?_
          simp only [Act.put, nA, nB, nC]
          refine Seq.done fun ws9 hws => ?_
          have HS9 := hws.st
          clear HR2 hws
          go_upto_region 14 with (fail)
          refine wp_seq_text [] (StR.no HS9) ?_
          refine Seq.index (m := 6) j rfl rfl rfl rfl rfl (by kernel_rfl) rfl HC2.out ?_
          simp only [Act.put, nA, nB, nC]
          refine Seq.loadAtF rfl rfl rfl rfl HG2.out (n := 6) (cs' := VC (px qs j) (py qs j)) (PC_room (lt_of_pts HLQ.out HC2.out)) (by kernel_rfl) (PC_at (lt_of_pts HLQ.out HC2.out)) ?_
          simp only [Act.put, nA, nB, nC]
          refine Seq.alloc rfl rfl rfl (z := .agg #[.bool false, .string ⟨#[]⟩, .string ⟨#[]⟩, .bool false, .string ⟨#[]⟩, .string ⟨#[]⟩]) (by kernel_rfl) rfl ?_
          intro bk12 _ _ hbk12_r
          simp only [Act.put, nA, nB, nC]
          refine Seq.store rfl rfl rfl rfl rfl (by repeat (first | exact rS | refine rN (by assumption) ?_)) (n := 6) rfl rfl (by kernel_rfl) (VC_one _ _) ?_
          simp only [Act.put, nA, nB, nC]
          refine Seq.done fun ws10 hws => ?_
          have HS10 : St w [(bk12, 26, VC (px qs j) (py qs j)), (bk8, 24, RC (sqB ps qs sa j)), (bk4, 24, #[.bool false, .string ⟨#[]⟩, .string ⟨#[]⟩])] ws10 := hws.list1 (by repeat (first | exact rS | refine rN (by assumption) ?_))
          clear HS9 hws
          go_upto_region 15 with (fail)
          have HPbk8 : St w [(bk8, 24, RC (sqB ps qs sa j)), (bk12, 26, VC (px qs j) (py qs j)), (bk4, 24, #[.bool false, .string ⟨#[]⟩, .string ⟨#[]⟩])] _ := St.perm HS10 (List.perm_middle (l₁ := ([(bk12, 26, VC (px qs j) (py qs j))] : List Own)))
          refine wp_seq [0] (by kernel_rfl) (by kernel_rfl) (Reg.fin.put Reg.fin_no _ _) (StR.move (StR.no HPbk8)) ?_
          refine Seq.get rfl rfl rfl rfl (by repeat (first | exact rS | refine rN (by assumption) ?_)) (n := 3) rfl (by kernel_rfl) ?_
          simp only [Act.put, nA, nB, nC]
          refine Seq.load rfl rfl rfl rfl (by repeat (first | exact mC | apply mT)) (n := 6) rfl (by kernel_rfl) ?_
          simp only [Act.put, nA, nB, nC]
          refine Seq.pure rfl rfl (by intro w; go_simp; try rfl) ?_
          simp only [Act.put, nA, nB, nC]
          refine Seq.call rfl rfl rfl rfl (by kernel_rfl) (fun w h => near_G (k := 1 * k + 0) HT.out HZP.out HL.out HCV.out ((HZQ.out.x (lt_of_pts HLQ.out HC2.out)).more (by omega)) ((HZQ.out.y (lt_of_pts HLQ.out HC2.out)).more (by omega)) rfl (by omega) _ w h (h.came HG.out)) ?_
          simp only [Act.put, nA, nB, nC]
          refine Seq.call rfl rfl rfl rfl (by kernel_rfl) (min_q (k := (96 * k + 27)) HT.out (HZB.out.more (by omega)) ((nearQ_rz (k := 1 * k + 0) HZP.out ((HZQ.out.x (lt_of_pts HLQ.out HC2.out)).more (by omega)) ((HZQ.out.y (lt_of_pts HLQ.out HC2.out)).more (by omega)) (by rw [HL.out]; have := HCV.out.1; omega)).more (by omega)) HE2.out (by omega)) ?_
          simp only [Act.put, nA, nB, nC]
          refine Seq.store rfl rfl rfl rfl rfl (by repeat (first | exact rS | refine rN (by assumption) ?_)) (n := 3) rfl rfl (by kernel_rfl) (RC_one _) ?_
          simp only [Act.put, nA, nB, nC]
          refine Seq.done fun ws11 hws => ?_
          have HS11 : St w [(bk8, 24, RC (sqB ps qs sa j1)), (bk12, 26, VC (px qs j) (py qs j)), (bk4, 24, #[.bool false, .string ⟨#[]⟩, .string ⟨#[]⟩])] ws11 := hws.list1 (by repeat (first | exact rS | refine rN (by assumption) ?_))
          clear HS10 hws HPbk8
          go_upto_region 16 with (fail)
          refine wp_seq_text [] (StR.no HS11) ?_
          refine Seq.pure (v := .int .i64 (j1 : Int)) rfl rfl (by intro w; go_simp <;> (first | (rw [HJ1.out.1]; done) | exact HJ1.out.1 | (simp [HJ1.out.1]; done) | (trace_state; done))) ?_
          simp only [Act.put, nA, nB, nC]
          refine Seq.pure rfl rfl (by intro w; go_simp; try rfl) ?_
          simp only [Act.put, nA, nB, nC]
          refine Seq.done fun ws12 hws => ?_
          have HS12 := hws.st
          clear HS11 hws
          go_wp2_with fail
          go_roundg (m - j1)
          case measure => rw [HGK2.out]; exact HJ1.out.2.1
          case rel => exact ⟨j1, rfl, rfl, HJ1.out.2.2, Lib.hid (HS12.sub (.cons_cons _ (.cons _ (.refl _))))⟩
        · have HSE := Lib.hid (show sqQ ps qs = sqB ps qs sa j by rw [← HSA.out]; unfold sqQ; rw [HM.out, if_neg (by decide), HL.out, HLQ.out, show j = m by omega])
          have HC2 := Lib.hid (show m ≤ j by omega)
          clear hc2 hjm
          go_upto_region 13 with (fail)
          refine wp_seq_text [] (StR.no HR2) ?_
          refine Seq.pure (v := .bool false) rfl rfl (by intro w; go_simp <;> (first | (rw [HC2.out]; done) | exact HC2.out | (simp [HC2.out]; done) | (trace_state; done))) ?_
          simp only [Act.put, nA, nB, nC]
          refine Seq.done fun ws9 hws => ?_
          have HS9 := hws.st
          clear HR2 hws
          go_upto_region 17 with (fail)
          have HPbk4 : St w [(bk4, 24, #[.bool false, .string ⟨#[]⟩, .string ⟨#[]⟩]), (bk8, 24, RC (sqB ps qs sa j))] _ := St.perm HS9 (List.perm_middle (l₁ := ([(bk8, 24, RC (sqB ps qs sa j))] : List Own)))
          refine wp_seq_text [] (StR.move (StR.no HPbk4)) ?_
          refine Seq.load rfl rfl rfl rfl (by repeat (first | exact mC | apply mT)) (n := 3) rfl (by kernel_rfl) ?_
          simp only [Act.put, nA, nB, nC]
          refine Seq.store rfl rfl rfl rfl rfl (by repeat (first | exact rS | refine rN (by assumption) ?_)) (n := 3) rfl rfl (by kernel_rfl) (RC_one _) ?_
          simp only [Act.put, nA, nB, nC]
          refine Seq.pure rfl rfl (by intro w; go_simp; try rfl) ?_
          simp only [Act.put, nA, nB, nC]
          refine Seq.done fun ws10 hws => ?_
          have HS10 : St w [(bk4, 24, RC (sqB ps qs sa j)), (bk8, 24, RC (sqB ps qs sa j))] ws10 := hws.list1 (by repeat (first | exact rS | refine rN (by assumption) ?_))
          clear HS9 hws HPbk4
          go_wp2_with fail
          exact ret_own2 rfl rfl rfl rfl HS10 (by repeat (first | exact mC | apply mT)) (n := 3) rfl (by kernel_rfl) ⟨by rw [HSE.out]; rfl, HS10.below⟩
theorem sq_q2 {k n m : Nat} {ps qs : Pts} {W : World} {l : List Own} (hT : Tab W) (hz : Pz k ps) (hl : ps.length = n) (hcv : 3 ≤ n ∧ n ≤ 64 ∧ Cvx ps) (hz2 : Pz k qs) (hl2 : qs.length = m) (hcv2 : 3 ≤ m ∧ m ≤ 64 ∧ Cvx qs) {z0 : Rat} (hz0 : sqQ ps qs = z0) (hk : k ≤ 1000000) (g g2 : Nat) (w : World) (h : St W l w) (hg : Blk w g 26 (PC ps)) (hg2 : Blk w g2 26 (PC qs)) :
    Calls Tryz.prog 34 #[.slice (some ⟨g, 0, none⟩) n n, .slice (some ⟨g2, 0, none⟩) m m] w fun e w' => e = .returned (.tuple #[.agg (RC z0), .int .i64 0]) ∧ Below w.heap.size w w' := by
  rw [← hz0]
  cases hx : meetB ps qs with
  | true => exact sq_t hT hz hl hcv hz2 hl2 hcv2 hx hk g g2 w h hg hg2
  | false => exact sq_f hT hz hl hcv hz2 hl2 hcv2 hx hk g g2 w h hg hg2
end Go.Proofs.YtoejojfjiikogaaGreatDoor
