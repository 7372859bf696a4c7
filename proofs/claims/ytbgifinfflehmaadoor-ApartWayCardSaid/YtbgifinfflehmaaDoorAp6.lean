/- Joined texts. -/
import Derived.Test.YtbgifinfflehmaaDoorAp5
import Derived.Deep.LoopGhost

/- frame.List with a zero turn (printed by lawvec.py). -/
namespace Go.Proofs.YtbgifinfflehmaaDoor
open Go.RowKit
set_option linter.unusedVariables false
set_option linter.unusedSimpArgs false

set_option maxHeartbeats 4000000 in
set_option maxRecDepth 20000 in
theorem flistraw_q {k n : Nat} {a1 a2 : Rat} {ps qs : Pts} {W : World} {l : List Own} (hT : Tab W) (Za1 : Rz k a1) (Za2 : Rz k a2) (hz : Pz k ps) (hl : ps.length = n) (hn : n ≤ 1000000) (hq : mvP (cosT false 0) (sinT 0) a1 a2 ps = qs) (hk : k ≤ 10000000) (g : Nat) (w : World) (h : St W l w) (hg : Blk w g 30 (PC ps)) :
    Calls Tryd.prog 10 #[.agg (#[.bool (decide (Rat.num a1 < 0)), .string (S (Rat.num a1).natAbs), .string (S (Rat.den a1)), .bool (decide (Rat.num a2 < 0)), .string (S (Rat.num a2).natAbs), .string (S (Rat.den a2)), .bool false, .bool false, .string ⟨#[]⟩, .string ⟨#[]⟩]), .slice (some ⟨g, 0, none⟩) n n] w fun e w' => ∃ p, w.heap.size ≤ p ∧ e = .returned (mk (some n) p) ∧ Below w.heap.size w w' ∧ Blk w' p 30 (PC qs) := by
  have HT := Lib.hid (tabS hT h); clear hT h
  have HG := Lib.hid hg; clear hg
  have HZP := Lib.hid (show Pz (1 * k + 0) ps by rw [Nat.one_mul]; exact hz); clear hz
  have HQL := Lib.hid (show qs.length = n by rw [← hq, mvP_len]; exact hl)
  have HL := Lib.hid hl; clear hl
  have HQ := Lib.hid hq; clear hq
  have HN := Lib.hid hn; clear hn
  have Z_a1 := Lib.hid Za1; clear Za1
  have Z_a2 := Lib.hid Za2; clear Za2
  go_enter Tryd.func10, Tryd.ntmps10
  have HS : St w [] w := St.start
  go_upto_region 0 with (fail)
  refine wp_seq_text [] (StR.no HS) ?_
  refine Seq.box rfl rfl rfl (v := .agg (#[.bool (decide (Rat.num a1 < 0)), .string (S (Rat.num a1).natAbs), .string (S (Rat.den a1)), .bool (decide (Rat.num a2 < 0)), .string (S (Rat.num a2).natAbs), .string (S (Rat.den a2)), .bool false, .bool false, .string ⟨#[]⟩, .string ⟨#[]⟩])) (cs := #[.bool (decide (Rat.num a1 < 0)), .string (S (Rat.num a1).natAbs), .string (S (Rat.den a1)), .bool (decide (Rat.num a2 < 0)), .string (S (Rat.num a2).natAbs), .string (S (Rat.den a2)), .bool false, .bool false, .string ⟨#[]⟩, .string ⟨#[]⟩]) rfl rfl ?_
  intro bk2 _ _ hbk2_r
  simp only [Act.put, List.setIfInBounds_toArray, List.set_cons_zero, List.set_cons_succ]
  refine Seq.pure rfl rfl (by intro w; go_simp; try first | with_reducible rfl | rfl) ?_
  simp only [Act.put, List.setIfInBounds_toArray, List.set_cons_zero, List.set_cons_succ]
  refine Seq.done fun ws1 hws => ?_
  have HS1 : St w [(bk2, 34, #[.bool (decide (Rat.num a1 < 0)), .string (S (Rat.num a1).natAbs), .string (S (Rat.den a1)), .bool (decide (Rat.num a2 < 0)), .string (S (Rat.num a2).natAbs), .string (S (Rat.den a2)), .bool false, .bool false, .string ⟨#[]⟩, .string ⟨#[]⟩])] ws1 := hws.list1 (by first | exact rS | exact rN (by assumption) (rS) | exact rN (by assumption) (rN (by assumption) (rS)) | exact rN (by assumption) (rN (by assumption) (rN (by assumption) (rS))) | exact rN (by assumption) (rN (by assumption) (rN (by assumption) (rN (by assumption) (rS)))))
  clear HS hws
  go_upto_region 1 with (fail)
  refine wp_seq_text [] (StR.no HS1) ?_
  refine Seq.pure rfl rfl (by intro w; go_simp; try first | with_reducible rfl | rfl) ?_
  simp only [Act.put, List.setIfInBounds_toArray, List.set_cons_zero, List.set_cons_succ]
  refine Seq.pure (v := .int .i64 (n : Int)) rfl rfl (by intro w; go_simp; try first | with_reducible rfl | rfl) ?_
  simp only [Act.put, List.setIfInBounds_toArray, List.set_cons_zero, List.set_cons_succ]
  refine Seq.slice (n := n) (e := 30) (cs := Mx qs 0 n) rfl rfl (fun w => mkV_n qs n HN.out rfl rfl rfl w) ?_
  intro bk10 _ _ hbk10_r
  simp only [Act.put, List.setIfInBounds_toArray, List.set_cons_zero, List.set_cons_succ]
  refine Seq.pure rfl rfl (by intro w; go_simp; try first | with_reducible rfl | rfl) ?_
  simp only [Act.put, List.setIfInBounds_toArray, List.set_cons_zero, List.set_cons_succ]
  refine Seq.done fun ws2 hws => ?_
  have HS2 : St w [(bk10, 30, Mx qs 0 n), (bk2, 34, #[.bool (decide (Rat.num a1 < 0)), .string (S (Rat.num a1).natAbs), .string (S (Rat.den a1)), .bool (decide (Rat.num a2 < 0)), .string (S (Rat.num a2).natAbs), .string (S (Rat.den a2)), .bool false, .bool false, .string ⟨#[]⟩, .string ⟨#[]⟩])] ws2 := hws.list1 (by first | exact rS | exact rN (by assumption) (rS) | exact rN (by assumption) (rN (by assumption) (rS)) | exact rN (by assumption) (rN (by assumption) (rN (by assumption) (rS))) | exact rN (by assumption) (rN (by assumption) (rN (by assumption) (rN (by assumption) (rS)))))
  clear HS1 hws
  go_upto_region 2 with (fail)
  refine wp_seq_text [] (StR.no HS2) ?_
  refine Seq.pure rfl rfl (by intro w; go_simp; try first | with_reducible rfl | rfl) ?_
  simp only [Act.put, List.setIfInBounds_toArray, List.set_cons_zero, List.set_cons_succ]
  refine Seq.pure (v := .int .i64 (n : Int)) rfl rfl (by intro w; go_simp; try first | with_reducible rfl | rfl) ?_
  simp only [Act.put, List.setIfInBounds_toArray, List.set_cons_zero, List.set_cons_succ]
  refine Seq.pure rfl rfl (by intro w; go_simp; try first | with_reducible rfl | rfl) ?_
  simp only [Act.put, List.setIfInBounds_toArray, List.set_cons_zero, List.set_cons_succ]
  refine Seq.done fun ws3 hws => ?_
  have HS3 := hws.st
  clear HS2 hws
  go_wp2_with fail
  go_loopg [13] n (fun kk s13 wr => ∃ i : Nat, kk = n - i ∧ s13 = .int .i64 (i : Int) ∧ i ≤ n ∧ Hid (St w [(bk10, 30, Mx qs i n), (bk2, 34, #[.bool (decide (Rat.num a1 < 0)), .string (S (Rat.num a1).natAbs), .string (S (Rat.den a1)), .bool (decide (Rat.num a2 < 0)), .string (S (Rat.num a2).natAbs), .string (S (Rat.den a2)), .bool false, .bool false, .string ⟨#[]⟩, .string ⟨#[]⟩])] wr))
  case atStart => exact ⟨0, rfl, rfl, by omega, Lib.hid HS3⟩
  case round =>
    obtain ⟨i, hgk, rfl, hin, hS⟩ := hrel
    have HGK := Lib.hid hgk; clear hgk
    have HR := hS.out; clear hS
    by_cases hc : i < n
    · obtain ⟨i1, hi1⟩ : ∃ i1 : Nat, i1 = i + 1 := ⟨_, rfl⟩
      have HI1 := Lib.hid (show IntKind.i64.wrap ((i : Int) + 1) = (i1 : Int) ∧ n - i1 < n - i ∧ i1 ≤ n ∧ i1 = i + 1 from ⟨by have := HN.out; rw [i64_s _ (by omega) (by omega)]; omega, by omega, by omega, hi1⟩)
      have HC := Lib.hid hc
      have HPX := Lib.hid (show a1 + (px ps i * cosT false 0 - py ps i * sinT 0) = px qs i ∧ a2 + (px ps i * sinT 0 + py ps i * cosT false 0) = py qs i from
        ⟨by rw [← HQ.out, px_mv (lt_of_pts HL.out hc)]; rfl, by rw [← HQ.out, py_mv (lt_of_pts HL.out hc)]; rfl⟩)
      clear hc hin hi1
      go_upto_region 3 with (fail)
      refine wp_seq_text [] (StR.no HR) ?_
      refine Seq.pure (v := .bool true) rfl rfl (by intro w; go_simp <;> (first | (rw [HC.out]; done) | exact HC.out | (simp [HC.out]; done) | (trace_state; done))) ?_
      simp only [Act.put, List.setIfInBounds_toArray, List.set_cons_zero, List.set_cons_succ]
      refine Seq.done fun ws4 hws => ?_
      have HS4 := hws.st
      clear HR hws
      go_upto_region 4 with (fail)
      refine wp_seq_text [] (StR.no HS4) ?_
      refine Seq.pure rfl rfl (by intro w; go_simp; try first | with_reducible rfl | rfl) ?_
      simp only [Act.put, List.setIfInBounds_toArray, List.set_cons_zero, List.set_cons_succ]
      refine Seq.index (m := 6) i rfl rfl rfl rfl rfl (by kernel_rfl) rfl HC.out ?_
      simp only [Act.put, List.setIfInBounds_toArray, List.set_cons_zero, List.set_cons_succ]
      refine Seq.loadAtF rfl rfl rfl rfl HG.out (n := 6) (cs' := VC (px ps i) (py ps i)) (PC_room (lt_of_pts HL.out HC.out)) (by kernel_rfl) (PC_at (lt_of_pts HL.out HC.out)) ?_
      simp only [Act.put, List.setIfInBounds_toArray, List.set_cons_zero, List.set_cons_succ]
      refine Seq.alloc rfl rfl rfl (z := .agg #[.bool false, .string ⟨#[]⟩, .string ⟨#[]⟩, .bool false, .string ⟨#[]⟩, .string ⟨#[]⟩]) (by kernel_rfl) rfl ?_
      intro bk7 _ _ hbk7_r
      simp only [Act.put, List.setIfInBounds_toArray, List.set_cons_zero, List.set_cons_succ]
      refine Seq.pure rfl rfl (by intro w; go_simp; try first | with_reducible rfl | rfl) ?_
      simp only [Act.put, List.setIfInBounds_toArray, List.set_cons_zero, List.set_cons_succ]
      refine Seq.store rfl rfl rfl rfl rfl (by first | exact rS | exact rN (by assumption) (rS) | exact rN (by assumption) (rN (by assumption) (rS)) | exact rN (by assumption) (rN (by assumption) (rN (by assumption) (rS))) | exact rN (by assumption) (rN (by assumption) (rN (by assumption) (rN (by assumption) (rS))))) (n := 6) rfl rfl (by kernel_rfl) (VC_one _ _) ?_
      simp only [Act.put, List.setIfInBounds_toArray, List.set_cons_zero, List.set_cons_succ]
      refine Seq.done fun ws5 hws => ?_
      have HS5 : St w [(bk7, 30, VC (px ps i) (py ps i)), (bk10, 30, Mx qs i n), (bk2, 34, #[.bool (decide (Rat.num a1 < 0)), .string (S (Rat.num a1).natAbs), .string (S (Rat.den a1)), .bool (decide (Rat.num a2 < 0)), .string (S (Rat.num a2).natAbs), .string (S (Rat.den a2)), .bool false, .bool false, .string ⟨#[]⟩, .string ⟨#[]⟩])] ws5 := hws.list1 (by first | exact rS | exact rN (by assumption) (rS) | exact rN (by assumption) (rN (by assumption) (rS)) | exact rN (by assumption) (rN (by assumption) (rN (by assumption) (rS))) | exact rN (by assumption) (rN (by assumption) (rN (by assumption) (rN (by assumption) (rS)))))
      clear HS4 hws
      go_upto_region 5 with (fail)
      have HPbk10 : St w [(bk10, 30, Mx qs i n), (bk7, 30, VC (px ps i) (py ps i)), (bk2, 34, #[.bool (decide (Rat.num a1 < 0)), .string (S (Rat.num a1).natAbs), .string (S (Rat.den a1)), .bool (decide (Rat.num a2 < 0)), .string (S (Rat.num a2).natAbs), .string (S (Rat.den a2)), .bool false, .bool false, .string ⟨#[]⟩, .string ⟨#[]⟩])] _ := St.perm HS5 (List.perm_middle (l₁ := ([(bk7, 30, VC (px ps i) (py ps i))] : List Own)))
      refine wp_seq_text [3000000] (StR.move (StR.no HPbk10)) ?_
      refine Seq.pure rfl rfl (by intro w; go_simp; try first | with_reducible rfl | rfl) ?_
      simp only [Act.put, List.setIfInBounds_toArray, List.set_cons_zero, List.set_cons_succ]
      refine Seq.pure rfl rfl (by intro w; go_simp; try first | with_reducible rfl | rfl) ?_
      simp only [Act.put, List.setIfInBounds_toArray, List.set_cons_zero, List.set_cons_succ]
      refine Seq.load rfl rfl rfl rfl (by repeat (first | exact mC | apply mT)) (n := 10) rfl (by kernel_rfl) ?_
      simp only [Act.put, List.setIfInBounds_toArray, List.set_cons_zero, List.set_cons_succ]
      refine Seq.load rfl rfl rfl rfl (by repeat (first | exact mC | apply mT)) (n := 6) rfl (by kernel_rfl) ?_
      simp only [Act.put, List.setIfInBounds_toArray, List.set_cons_zero, List.set_cons_succ]
      refine Seq.call rfl rfl rfl rfl (by kernel_rfl) (fputraw_q (k := 1 * k + 0) HT.out (Z_a1.out.more (by omega)) (Z_a2.out.more (by omega)) (HZP.out.x (lt_of_pts HL.out HC.out)) (HZP.out.y (lt_of_pts HL.out HC.out)) HPX.out.1 HPX.out.2 (by omega)) ?_
      simp only [Act.put, List.setIfInBounds_toArray, List.set_cons_zero, List.set_cons_succ]
      refine Seq.index (m := 6) i rfl rfl rfl rfl rfl (by kernel_rfl) rfl HC.out ?_
      simp only [Act.put, List.setIfInBounds_toArray, List.set_cons_zero, List.set_cons_succ]
      refine Seq.storeAt (v := .agg (VC (px qs i) (py qs i))) rfl rfl rfl rfl rfl (by first | exact rS | exact rN (by assumption) (rS) | exact rN (by assumption) (rN (by assumption) (rS)) | exact rN (by assumption) (rN (by assumption) (rN (by assumption) (rS))) | exact rN (by assumption) (rN (by assumption) (rN (by assumption) (rN (by assumption) (rS))))) (by have := HC.out; rw [Mx_size]; show 6 * i + 6 ≤ 6 * n; omega) (by show _ = some 6; kernel_rfl) (VC_one _ _) (Mx_put qs HC.out) ?_
      simp only [Act.put, List.setIfInBounds_toArray, List.set_cons_zero, List.set_cons_succ]
      refine Seq.done fun ws6 hws => ?_
      have HS6 : St w [(bk10, 30, Mx qs (i + 1) n), (bk7, 30, VC (px ps i) (py ps i)), (bk2, 34, #[.bool (decide (Rat.num a1 < 0)), .string (S (Rat.num a1).natAbs), .string (S (Rat.den a1)), .bool (decide (Rat.num a2 < 0)), .string (S (Rat.num a2).natAbs), .string (S (Rat.den a2)), .bool false, .bool false, .string ⟨#[]⟩, .string ⟨#[]⟩])] ws6 := hws.list1 (by first | exact rS | exact rN (by assumption) (rS) | exact rN (by assumption) (rN (by assumption) (rS)) | exact rN (by assumption) (rN (by assumption) (rN (by assumption) (rS))) | exact rN (by assumption) (rN (by assumption) (rN (by assumption) (rN (by assumption) (rS)))))
      clear HS5 hws HPbk10
      go_upto_region 6 with (fail)
      refine wp_seq_text [] (StR.no HS6) ?_
      refine Seq.pure (v := .int .i64 (i1 : Int)) rfl rfl (by intro w; go_simp <;> (first | (rw [HI1.out.1]; done) | exact HI1.out.1 | (simp [HI1.out.1]; done) | (trace_state; done))) ?_
      simp only [Act.put, List.setIfInBounds_toArray, List.set_cons_zero, List.set_cons_succ]
      refine Seq.pure rfl rfl (by intro w; go_simp; try first | with_reducible rfl | rfl) ?_
      simp only [Act.put, List.setIfInBounds_toArray, List.set_cons_zero, List.set_cons_succ]
      refine Seq.done fun ws7 hws => ?_
      have HS7 := hws.st
      clear HS6 hws
      rw [← HI1.out.2.2.2] at HS7
      go_wp2_with fail
      go_roundg (n - i1)
      case measure => rw [HGK.out]; exact HI1.out.2.1
      case rel => exact ⟨i1, rfl, rfl, HI1.out.2.2.1, Lib.hid (HS7.sub (.cons_cons _ (.cons _ (.refl _))))⟩
    · have HIN := Lib.hid (show i = n by omega)
      have HC := Lib.hid (show n ≤ i by omega)
      clear hc hin
      go_upto_region 3 with (fail)
      refine wp_seq_text [] (StR.no HR) ?_
      refine Seq.pure (v := .bool false) rfl rfl (by intro w; go_simp <;> (first | (rw [HC.out]; done) | exact HC.out | (simp [HC.out]; done) | (trace_state; done))) ?_
      simp only [Act.put, List.setIfInBounds_toArray, List.set_cons_zero, List.set_cons_succ]
      refine Seq.done fun ws4 hws => ?_
      have HS4 := hws.st
      clear HR hws
      go_upto_region 7 with (fail)
      refine wp_seq_text [] (StR.no HS4) ?_
      refine Seq.pure rfl rfl (by intro w; go_simp; try first | with_reducible rfl | rfl) ?_
      simp only [Act.put, List.setIfInBounds_toArray, List.set_cons_zero, List.set_cons_succ]
      refine Seq.pure rfl rfl (by intro w; go_simp; try first | with_reducible rfl | rfl) ?_
      simp only [Act.put, List.setIfInBounds_toArray, List.set_cons_zero, List.set_cons_succ]
      refine Seq.done fun ws5 hws => ?_
      have HS5 := hws.st
      clear HS4 hws
      go_wp2_with fail
      go_ret
      have hb := (HS5.blk (bk10, _, _) (by repeat (first | exact mC | apply mT)))
      exact ⟨_, hb.1, rfl, HS5.below, by have := hb.2; rw [HIN.out, Mx_all HQL.out] at this; exact this⟩
theorem bld_Frame0 {o : Oper} {a : Act} {X : Operand} {x y : Rat} (ho : o.op = .build 34 #[(0, X)]) (hX : a.eval X = .agg (VC x y)) (w : World) : (execOp a.eval o).run Tryd.prog w = .ok (.value (.agg (#[.bool (decide (Rat.num x < 0)), .string (S (Rat.num x).natAbs), .string (S (Rat.den x)), .bool (decide (Rat.num y < 0)), .string (S (Rat.num y).natAbs), .string (S (Rat.den y)), .bool false, .bool false, .string ⟨#[]⟩, .string ⟨#[]⟩]))) w := by
  unfold VC at hX
  unfold execOp
  simp only [ho, List.map_toArray, List.map_cons, List.map_nil, hX]
  go_simp
end Go.Proofs.YtbgifinfflehmaaDoor
