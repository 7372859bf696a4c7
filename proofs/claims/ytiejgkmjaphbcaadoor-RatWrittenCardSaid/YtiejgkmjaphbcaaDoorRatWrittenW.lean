/- The walk of RatWritten (printed by lawvec.py). -/
import Derived.Test.YtiejgkmjaphbcaaDoorRw3
import Derived.OwnWalk
namespace Go.Proofs.YtiejgkmjaphbcaaDoor
open Go.RowKit
set_option linter.unusedVariables false
set_option linter.unusedSimpArgs false

theorem good_zero (d : Nat) (w : World) (hd : d ≠ 0) (h1 : d ≠ 1) :
    Calls Tryd.prog 13 #[.agg #[.bool false, .string (S 0), .string (S d)]] w fun e w' => e = .returned (.bool false) ∧ Below w.heap.size w w' := by
  have he := S_empty_of hd
  obtain ⟨hd1, hd2⟩ := S_head hd
  have hd3 := S_nil hd
  have hd4 := S_ne_one h1
  have h0 : (S 0).toList = [] := by rw [Lib.toList_data]; rfl
  go_enter Tryd.func13, Tryd.ntmps13
  go_wp2_with fail
  go_ret
  exact ⟨rfl, (Below.refl _ _).alloc (Nat.le_refl _) _⟩
set_option maxHeartbeats 4000000 in
set_option maxRecDepth 20000 in
theorem ratWritten_true (x y : Int) {q : Rat} {K n d : Nat} {u v : List UInt8} (w : World) (Ix : Hid (-9223372036854775808 ≤ x ∧ x ≤ 9223372036854775807)) (Iy : Hid (-9223372036854775808 ≤ y ∧ y ≤ 9223372036854775807)) (HT : Hid (Tab w)) (HQ : Hid (ratMq x = q)) (Z_q : Hid (Rz 1 q)) (HNG : Hid (decide (Rat.num q < 0) = true))
    (HK : Hid (IntKind.i64.wrap (2 + ((belowN y 50 : Nat) : Int)) = (K : Int) ∧ -9223372036854775808 ≤ (K : Int) ∧ (K : Int) ≤ 9223372036854775807)) (HM : Hid ((bstr (Rat.num q).natAbs).length ≤ 35184372088832 ∧ (bstr K).length ≤ 35184372088832 ∧ (bstr (Rat.den q)).length ≤ 35184372088832))
    (HN : Hid ((Rat.num q).natAbs * K = n)) (HD : Hid (Rat.den q * K = d)) (HZ : Hid (Sz 60 n ∧ Sz 60 d ∧ (bstr n).length ≤ 35184372088832 ∧ (bstr d).length ≤ 35184372088832)) (HD0 : Hid (d ≠ 0)) (HQM : Hid (mkRat (sg true n) d = q))
    (HTX : Hid (T n = ⟨u.toArray⟩ ∧ T d = ⟨v.toArray⟩)) (HAP : Hid ((⟨u.toArray⟩ : ByteArray) ++ ⟨#[47]⟩ = ⟨(u ++ [47]).toArray⟩ ∧ (⟨(u ++ [47]).toArray⟩ : ByteArray) ++ ⟨v.toArray⟩ = ⟨(u ++ 47 :: v).toArray⟩ ∧ (⟨#[45]⟩ : ByteArray) ++ ⟨(u ++ 47 :: v).toArray⟩ = ⟨(45 :: (u ++ 47 :: v)).toArray⟩))
    (HLE : Hid (¬ 9223372036854775807 < u.length + 1 ∧ ¬ 9223372036854775807 < u.length + 1 + v.length ∧ ¬ 9223372036854775807 < 1 + (u.length + (v.length + 1)))) (HS : Hid (45 :: (u ++ 47 :: v) = pre true ++ (txt n ++ 47 :: txt d)))
    (HGB : Hid (∀ w, Tab w → Calls Tryd.prog 13 #[.agg #[.bool true, .string (S n), .string (S d)]] w fun e w' => e = .returned (.bool false) ∧ Below w.heap.size w w')) :
    Calls Tryd.prog 3 #[.int .i64 x, .int .i64 y] w fun e w' => e = .returned (.bool true) ∧ Below w.heap.size w w' := by
  go_enter Tryd.func3, Tryd.ntmps3
  have HS : St w [] w := St.start
  go_upto_region 0 with (fail)
  refine wp_seq_text [] (StR.no HS) ?_
  refine Seq.pure rfl rfl (by intro w; go_simp; try first | with_reducible rfl | rfl) ?_
  simp only [Act.put, List.setIfInBounds_toArray, List.set_cons_zero, List.set_cons_succ]
  refine Seq.done fun ws1 hws => ?_
  have HS1 := hws.st
  clear HS hws
  go_upto_region 1 with (fail)
  refine wp_seq_text [] (StR.no HS1) ?_
  refine Seq.call rfl rfl rfl rfl (by kernel_rfl) (begun_q HT.out) ?_
  simp only [Act.put, List.setIfInBounds_toArray, List.set_cons_zero, List.set_cons_succ]
  refine Seq.pure rfl rfl (by intro w; go_simp; try first | with_reducible rfl | rfl) ?_
  simp only [Act.put, List.setIfInBounds_toArray, List.set_cons_zero, List.set_cons_succ]
  refine Seq.done fun ws2 hws => ?_
  have HS2 := hws.st
  clear HS1 hws
  go_upto_region 3 with (fail)
  refine wp_seq_text [] (StR.no HS2) ?_
  refine Seq.pure rfl rfl (by intro w; go_simp; try first | with_reducible rfl | rfl) ?_
  simp only [Act.put, List.setIfInBounds_toArray, List.set_cons_zero, List.set_cons_succ]
  refine Seq.call rfl rfl rfl rfl (by kernel_rfl) (ratM_q HQ.out Ix.out.1 Ix.out.2) ?_
  simp only [Act.put, List.setIfInBounds_toArray, List.set_cons_zero, List.set_cons_succ]
  refine Seq.pure rfl rfl (by intro w; go_simp; try first | with_reducible rfl | rfl) ?_
  simp only [Act.put, List.setIfInBounds_toArray, List.set_cons_zero, List.set_cons_succ]
  refine Seq.call rfl rfl rfl rfl (by kernel_rfl) (below_q (n := 50) Iy.out.1 Iy.out.2 (by omega) (by omega)) ?_
  simp only [Act.put, List.setIfInBounds_toArray, List.set_cons_zero, List.set_cons_succ]
  refine Seq.pure (v := .int .i64 (K : Int)) rfl rfl (by intro w; go_simp <;> (first | (rw [HK.out.1]; done) | exact HK.out.1 | (simp [HK.out.1]; done) | (trace_state; done))) ?_
  simp only [Act.put, List.setIfInBounds_toArray, List.set_cons_zero, List.set_cons_succ]
  refine Seq.alloc rfl rfl rfl (z := .agg #[.bool false, .string ⟨#[]⟩, .string ⟨#[]⟩]) (by kernel_rfl) rfl ?_
  intro bk5 _ _ hbk5_r
  simp only [Act.put, List.setIfInBounds_toArray, List.set_cons_zero, List.set_cons_succ]
  refine Seq.store rfl rfl rfl rfl rfl (by first | exact rS | exact rN (by assumption) (rS) | exact rN (by assumption) (rN (by assumption) (rS)) | exact rN (by assumption) (rN (by assumption) (rN (by assumption) (rS))) | exact rN (by assumption) (rN (by assumption) (rN (by assumption) (rN (by assumption) (rS))))) (n := 3) rfl rfl (by kernel_rfl) (RC_one _) ?_
  simp only [Act.put, List.setIfInBounds_toArray, List.set_cons_zero, List.set_cons_succ]
  refine Seq.pure rfl rfl (by intro w; go_simp; try first | with_reducible rfl | rfl) ?_
  simp only [Act.put, List.setIfInBounds_toArray, List.set_cons_zero, List.set_cons_succ]
  refine Seq.done fun ws3 hws => ?_
  have HS3 : St w [(bk5, 24, RC q)] ws3 := hws.list1 (by first | exact rS | exact rN (by assumption) (rS) | exact rN (by assumption) (rN (by assumption) (rS)) | exact rN (by assumption) (rN (by assumption) (rN (by assumption) (rS))) | exact rN (by assumption) (rN (by assumption) (rN (by assumption) (rN (by assumption) (rS)))))
  clear HS2 hws
  go_upto_region 4 with (fail)
  refine wp_seq_text [] (StR.no HS3) ?_
  refine Seq.load rfl rfl rfl rfl (by repeat (first | exact mC | apply mT)) (n := 3) rfl (by kernel_rfl) ?_
  simp only [Act.put, List.setIfInBounds_toArray, List.set_cons_zero, List.set_cons_succ]
  refine Seq.call rfl rfl rfl rfl (by kernel_rfl) (text_q HT.out (Z_q.out.more (by omega))) ?_
  simp only [Act.put, List.setIfInBounds_toArray, List.set_cons_zero, List.set_cons_succ]
  refine Seq.call rfl rfl rfl rfl (by kernel_rfl) (read_text HT.out (Z_q.out.more (by omega))) ?_
  simp only [Act.put, List.setIfInBounds_toArray, List.set_cons_zero, List.set_cons_succ]
  refine Seq.pure rfl rfl (by intro w; go_simp; try first | with_reducible rfl | rfl) ?_
  simp only [Act.put, List.setIfInBounds_toArray, List.set_cons_zero, List.set_cons_succ]
  refine Seq.pure (v := .agg (RC q)) rfl rfl (fun w => rfl) ?_
  simp only [Act.put, List.setIfInBounds_toArray, List.set_cons_zero, List.set_cons_succ]
  refine Seq.pure (v := .int .i64 0) rfl rfl (fun w => rfl) ?_
  simp only [Act.put, List.setIfInBounds_toArray, List.set_cons_zero, List.set_cons_succ]
  refine Seq.alloc rfl rfl rfl (z := .agg #[.bool false, .string ⟨#[]⟩, .string ⟨#[]⟩]) (by kernel_rfl) rfl ?_
  intro bk6 _ _ hbk6_r
  simp only [Act.put, List.setIfInBounds_toArray, List.set_cons_zero, List.set_cons_succ]
  refine Seq.store rfl rfl rfl rfl rfl (by first | exact rS | exact rN (by assumption) (rS) | exact rN (by assumption) (rN (by assumption) (rS)) | exact rN (by assumption) (rN (by assumption) (rN (by assumption) (rS))) | exact rN (by assumption) (rN (by assumption) (rN (by assumption) (rN (by assumption) (rS))))) (n := 3) rfl rfl (by kernel_rfl) (RC_one _) ?_
  simp only [Act.put, List.setIfInBounds_toArray, List.set_cons_zero, List.set_cons_succ]
  refine Seq.pure rfl rfl (by intro w; go_simp; try first | with_reducible rfl | rfl) ?_
  simp only [Act.put, List.setIfInBounds_toArray, List.set_cons_zero, List.set_cons_succ]
  refine Seq.done fun ws4 hws => ?_
  have HS4 : St w [(bk6, 24, RC q), (bk5, 24, RC q)] ws4 := hws.list1 (by first | exact rS | exact rN (by assumption) (rS) | exact rN (by assumption) (rN (by assumption) (rS)) | exact rN (by assumption) (rN (by assumption) (rN (by assumption) (rS))) | exact rN (by assumption) (rN (by assumption) (rN (by assumption) (rN (by assumption) (rS)))))
  clear HS3 hws
  go_upto_region 5 with (fail)
  refine wp_seq [] (by kernel_rfl) (by kernel_rfl) Reg.fin_no (StR.no HS4) ?_
  refine Seq.pure (v := .pointer (some ⟨bk5, 1, none⟩)) rfl rfl (by intro w; go_simp; try first | with_reducible rfl | rfl) ?_
  simp only [Act.put, List.setIfInBounds_toArray, List.set_cons_zero, List.set_cons_succ]
  refine Seq.loadCell rfl rfl rfl rfl (by repeat (first | exact mC | apply mT)) (v := .string (S (Rat.num q).natAbs)) (by first | rfl | (simp [VC, TC, FC, BC, RC]; done)) (by kernel_rfl) rfl ?_
  simp only [Act.put, List.setIfInBounds_toArray, List.set_cons_zero, List.set_cons_succ]
  refine Seq.pure rfl rfl (by intro w; go_simp; try first | with_reducible rfl | rfl) ?_
  simp only [Act.put, List.setIfInBounds_toArray, List.set_cons_zero, List.set_cons_succ]
  refine Seq.call rfl rfl rfl rfl (by kernel_rfl) (fun w h => (natOf_any (K : Int) w HK.out.2.1 HK.out.2.2).mono fun e w' hh => ⟨by rw [hh.1, Int.toNat_natCast], hh.2⟩) ?_
  simp only [Act.put, List.setIfInBounds_toArray, List.set_cons_zero, List.set_cons_succ]
  refine Seq.call rfl rfl rfl rfl (by kernel_rfl) (fun w h => (mul_S (Rat.num q).natAbs K w HM.out.1 HM.out.2.1).mono fun e w' hh => ⟨by rw [hh.1, HN.out], hh.2⟩) ?_
  simp only [Act.put, List.setIfInBounds_toArray, List.set_cons_zero, List.set_cons_succ]
  refine Seq.pure (v := .pointer (some ⟨bk5, 2, none⟩)) rfl rfl (by intro w; go_simp; try first | with_reducible rfl | rfl) ?_
  simp only [Act.put, List.setIfInBounds_toArray, List.set_cons_zero, List.set_cons_succ]
  refine Seq.loadCell rfl rfl rfl rfl (by repeat (first | exact mC | apply mT)) (v := .string (S (Rat.den q))) (by first | rfl | (simp [VC, TC, FC, BC, RC]; done)) (by kernel_rfl) rfl ?_
  simp only [Act.put, List.setIfInBounds_toArray, List.set_cons_zero, List.set_cons_succ]
  refine Seq.pure rfl rfl (by intro w; go_simp; try first | with_reducible rfl | rfl) ?_
  simp only [Act.put, List.setIfInBounds_toArray, List.set_cons_zero, List.set_cons_succ]
  refine Seq.call rfl rfl rfl rfl (by kernel_rfl) (fun w h => (natOf_any (K : Int) w HK.out.2.1 HK.out.2.2).mono fun e w' hh => ⟨by rw [hh.1, Int.toNat_natCast], hh.2⟩) ?_
  simp only [Act.put, List.setIfInBounds_toArray, List.set_cons_zero, List.set_cons_succ]
  refine Seq.call rfl rfl rfl rfl (by kernel_rfl) (fun w h => (mul_S (Rat.den q) K w HM.out.2.2 HM.out.2.1).mono fun e w' hh => ⟨by rw [hh.1, HD.out], hh.2⟩) ?_
  simp only [Act.put, List.setIfInBounds_toArray, List.set_cons_zero, List.set_cons_succ]
  refine Seq.pure rfl rfl (by intro w; go_simp; try first | with_reducible rfl | rfl) ?_
  simp only [Act.put, List.setIfInBounds_toArray, List.set_cons_zero, List.set_cons_succ]
  refine Seq.pure rfl rfl (by intro w; go_simp; try first | with_reducible rfl | rfl) ?_
  simp only [Act.put, List.setIfInBounds_toArray, List.set_cons_zero, List.set_cons_succ]
  refine Seq.done fun ws5 hws => ?_
  have HS5 := hws.st
  clear HS4 hws
  go_upto_region 6 with (fail)
  refine wp_seq_text [] (StR.no HS5) ?_
  refine Seq.pure rfl rfl (by intro w; go_simp; try first | with_reducible rfl | rfl) ?_
  simp only [Act.put, List.setIfInBounds_toArray, List.set_cons_zero, List.set_cons_succ]
  refine Seq.call rfl rfl rfl rfl (by kernel_rfl) (fun w h => (Text_S n w HZ.out.2.2.1).mono fun e w' hh => ⟨by rw [hh.1, HTX.out.1], hh.2⟩) ?_
  simp only [Act.put, List.setIfInBounds_toArray, List.set_cons_zero, List.set_cons_succ]
  refine Seq.pure (v := .string ⟨(u ++ [47]).toArray⟩) rfl rfl (by intro w; go_simp <;> (first | (rw [HAP.out.1]; done) | (rw [HLE.out.1]; done) | exact HAP.out.1 | exact HLE.out.1 | (simp [HAP.out.1, HLE.out.1]; done) | (trace_state; done))) ?_
  simp only [Act.put, List.setIfInBounds_toArray, List.set_cons_zero, List.set_cons_succ]
  refine Seq.pure rfl rfl (by intro w; go_simp; try first | with_reducible rfl | rfl) ?_
  simp only [Act.put, List.setIfInBounds_toArray, List.set_cons_zero, List.set_cons_succ]
  refine Seq.call rfl rfl rfl rfl (by kernel_rfl) (fun w h => (Text_S d w HZ.out.2.2.2).mono fun e w' hh => ⟨by rw [hh.1, HTX.out.2], hh.2⟩) ?_
  simp only [Act.put, List.setIfInBounds_toArray, List.set_cons_zero, List.set_cons_succ]
  refine Seq.pure (v := .string ⟨(u ++ 47 :: v).toArray⟩) rfl rfl (by intro w; go_simp <;> (first | (rw [HAP.out.2.1]; done) | (rw [HLE.out.2.1]; done) | exact HAP.out.2.1 | exact HLE.out.2.1 | (simp [HAP.out.2.1, HLE.out.2.1]; done) | (trace_state; done))) ?_
  simp only [Act.put, List.setIfInBounds_toArray, List.set_cons_zero, List.set_cons_succ]
  refine Seq.pure rfl rfl (by intro w; go_simp; try first | with_reducible rfl | rfl) ?_
  simp only [Act.put, List.setIfInBounds_toArray, List.set_cons_zero, List.set_cons_succ]
  refine Seq.done fun ws6 hws => ?_
  have HS6 := hws.st
  clear HS5 hws
  go_upto_region 7 with (fail)
  refine wp_seq_text [] (StR.no HS6) ?_
  refine Seq.pure (v := .pointer (some ⟨bk5, 0, none⟩)) rfl rfl (by intro w; go_simp; try first | with_reducible rfl | rfl) ?_
  simp only [Act.put, List.setIfInBounds_toArray, List.set_cons_zero, List.set_cons_succ]
  refine Seq.loadCell rfl rfl rfl rfl (by repeat (first | exact mC | apply mT)) (v := .bool true) (by show some (Value.bool (decide (Rat.num q < 0))) = _; rw [HNG.out]) (by kernel_rfl) rfl ?_
  simp only [Act.put, List.setIfInBounds_toArray, List.set_cons_zero, List.set_cons_succ]
  refine Seq.done fun ws7 hws => ?_
  have HS7 := hws.st
  clear HS6 hws
  go_upto_region 8 with (fail)
  refine wp_seq_text [] (StR.no HS7) ?_
  refine Seq.pure rfl rfl (by intro w; go_simp; try first | with_reducible rfl | rfl) ?_
  simp only [Act.put, List.setIfInBounds_toArray, List.set_cons_zero, List.set_cons_succ]
  refine Seq.pure (v := .string ⟨(45 :: (u ++ 47 :: v)).toArray⟩) rfl rfl (by intro w; go_simp <;> (first | (rw [HAP.out.2.2]; done) | (rw [HLE.out.2.2]; done) | exact HAP.out.2.2 | exact HLE.out.2.2 | (simp [HAP.out.2.2, HLE.out.2.2]; done) | (trace_state; done))) ?_
  simp only [Act.put, List.setIfInBounds_toArray, List.set_cons_zero, List.set_cons_succ]
  refine Seq.pure rfl rfl (by intro w; go_simp; try first | with_reducible rfl | rfl) ?_
  simp only [Act.put, List.setIfInBounds_toArray, List.set_cons_zero, List.set_cons_succ]
  refine Seq.done fun ws8 hws => ?_
  have HS8 := hws.st
  clear HS7 hws
  go_upto_region 9 with (fail)
  refine wp_seq_text [] (StR.no HS8) ?_
  refine Seq.pure rfl rfl (by intro w; go_simp; try first | with_reducible rfl | rfl) ?_
  simp only [Act.put, List.setIfInBounds_toArray, List.set_cons_zero, List.set_cons_succ]
  refine Seq.call rfl rfl rfl rfl (by kernel_rfl) (rread_at (k := 60) (neg := true) (n := n) (d := d) HT.out HS.out HZ.out.1 HZ.out.2.1 HD0.out HQM.out rfl) ?_
  simp only [Act.put, List.setIfInBounds_toArray, List.set_cons_zero, List.set_cons_succ]
  refine Seq.pure rfl rfl (by intro w; go_simp; try first | with_reducible rfl | rfl) ?_
  simp only [Act.put, List.setIfInBounds_toArray, List.set_cons_zero, List.set_cons_succ]
  refine Seq.pure (v := .agg (RC q)) rfl rfl (fun w => rfl) ?_
  simp only [Act.put, List.setIfInBounds_toArray, List.set_cons_zero, List.set_cons_succ]
  refine Seq.pure (v := .int .i64 0) rfl rfl (fun w => rfl) ?_
  simp only [Act.put, List.setIfInBounds_toArray, List.set_cons_zero, List.set_cons_succ]
  refine Seq.alloc rfl rfl rfl (z := .agg #[.bool false, .string ⟨#[]⟩, .string ⟨#[]⟩]) (by kernel_rfl) rfl ?_
  intro bk11 _ _ hbk11_r
  simp only [Act.put, List.setIfInBounds_toArray, List.set_cons_zero, List.set_cons_succ]
  refine Seq.store rfl rfl rfl rfl rfl (by first | exact rS | exact rN (by assumption) (rS) | exact rN (by assumption) (rN (by assumption) (rS)) | exact rN (by assumption) (rN (by assumption) (rN (by assumption) (rS))) | exact rN (by assumption) (rN (by assumption) (rN (by assumption) (rN (by assumption) (rS))))) (n := 3) rfl rfl (by kernel_rfl) (RC_one _) ?_
  simp only [Act.put, List.setIfInBounds_toArray, List.set_cons_zero, List.set_cons_succ]
  refine Seq.pure rfl rfl (by intro w; go_simp; try first | with_reducible rfl | rfl) ?_
  simp only [Act.put, List.setIfInBounds_toArray, List.set_cons_zero, List.set_cons_succ]
  refine Seq.done fun ws9 hws => ?_
  have HS9 : St w [(bk11, 24, RC q), (bk6, 24, RC q), (bk5, 24, RC q)] ws9 := hws.list1 (by first | exact rS | exact rN (by assumption) (rS) | exact rN (by assumption) (rN (by assumption) (rS)) | exact rN (by assumption) (rN (by assumption) (rN (by assumption) (rS))) | exact rN (by assumption) (rN (by assumption) (rN (by assumption) (rN (by assumption) (rS)))))
  clear HS8 hws
  go_upto_region 10 with (fail)
  refine wp_seq_text [] (StR.no HS9) ?_
  refine Seq.pure (v := .pointer (some ⟨bk5, 0, none⟩)) rfl rfl (by intro w; go_simp; try first | with_reducible rfl | rfl) ?_
  simp only [Act.put, List.setIfInBounds_toArray, List.set_cons_zero, List.set_cons_succ]
  refine Seq.loadCell rfl rfl rfl rfl (by repeat (first | exact mC | apply mT)) (v := .bool true) (by show some (Value.bool (decide (Rat.num q < 0))) = _; rw [HNG.out]) (by kernel_rfl) rfl ?_
  simp only [Act.put, List.setIfInBounds_toArray, List.set_cons_zero, List.set_cons_succ]
  refine Seq.pure rfl rfl (by intro w; go_simp; try first | with_reducible rfl | rfl) ?_
  simp only [Act.put, List.setIfInBounds_toArray, List.set_cons_zero, List.set_cons_succ]
  refine Seq.pure rfl rfl (by intro w; go_simp; try first | with_reducible rfl | rfl) ?_
  simp only [Act.put, List.setIfInBounds_toArray, List.set_cons_zero, List.set_cons_succ]
  refine Seq.pure (v := .agg #[.bool true, .string (S n), .string (S d)]) rfl rfl (by intro w; go_simp; try first | with_reducible rfl | rfl) ?_
  simp only [Act.put, List.setIfInBounds_toArray, List.set_cons_zero, List.set_cons_succ]
  refine Seq.alloc rfl rfl rfl (z := .agg #[.bool false, .string ⟨#[]⟩, .string ⟨#[]⟩]) (by kernel_rfl) rfl ?_
  intro bk13 _ _ hbk13_r
  simp only [Act.put, List.setIfInBounds_toArray, List.set_cons_zero, List.set_cons_succ]
  refine Seq.store rfl rfl rfl rfl rfl (by first | exact rS | exact rN (by assumption) (rS) | exact rN (by assumption) (rN (by assumption) (rS)) | exact rN (by assumption) (rN (by assumption) (rN (by assumption) (rS))) | exact rN (by assumption) (rN (by assumption) (rN (by assumption) (rN (by assumption) (rS))))) (n := 3) rfl rfl (by kernel_rfl) (by intro u hu; simp at hu; rcases hu with rfl | rfl | rfl <;> rfl) ?_
  simp only [Act.put, List.setIfInBounds_toArray, List.set_cons_zero, List.set_cons_succ]
  refine Seq.done fun ws10 hws => ?_
  have HS10 : St w [(bk13, 24, #[.bool true, .string (S n), .string (S d)]), (bk11, 24, RC q), (bk6, 24, RC q), (bk5, 24, RC q)] ws10 := hws.list1 (by first | exact rS | exact rN (by assumption) (rS) | exact rN (by assumption) (rN (by assumption) (rS)) | exact rN (by assumption) (rN (by assumption) (rN (by assumption) (rS))) | exact rN (by assumption) (rN (by assumption) (rN (by assumption) (rN (by assumption) (rS)))))
  clear HS9 hws
  go_upto_region 11 with (fail)
  refine wp_seq_text [] (StR.no HS10) ?_
  refine Seq.pure rfl rfl (by intro w; go_simp; try first | with_reducible rfl | rfl) ?_
  simp only [Act.put, List.setIfInBounds_toArray, List.set_cons_zero, List.set_cons_succ]
  refine Seq.pure rfl rfl (by intro w; go_simp; try first | with_reducible rfl | rfl) ?_
  simp only [Act.put, List.setIfInBounds_toArray, List.set_cons_zero, List.set_cons_succ]
  refine Seq.pure rfl rfl (by intro w; go_simp; try first | with_reducible rfl | rfl) ?_
  simp only [Act.put, List.setIfInBounds_toArray, List.set_cons_zero, List.set_cons_succ]
  refine Seq.load rfl rfl rfl rfl (by repeat (first | exact mC | apply mT)) (n := 3) rfl (by kernel_rfl) ?_
  simp only [Act.put, List.setIfInBounds_toArray, List.set_cons_zero, List.set_cons_succ]
  refine Seq.load rfl rfl rfl rfl (by repeat (first | exact mC | apply mT)) (n := 3) rfl (by kernel_rfl) ?_
  simp only [Act.put, List.setIfInBounds_toArray, List.set_cons_zero, List.set_cons_succ]
  refine Seq.eqR rfl rfl rfl rfl rfl (b := true) (decide_eq_true rfl) ?_
  simp only [Act.put, List.setIfInBounds_toArray, List.set_cons_zero, List.set_cons_succ]
  refine Seq.pure rfl rfl (by intro w; go_simp; try first | with_reducible rfl | rfl) ?_
  simp only [Act.put, List.setIfInBounds_toArray, List.set_cons_zero, List.set_cons_succ]
  refine Seq.pure rfl rfl (by intro w; go_simp; try first | with_reducible rfl | rfl) ?_
  simp only [Act.put, List.setIfInBounds_toArray, List.set_cons_zero, List.set_cons_succ]
  refine Seq.pure rfl rfl (by intro w; go_simp; try first | with_reducible rfl | rfl) ?_
  simp only [Act.put, List.setIfInBounds_toArray, List.set_cons_zero, List.set_cons_succ]
  refine Seq.pure rfl rfl (by intro w; go_simp; try first | with_reducible rfl | rfl) ?_
  simp only [Act.put, List.setIfInBounds_toArray, List.set_cons_zero, List.set_cons_succ]
  refine Seq.pure rfl rfl (by intro w; go_simp; try first | with_reducible rfl | rfl) ?_
  simp only [Act.put, List.setIfInBounds_toArray, List.set_cons_zero, List.set_cons_succ]
  refine Seq.pure rfl rfl (by intro w; go_simp; try first | with_reducible rfl | rfl) ?_
  simp only [Act.put, List.setIfInBounds_toArray, List.set_cons_zero, List.set_cons_succ]
  refine Seq.load rfl rfl rfl rfl (by repeat (first | exact mC | apply mT)) (n := 3) rfl (by kernel_rfl) ?_
  simp only [Act.put, List.setIfInBounds_toArray, List.set_cons_zero, List.set_cons_succ]
  refine Seq.load rfl rfl rfl rfl (by repeat (first | exact mC | apply mT)) (n := 3) rfl (by kernel_rfl) ?_
  simp only [Act.put, List.setIfInBounds_toArray, List.set_cons_zero, List.set_cons_succ]
  refine Seq.eqR rfl rfl rfl rfl rfl (b := true) (decide_eq_true rfl) ?_
  simp only [Act.put, List.setIfInBounds_toArray, List.set_cons_zero, List.set_cons_succ]
  refine Seq.pure rfl rfl (by intro w; go_simp; try first | with_reducible rfl | rfl) ?_
  simp only [Act.put, List.setIfInBounds_toArray, List.set_cons_zero, List.set_cons_succ]
  refine Seq.pure rfl rfl (by intro w; go_simp; try first | with_reducible rfl | rfl) ?_
  simp only [Act.put, List.setIfInBounds_toArray, List.set_cons_zero, List.set_cons_succ]
  refine Seq.load rfl rfl rfl rfl (by repeat (first | exact mC | apply mT)) (n := 3) rfl (by kernel_rfl) ?_
  simp only [Act.put, List.setIfInBounds_toArray, List.set_cons_zero, List.set_cons_succ]
  refine Seq.call rfl rfl rfl rfl (by kernel_rfl) (fun w h => HGB.out w (tabS HT.out h)) ?_
  simp only [Act.put, List.setIfInBounds_toArray, List.set_cons_zero, List.set_cons_succ]
  refine Seq.pure rfl rfl (by intro w; go_simp; try first | with_reducible rfl | rfl) ?_
  simp only [Act.put, List.setIfInBounds_toArray, List.set_cons_zero, List.set_cons_succ]
  refine Seq.pure rfl rfl (by intro w; go_simp; try first | with_reducible rfl | rfl) ?_
  simp only [Act.put, List.setIfInBounds_toArray, List.set_cons_zero, List.set_cons_succ]
  refine Seq.pure rfl rfl (by intro w; go_simp; try first | with_reducible rfl | rfl) ?_
  simp only [Act.put, List.setIfInBounds_toArray, List.set_cons_zero, List.set_cons_succ]
  refine Seq.load rfl rfl rfl rfl (by repeat (first | exact mC | apply mT)) (n := 3) rfl (by kernel_rfl) ?_
  simp only [Act.put, List.setIfInBounds_toArray, List.set_cons_zero, List.set_cons_succ]
  refine Seq.call rfl rfl rfl rfl (by kernel_rfl) (signbad_q HT.out HGB.out) ?_
  simp only [Act.put, List.setIfInBounds_toArray, List.set_cons_zero, List.set_cons_succ]
  refine Seq.pure rfl rfl (by intro w; go_simp; try first | with_reducible rfl | rfl) ?_
  simp only [Act.put, List.setIfInBounds_toArray, List.set_cons_zero, List.set_cons_succ]
  refine Seq.pure rfl rfl (by intro w; go_simp; try first | with_reducible rfl | rfl) ?_
  simp only [Act.put, List.setIfInBounds_toArray, List.set_cons_zero, List.set_cons_succ]
  refine Seq.pure rfl rfl (by intro w; go_simp; try first | with_reducible rfl | rfl) ?_
  simp only [Act.put, List.setIfInBounds_toArray, List.set_cons_zero, List.set_cons_succ]
  refine Seq.done fun ws11 hws => ?_
  have HS11 := hws.st
  clear HS10 hws
  go_wp2_with fail
  go_ret
  exact ⟨rfl, HS11.below⟩
set_option maxHeartbeats 4000000 in
set_option maxRecDepth 20000 in
theorem ratWritten_false (x y : Int) {q : Rat} {K n d : Nat} {u v : List UInt8} (w : World) (Ix : Hid (-9223372036854775808 ≤ x ∧ x ≤ 9223372036854775807)) (Iy : Hid (-9223372036854775808 ≤ y ∧ y ≤ 9223372036854775807)) (HT : Hid (Tab w)) (HQ : Hid (ratMq x = q)) (Z_q : Hid (Rz 1 q)) (HNG : Hid (decide (Rat.num q < 0) = false))
    (HK : Hid (IntKind.i64.wrap (2 + ((belowN y 50 : Nat) : Int)) = (K : Int) ∧ -9223372036854775808 ≤ (K : Int) ∧ (K : Int) ≤ 9223372036854775807)) (HM : Hid ((bstr (Rat.num q).natAbs).length ≤ 35184372088832 ∧ (bstr K).length ≤ 35184372088832 ∧ (bstr (Rat.den q)).length ≤ 35184372088832))
    (HN : Hid ((Rat.num q).natAbs * K = n)) (HD : Hid (Rat.den q * K = d)) (HZ : Hid (Sz 60 n ∧ Sz 60 d ∧ (bstr n).length ≤ 35184372088832 ∧ (bstr d).length ≤ 35184372088832)) (HD0 : Hid (d ≠ 0)) (HQM : Hid (mkRat (sg false n) d = q))
    (HTX : Hid (T n = ⟨u.toArray⟩ ∧ T d = ⟨v.toArray⟩)) (HAP : Hid ((⟨u.toArray⟩ : ByteArray) ++ ⟨#[47]⟩ = ⟨(u ++ [47]).toArray⟩ ∧ (⟨(u ++ [47]).toArray⟩ : ByteArray) ++ ⟨v.toArray⟩ = ⟨(u ++ 47 :: v).toArray⟩ ∧ (⟨#[45]⟩ : ByteArray) ++ ⟨(u ++ 47 :: v).toArray⟩ = ⟨(45 :: (u ++ 47 :: v)).toArray⟩))
    (HLE : Hid (¬ 9223372036854775807 < u.length + 1 ∧ ¬ 9223372036854775807 < u.length + 1 + v.length ∧ ¬ 9223372036854775807 < 1 + (u.length + (v.length + 1)))) (HS : Hid (u ++ 47 :: v = pre false ++ (txt n ++ 47 :: txt d)))
    (HGB : Hid (∀ w, Tab w → Calls Tryd.prog 13 #[.agg #[.bool false, .string (S n), .string (S d)]] w fun e w' => e = .returned (.bool false) ∧ Below w.heap.size w w')) :
    Calls Tryd.prog 3 #[.int .i64 x, .int .i64 y] w fun e w' => e = .returned (.bool true) ∧ Below w.heap.size w w' := by
  go_enter Tryd.func3, Tryd.ntmps3
  have HS : St w [] w := St.start
  go_upto_region 0 with (fail)
  refine wp_seq_text [] (StR.no HS) ?_
  refine Seq.pure rfl rfl (by intro w; go_simp; try first | with_reducible rfl | rfl) ?_
  simp only [Act.put, List.setIfInBounds_toArray, List.set_cons_zero, List.set_cons_succ]
  refine Seq.done fun ws1 hws => ?_
  have HS1 := hws.st
  clear HS hws
  go_upto_region 1 with (fail)
  refine wp_seq_text [] (StR.no HS1) ?_
  refine Seq.call rfl rfl rfl rfl (by kernel_rfl) (begun_q HT.out) ?_
  simp only [Act.put, List.setIfInBounds_toArray, List.set_cons_zero, List.set_cons_succ]
  refine Seq.pure rfl rfl (by intro w; go_simp; try first | with_reducible rfl | rfl) ?_
  simp only [Act.put, List.setIfInBounds_toArray, List.set_cons_zero, List.set_cons_succ]
  refine Seq.done fun ws2 hws => ?_
  have HS2 := hws.st
  clear HS1 hws
  go_upto_region 3 with (fail)
  refine wp_seq_text [] (StR.no HS2) ?_
  refine Seq.pure rfl rfl (by intro w; go_simp; try first | with_reducible rfl | rfl) ?_
  simp only [Act.put, List.setIfInBounds_toArray, List.set_cons_zero, List.set_cons_succ]
  refine Seq.call rfl rfl rfl rfl (by kernel_rfl) (ratM_q HQ.out Ix.out.1 Ix.out.2) ?_
  simp only [Act.put, List.setIfInBounds_toArray, List.set_cons_zero, List.set_cons_succ]
  refine Seq.pure rfl rfl (by intro w; go_simp; try first | with_reducible rfl | rfl) ?_
  simp only [Act.put, List.setIfInBounds_toArray, List.set_cons_zero, List.set_cons_succ]
  refine Seq.call rfl rfl rfl rfl (by kernel_rfl) (below_q (n := 50) Iy.out.1 Iy.out.2 (by omega) (by omega)) ?_
  simp only [Act.put, List.setIfInBounds_toArray, List.set_cons_zero, List.set_cons_succ]
  refine Seq.pure (v := .int .i64 (K : Int)) rfl rfl (by intro w; go_simp <;> (first | (rw [HK.out.1]; done) | exact HK.out.1 | (simp [HK.out.1]; done) | (trace_state; done))) ?_
  simp only [Act.put, List.setIfInBounds_toArray, List.set_cons_zero, List.set_cons_succ]
  refine Seq.alloc rfl rfl rfl (z := .agg #[.bool false, .string ⟨#[]⟩, .string ⟨#[]⟩]) (by kernel_rfl) rfl ?_
  intro bk5 _ _ hbk5_r
  simp only [Act.put, List.setIfInBounds_toArray, List.set_cons_zero, List.set_cons_succ]
  refine Seq.store rfl rfl rfl rfl rfl (by first | exact rS | exact rN (by assumption) (rS) | exact rN (by assumption) (rN (by assumption) (rS)) | exact rN (by assumption) (rN (by assumption) (rN (by assumption) (rS))) | exact rN (by assumption) (rN (by assumption) (rN (by assumption) (rN (by assumption) (rS))))) (n := 3) rfl rfl (by kernel_rfl) (RC_one _) ?_
  simp only [Act.put, List.setIfInBounds_toArray, List.set_cons_zero, List.set_cons_succ]
  refine Seq.pure rfl rfl (by intro w; go_simp; try first | with_reducible rfl | rfl) ?_
  simp only [Act.put, List.setIfInBounds_toArray, List.set_cons_zero, List.set_cons_succ]
  refine Seq.done fun ws3 hws => ?_
  have HS3 : St w [(bk5, 24, RC q)] ws3 := hws.list1 (by first | exact rS | exact rN (by assumption) (rS) | exact rN (by assumption) (rN (by assumption) (rS)) | exact rN (by assumption) (rN (by assumption) (rN (by assumption) (rS))) | exact rN (by assumption) (rN (by assumption) (rN (by assumption) (rN (by assumption) (rS)))))
  clear HS2 hws
  go_upto_region 4 with (fail)
  refine wp_seq_text [] (StR.no HS3) ?_
  refine Seq.load rfl rfl rfl rfl (by repeat (first | exact mC | apply mT)) (n := 3) rfl (by kernel_rfl) ?_
  simp only [Act.put, List.setIfInBounds_toArray, List.set_cons_zero, List.set_cons_succ]
  refine Seq.call rfl rfl rfl rfl (by kernel_rfl) (text_q HT.out (Z_q.out.more (by omega))) ?_
  simp only [Act.put, List.setIfInBounds_toArray, List.set_cons_zero, List.set_cons_succ]
  refine Seq.call rfl rfl rfl rfl (by kernel_rfl) (read_text HT.out (Z_q.out.more (by omega))) ?_
  simp only [Act.put, List.setIfInBounds_toArray, List.set_cons_zero, List.set_cons_succ]
  refine Seq.pure rfl rfl (by intro w; go_simp; try first | with_reducible rfl | rfl) ?_
  simp only [Act.put, List.setIfInBounds_toArray, List.set_cons_zero, List.set_cons_succ]
  refine Seq.pure (v := .agg (RC q)) rfl rfl (fun w => rfl) ?_
  simp only [Act.put, List.setIfInBounds_toArray, List.set_cons_zero, List.set_cons_succ]
  refine Seq.pure (v := .int .i64 0) rfl rfl (fun w => rfl) ?_
  simp only [Act.put, List.setIfInBounds_toArray, List.set_cons_zero, List.set_cons_succ]
  refine Seq.alloc rfl rfl rfl (z := .agg #[.bool false, .string ⟨#[]⟩, .string ⟨#[]⟩]) (by kernel_rfl) rfl ?_
  intro bk6 _ _ hbk6_r
  simp only [Act.put, List.setIfInBounds_toArray, List.set_cons_zero, List.set_cons_succ]
  refine Seq.store rfl rfl rfl rfl rfl (by first | exact rS | exact rN (by assumption) (rS) | exact rN (by assumption) (rN (by assumption) (rS)) | exact rN (by assumption) (rN (by assumption) (rN (by assumption) (rS))) | exact rN (by assumption) (rN (by assumption) (rN (by assumption) (rN (by assumption) (rS))))) (n := 3) rfl rfl (by kernel_rfl) (RC_one _) ?_
  simp only [Act.put, List.setIfInBounds_toArray, List.set_cons_zero, List.set_cons_succ]
  refine Seq.pure rfl rfl (by intro w; go_simp; try first | with_reducible rfl | rfl) ?_
  simp only [Act.put, List.setIfInBounds_toArray, List.set_cons_zero, List.set_cons_succ]
  refine Seq.done fun ws4 hws => ?_
  have HS4 : St w [(bk6, 24, RC q), (bk5, 24, RC q)] ws4 := hws.list1 (by first | exact rS | exact rN (by assumption) (rS) | exact rN (by assumption) (rN (by assumption) (rS)) | exact rN (by assumption) (rN (by assumption) (rN (by assumption) (rS))) | exact rN (by assumption) (rN (by assumption) (rN (by assumption) (rN (by assumption) (rS)))))
  clear HS3 hws
  go_upto_region 5 with (fail)
  refine wp_seq [] (by kernel_rfl) (by kernel_rfl) Reg.fin_no (StR.no HS4) ?_
  refine Seq.pure (v := .pointer (some ⟨bk5, 1, none⟩)) rfl rfl (by intro w; go_simp; try first | with_reducible rfl | rfl) ?_
  simp only [Act.put, List.setIfInBounds_toArray, List.set_cons_zero, List.set_cons_succ]
  refine Seq.loadCell rfl rfl rfl rfl (by repeat (first | exact mC | apply mT)) (v := .string (S (Rat.num q).natAbs)) (by first | rfl | (simp [VC, TC, FC, BC, RC]; done)) (by kernel_rfl) rfl ?_
  simp only [Act.put, List.setIfInBounds_toArray, List.set_cons_zero, List.set_cons_succ]
  refine Seq.pure rfl rfl (by intro w; go_simp; try first | with_reducible rfl | rfl) ?_
  simp only [Act.put, List.setIfInBounds_toArray, List.set_cons_zero, List.set_cons_succ]
  refine Seq.call rfl rfl rfl rfl (by kernel_rfl) (fun w h => (natOf_any (K : Int) w HK.out.2.1 HK.out.2.2).mono fun e w' hh => ⟨by rw [hh.1, Int.toNat_natCast], hh.2⟩) ?_
  simp only [Act.put, List.setIfInBounds_toArray, List.set_cons_zero, List.set_cons_succ]
  refine Seq.call rfl rfl rfl rfl (by kernel_rfl) (fun w h => (mul_S (Rat.num q).natAbs K w HM.out.1 HM.out.2.1).mono fun e w' hh => ⟨by rw [hh.1, HN.out], hh.2⟩) ?_
  simp only [Act.put, List.setIfInBounds_toArray, List.set_cons_zero, List.set_cons_succ]
  refine Seq.pure (v := .pointer (some ⟨bk5, 2, none⟩)) rfl rfl (by intro w; go_simp; try first | with_reducible rfl | rfl) ?_
  simp only [Act.put, List.setIfInBounds_toArray, List.set_cons_zero, List.set_cons_succ]
  refine Seq.loadCell rfl rfl rfl rfl (by repeat (first | exact mC | apply mT)) (v := .string (S (Rat.den q))) (by first | rfl | (simp [VC, TC, FC, BC, RC]; done)) (by kernel_rfl) rfl ?_
  simp only [Act.put, List.setIfInBounds_toArray, List.set_cons_zero, List.set_cons_succ]
  refine Seq.pure rfl rfl (by intro w; go_simp; try first | with_reducible rfl | rfl) ?_
  simp only [Act.put, List.setIfInBounds_toArray, List.set_cons_zero, List.set_cons_succ]
  refine Seq.call rfl rfl rfl rfl (by kernel_rfl) (fun w h => (natOf_any (K : Int) w HK.out.2.1 HK.out.2.2).mono fun e w' hh => ⟨by rw [hh.1, Int.toNat_natCast], hh.2⟩) ?_
  simp only [Act.put, List.setIfInBounds_toArray, List.set_cons_zero, List.set_cons_succ]
  refine Seq.call rfl rfl rfl rfl (by kernel_rfl) (fun w h => (mul_S (Rat.den q) K w HM.out.2.2 HM.out.2.1).mono fun e w' hh => ⟨by rw [hh.1, HD.out], hh.2⟩) ?_
  simp only [Act.put, List.setIfInBounds_toArray, List.set_cons_zero, List.set_cons_succ]
  refine Seq.pure rfl rfl (by intro w; go_simp; try first | with_reducible rfl | rfl) ?_
  simp only [Act.put, List.setIfInBounds_toArray, List.set_cons_zero, List.set_cons_succ]
  refine Seq.pure rfl rfl (by intro w; go_simp; try first | with_reducible rfl | rfl) ?_
  simp only [Act.put, List.setIfInBounds_toArray, List.set_cons_zero, List.set_cons_succ]
  refine Seq.done fun ws5 hws => ?_
  have HS5 := hws.st
  clear HS4 hws
  go_upto_region 6 with (fail)
  refine wp_seq_text [] (StR.no HS5) ?_
  refine Seq.pure rfl rfl (by intro w; go_simp; try first | with_reducible rfl | rfl) ?_
  simp only [Act.put, List.setIfInBounds_toArray, List.set_cons_zero, List.set_cons_succ]
  refine Seq.call rfl rfl rfl rfl (by kernel_rfl) (fun w h => (Text_S n w HZ.out.2.2.1).mono fun e w' hh => ⟨by rw [hh.1, HTX.out.1], hh.2⟩) ?_
  simp only [Act.put, List.setIfInBounds_toArray, List.set_cons_zero, List.set_cons_succ]
  refine Seq.pure (v := .string ⟨(u ++ [47]).toArray⟩) rfl rfl (by intro w; go_simp <;> (first | (rw [HAP.out.1]; done) | (rw [HLE.out.1]; done) | exact HAP.out.1 | exact HLE.out.1 | (simp [HAP.out.1, HLE.out.1]; done) | (trace_state; done))) ?_
  simp only [Act.put, List.setIfInBounds_toArray, List.set_cons_zero, List.set_cons_succ]
  refine Seq.pure rfl rfl (by intro w; go_simp; try first | with_reducible rfl | rfl) ?_
  simp only [Act.put, List.setIfInBounds_toArray, List.set_cons_zero, List.set_cons_succ]
  refine Seq.call rfl rfl rfl rfl (by kernel_rfl) (fun w h => (Text_S d w HZ.out.2.2.2).mono fun e w' hh => ⟨by rw [hh.1, HTX.out.2], hh.2⟩) ?_
  simp only [Act.put, List.setIfInBounds_toArray, List.set_cons_zero, List.set_cons_succ]
  refine Seq.pure (v := .string ⟨(u ++ 47 :: v).toArray⟩) rfl rfl (by intro w; go_simp <;> (first | (rw [HAP.out.2.1]; done) | (rw [HLE.out.2.1]; done) | exact HAP.out.2.1 | exact HLE.out.2.1 | (simp [HAP.out.2.1, HLE.out.2.1]; done) | (trace_state; done))) ?_
  simp only [Act.put, List.setIfInBounds_toArray, List.set_cons_zero, List.set_cons_succ]
  refine Seq.pure rfl rfl (by intro w; go_simp; try first | with_reducible rfl | rfl) ?_
  simp only [Act.put, List.setIfInBounds_toArray, List.set_cons_zero, List.set_cons_succ]
  refine Seq.done fun ws6 hws => ?_
  have HS6 := hws.st
  clear HS5 hws
  go_upto_region 7 with (fail)
  refine wp_seq_text [] (StR.no HS6) ?_
  refine Seq.pure (v := .pointer (some ⟨bk5, 0, none⟩)) rfl rfl (by intro w; go_simp; try first | with_reducible rfl | rfl) ?_
  simp only [Act.put, List.setIfInBounds_toArray, List.set_cons_zero, List.set_cons_succ]
  refine Seq.loadCell rfl rfl rfl rfl (by repeat (first | exact mC | apply mT)) (v := .bool false) (by show some (Value.bool (decide (Rat.num q < 0))) = _; rw [HNG.out]) (by kernel_rfl) rfl ?_
  simp only [Act.put, List.setIfInBounds_toArray, List.set_cons_zero, List.set_cons_succ]
  refine Seq.done fun ws7 hws => ?_
  have HS7 := hws.st
  clear HS6 hws
  go_upto_region 9 with (fail)
  refine wp_seq_text [] (StR.no HS7) ?_
  refine Seq.pure rfl rfl (by intro w; go_simp; try first | with_reducible rfl | rfl) ?_
  simp only [Act.put, List.setIfInBounds_toArray, List.set_cons_zero, List.set_cons_succ]
  refine Seq.call rfl rfl rfl rfl (by kernel_rfl) (rread_at (k := 60) (neg := false) (n := n) (d := d) HT.out HS.out HZ.out.1 HZ.out.2.1 HD0.out HQM.out rfl) ?_
  simp only [Act.put, List.setIfInBounds_toArray, List.set_cons_zero, List.set_cons_succ]
  refine Seq.pure rfl rfl (by intro w; go_simp; try first | with_reducible rfl | rfl) ?_
  simp only [Act.put, List.setIfInBounds_toArray, List.set_cons_zero, List.set_cons_succ]
  refine Seq.pure (v := .agg (RC q)) rfl rfl (fun w => rfl) ?_
  simp only [Act.put, List.setIfInBounds_toArray, List.set_cons_zero, List.set_cons_succ]
  refine Seq.pure (v := .int .i64 0) rfl rfl (fun w => rfl) ?_
  simp only [Act.put, List.setIfInBounds_toArray, List.set_cons_zero, List.set_cons_succ]
  refine Seq.alloc rfl rfl rfl (z := .agg #[.bool false, .string ⟨#[]⟩, .string ⟨#[]⟩]) (by kernel_rfl) rfl ?_
  intro bk11 _ _ hbk11_r
  simp only [Act.put, List.setIfInBounds_toArray, List.set_cons_zero, List.set_cons_succ]
  refine Seq.store rfl rfl rfl rfl rfl (by first | exact rS | exact rN (by assumption) (rS) | exact rN (by assumption) (rN (by assumption) (rS)) | exact rN (by assumption) (rN (by assumption) (rN (by assumption) (rS))) | exact rN (by assumption) (rN (by assumption) (rN (by assumption) (rN (by assumption) (rS))))) (n := 3) rfl rfl (by kernel_rfl) (RC_one _) ?_
  simp only [Act.put, List.setIfInBounds_toArray, List.set_cons_zero, List.set_cons_succ]
  refine Seq.pure rfl rfl (by intro w; go_simp; try first | with_reducible rfl | rfl) ?_
  simp only [Act.put, List.setIfInBounds_toArray, List.set_cons_zero, List.set_cons_succ]
  refine Seq.done fun ws8 hws => ?_
  have HS8 : St w [(bk11, 24, RC q), (bk6, 24, RC q), (bk5, 24, RC q)] ws8 := hws.list1 (by first | exact rS | exact rN (by assumption) (rS) | exact rN (by assumption) (rN (by assumption) (rS)) | exact rN (by assumption) (rN (by assumption) (rN (by assumption) (rS))) | exact rN (by assumption) (rN (by assumption) (rN (by assumption) (rN (by assumption) (rS)))))
  clear HS7 hws
  go_upto_region 10 with (fail)
  refine wp_seq_text [] (StR.no HS8) ?_
  refine Seq.pure (v := .pointer (some ⟨bk5, 0, none⟩)) rfl rfl (by intro w; go_simp; try first | with_reducible rfl | rfl) ?_
  simp only [Act.put, List.setIfInBounds_toArray, List.set_cons_zero, List.set_cons_succ]
  refine Seq.loadCell rfl rfl rfl rfl (by repeat (first | exact mC | apply mT)) (v := .bool false) (by show some (Value.bool (decide (Rat.num q < 0))) = _; rw [HNG.out]) (by kernel_rfl) rfl ?_
  simp only [Act.put, List.setIfInBounds_toArray, List.set_cons_zero, List.set_cons_succ]
  refine Seq.pure rfl rfl (by intro w; go_simp; try first | with_reducible rfl | rfl) ?_
  simp only [Act.put, List.setIfInBounds_toArray, List.set_cons_zero, List.set_cons_succ]
  refine Seq.pure rfl rfl (by intro w; go_simp; try first | with_reducible rfl | rfl) ?_
  simp only [Act.put, List.setIfInBounds_toArray, List.set_cons_zero, List.set_cons_succ]
  refine Seq.pure (v := .agg #[.bool false, .string (S n), .string (S d)]) rfl rfl (by intro w; go_simp; try first | with_reducible rfl | rfl) ?_
  simp only [Act.put, List.setIfInBounds_toArray, List.set_cons_zero, List.set_cons_succ]
  refine Seq.alloc rfl rfl rfl (z := .agg #[.bool false, .string ⟨#[]⟩, .string ⟨#[]⟩]) (by kernel_rfl) rfl ?_
  intro bk13 _ _ hbk13_r
  simp only [Act.put, List.setIfInBounds_toArray, List.set_cons_zero, List.set_cons_succ]
  refine Seq.store rfl rfl rfl rfl rfl (by first | exact rS | exact rN (by assumption) (rS) | exact rN (by assumption) (rN (by assumption) (rS)) | exact rN (by assumption) (rN (by assumption) (rN (by assumption) (rS))) | exact rN (by assumption) (rN (by assumption) (rN (by assumption) (rN (by assumption) (rS))))) (n := 3) rfl rfl (by kernel_rfl) (by intro u hu; simp at hu; rcases hu with rfl | rfl | rfl <;> rfl) ?_
  simp only [Act.put, List.setIfInBounds_toArray, List.set_cons_zero, List.set_cons_succ]
  refine Seq.done fun ws9 hws => ?_
  have HS9 : St w [(bk13, 24, #[.bool false, .string (S n), .string (S d)]), (bk11, 24, RC q), (bk6, 24, RC q), (bk5, 24, RC q)] ws9 := hws.list1 (by first | exact rS | exact rN (by assumption) (rS) | exact rN (by assumption) (rN (by assumption) (rS)) | exact rN (by assumption) (rN (by assumption) (rN (by assumption) (rS))) | exact rN (by assumption) (rN (by assumption) (rN (by assumption) (rN (by assumption) (rS)))))
  clear HS8 hws
  go_upto_region 11 with (fail)
  refine wp_seq_text [] (StR.no HS9) ?_
  refine Seq.pure rfl rfl (by intro w; go_simp; try first | with_reducible rfl | rfl) ?_
  simp only [Act.put, List.setIfInBounds_toArray, List.set_cons_zero, List.set_cons_succ]
  refine Seq.pure rfl rfl (by intro w; go_simp; try first | with_reducible rfl | rfl) ?_
  simp only [Act.put, List.setIfInBounds_toArray, List.set_cons_zero, List.set_cons_succ]
  refine Seq.pure rfl rfl (by intro w; go_simp; try first | with_reducible rfl | rfl) ?_
  simp only [Act.put, List.setIfInBounds_toArray, List.set_cons_zero, List.set_cons_succ]
  refine Seq.load rfl rfl rfl rfl (by repeat (first | exact mC | apply mT)) (n := 3) rfl (by kernel_rfl) ?_
  simp only [Act.put, List.setIfInBounds_toArray, List.set_cons_zero, List.set_cons_succ]
  refine Seq.load rfl rfl rfl rfl (by repeat (first | exact mC | apply mT)) (n := 3) rfl (by kernel_rfl) ?_
  simp only [Act.put, List.setIfInBounds_toArray, List.set_cons_zero, List.set_cons_succ]
  refine Seq.eqR rfl rfl rfl rfl rfl (b := true) (decide_eq_true rfl) ?_
  simp only [Act.put, List.setIfInBounds_toArray, List.set_cons_zero, List.set_cons_succ]
  refine Seq.pure rfl rfl (by intro w; go_simp; try first | with_reducible rfl | rfl) ?_
  simp only [Act.put, List.setIfInBounds_toArray, List.set_cons_zero, List.set_cons_succ]
  refine Seq.pure rfl rfl (by intro w; go_simp; try first | with_reducible rfl | rfl) ?_
  simp only [Act.put, List.setIfInBounds_toArray, List.set_cons_zero, List.set_cons_succ]
  refine Seq.pure rfl rfl (by intro w; go_simp; try first | with_reducible rfl | rfl) ?_
  simp only [Act.put, List.setIfInBounds_toArray, List.set_cons_zero, List.set_cons_succ]
  refine Seq.pure rfl rfl (by intro w; go_simp; try first | with_reducible rfl | rfl) ?_
  simp only [Act.put, List.setIfInBounds_toArray, List.set_cons_zero, List.set_cons_succ]
  refine Seq.pure rfl rfl (by intro w; go_simp; try first | with_reducible rfl | rfl) ?_
  simp only [Act.put, List.setIfInBounds_toArray, List.set_cons_zero, List.set_cons_succ]
  refine Seq.pure rfl rfl (by intro w; go_simp; try first | with_reducible rfl | rfl) ?_
  simp only [Act.put, List.setIfInBounds_toArray, List.set_cons_zero, List.set_cons_succ]
  refine Seq.load rfl rfl rfl rfl (by repeat (first | exact mC | apply mT)) (n := 3) rfl (by kernel_rfl) ?_
  simp only [Act.put, List.setIfInBounds_toArray, List.set_cons_zero, List.set_cons_succ]
  refine Seq.load rfl rfl rfl rfl (by repeat (first | exact mC | apply mT)) (n := 3) rfl (by kernel_rfl) ?_
  simp only [Act.put, List.setIfInBounds_toArray, List.set_cons_zero, List.set_cons_succ]
  refine Seq.eqR rfl rfl rfl rfl rfl (b := true) (decide_eq_true rfl) ?_
  simp only [Act.put, List.setIfInBounds_toArray, List.set_cons_zero, List.set_cons_succ]
  refine Seq.pure rfl rfl (by intro w; go_simp; try first | with_reducible rfl | rfl) ?_
  simp only [Act.put, List.setIfInBounds_toArray, List.set_cons_zero, List.set_cons_succ]
  refine Seq.pure rfl rfl (by intro w; go_simp; try first | with_reducible rfl | rfl) ?_
  simp only [Act.put, List.setIfInBounds_toArray, List.set_cons_zero, List.set_cons_succ]
  refine Seq.load rfl rfl rfl rfl (by repeat (first | exact mC | apply mT)) (n := 3) rfl (by kernel_rfl) ?_
  simp only [Act.put, List.setIfInBounds_toArray, List.set_cons_zero, List.set_cons_succ]
  refine Seq.call rfl rfl rfl rfl (by kernel_rfl) (fun w h => HGB.out w (tabS HT.out h)) ?_
  simp only [Act.put, List.setIfInBounds_toArray, List.set_cons_zero, List.set_cons_succ]
  refine Seq.pure rfl rfl (by intro w; go_simp; try first | with_reducible rfl | rfl) ?_
  simp only [Act.put, List.setIfInBounds_toArray, List.set_cons_zero, List.set_cons_succ]
  refine Seq.pure rfl rfl (by intro w; go_simp; try first | with_reducible rfl | rfl) ?_
  simp only [Act.put, List.setIfInBounds_toArray, List.set_cons_zero, List.set_cons_succ]
  refine Seq.pure rfl rfl (by intro w; go_simp; try first | with_reducible rfl | rfl) ?_
  simp only [Act.put, List.setIfInBounds_toArray, List.set_cons_zero, List.set_cons_succ]
  refine Seq.load rfl rfl rfl rfl (by repeat (first | exact mC | apply mT)) (n := 3) rfl (by kernel_rfl) ?_
  simp only [Act.put, List.setIfInBounds_toArray, List.set_cons_zero, List.set_cons_succ]
  refine Seq.call rfl rfl rfl rfl (by kernel_rfl) (signbad_q HT.out HGB.out) ?_
  simp only [Act.put, List.setIfInBounds_toArray, List.set_cons_zero, List.set_cons_succ]
  refine Seq.pure rfl rfl (by intro w; go_simp; try first | with_reducible rfl | rfl) ?_
  simp only [Act.put, List.setIfInBounds_toArray, List.set_cons_zero, List.set_cons_succ]
  refine Seq.pure rfl rfl (by intro w; go_simp; try first | with_reducible rfl | rfl) ?_
  simp only [Act.put, List.setIfInBounds_toArray, List.set_cons_zero, List.set_cons_succ]
  refine Seq.pure rfl rfl (by intro w; go_simp; try first | with_reducible rfl | rfl) ?_
  simp only [Act.put, List.setIfInBounds_toArray, List.set_cons_zero, List.set_cons_succ]
  refine Seq.done fun ws10 hws => ?_
  have HS10 := hws.st
  clear HS9 hws
  go_wp2_with fail
  go_ret
  exact ⟨rfl, HS10.below⟩
theorem txt_T (n : Nat) : T n = ⟨(txt n).toArray⟩ := rfl
theorem ratWritten_int (x y : Int) (w : World) (hx0 : -9223372036854775808 ≤ x) (hx1 : x ≤ 9223372036854775807) (hy0 : -9223372036854775808 ≤ y) (hy1 : y ≤ 9223372036854775807) (hT : Tab w) :
    Calls Tryd.prog 3 #[.int .i64 x, .int .i64 y] w fun e w' => e = .returned (.bool true) ∧ Below w.heap.size w w' := by
  obtain ⟨q, hq⟩ : ∃ q, ratMq x = q := ⟨_, rfl⟩
  have hz : Rz 1 q := by rw [← hq]; exact (ratMq_small x).rz
  obtain ⟨K, hK⟩ : ∃ K, 2 + belowN y 50 = K := ⟨_, rfl⟩
  have hbl := belowN_lt y (show 0 < 50 by omega)
  have hK1 : Sz 1 K := by unfold Sz; rw [bstr_length_le]; omega
  have hn : Sz 2 ((Rat.num q).natAbs * K) := Sz.mul hz.1 hK1
  have hd : Sz 2 (Rat.den q * K) := Sz.mul hz.2 hK1
  have hden := q.den_nz
  have hd0 : Rat.den q * K ≠ 0 := Nat.mul_ne_zero hden (by omega)
  have hd1 : Rat.den q * K ≠ 1 := by
    intro h
    have h1 := Nat.eq_one_of_mul_eq_one_left h
    omega
  have hgcd : (Rat.num q).natAbs ≠ 0 → Nat.gcd ((Rat.num q).natAbs * K) (Rat.den q * K) ≠ 1 := by
    intro _ h
    rw [Nat.gcd_mul_right] at h
    have h1 := Nat.eq_one_of_mul_eq_one_left h
    omega
  have hm : ∀ neg, decide (Rat.num q < 0) = neg → mkRat (sg neg ((Rat.num q).natAbs * K)) (Rat.den q * K) = q := by
    intro neg hneg
    have e : sg neg ((Rat.num q).natAbs * K) = Rat.num q * K := by
      have h1 := sg_num q
      rw [hneg] at h1
      rw [← h1]
      unfold sg
      cases neg <;> simp [Int.neg_mul]
    rw [e, Rat.mkRat_mul_right (by omega)]
    exact Rat.mkRat_self q
  have hng0 : (Rat.num q).natAbs = 0 → decide (Rat.num q < 0) = false := fun h => (R_sign q h).1
  have hl1 := txt_size (n := (Rat.num q).natAbs * K) (Nat.le_trans hn (by omega))
  have hl2 := txt_size (n := Rat.den q * K) (Nat.le_trans hd (by omega))
  have hgb : ∀ neg, decide (Rat.num q < 0) = neg → ∀ w, Tab w → Calls Tryd.prog 13 #[.agg #[.bool neg, .string (S ((Rat.num q).natAbs * K)), .string (S (Rat.den q * K))]] w fun e w' => e = .returned (.bool false) ∧ Below w.heap.size w w' := by
    intro neg hneg w hT
    by_cases h0 : (Rat.num q).natAbs = 0
    · rw [h0, Nat.zero_mul]
      rw [hng0 h0] at hneg
      subst hneg
      exact good_zero _ w hd0 hd1
    · exact good_no neg _ _ 2 w hd0 (Nat.mul_ne_zero h0 (by omega)) (hgcd h0) hn hd (by omega) hT
  have hwr : IntKind.i64.wrap (2 + ((belowN y 50 : Nat) : Int)) = (K : Int) ∧ -9223372036854775808 ≤ (K : Int) ∧ (K : Int) ≤ 9223372036854775807 := ⟨by rw [i64_s _ (by omega) (by omega)]; omega, by omega, by omega⟩
  obtain ⟨u, hu⟩ : ∃ u, txt ((Rat.num q).natAbs * K) = u := ⟨_, rfl⟩
  obtain ⟨v, hv⟩ : ∃ v, txt (Rat.den q * K) = v := ⟨_, rfl⟩
  have hle : ¬ 9223372036854775807 < u.length + 1 ∧ ¬ 9223372036854775807 < u.length + 1 + v.length ∧ ¬ 9223372036854775807 < 1 + (u.length + (v.length + 1)) := by rw [← hu, ← hv]; omega
  have hap : (⟨u.toArray⟩ : ByteArray) ++ ⟨#[47]⟩ = ⟨(u ++ [47]).toArray⟩ ∧ (⟨(u ++ [47]).toArray⟩ : ByteArray) ++ ⟨v.toArray⟩ = ⟨(u ++ 47 :: v).toArray⟩ ∧ (⟨#[45]⟩ : ByteArray) ++ ⟨(u ++ 47 :: v).toArray⟩ = ⟨(45 :: (u ++ 47 :: v)).toArray⟩ := ⟨app_ba u [47], (app_ba _ _).trans (by simp), app_ba [45] _⟩
  have htx : T ((Rat.num q).natAbs * K) = ⟨u.toArray⟩ ∧ T (Rat.den q * K) = ⟨v.toArray⟩ := ⟨by rw [txt_T, hu], by rw [txt_T, hv]⟩
  have hsz : Sz 60 ((Rat.num q).natAbs * K) ∧ Sz 60 (Rat.den q * K) ∧ (bstr ((Rat.num q).natAbs * K)).length ≤ 35184372088832 ∧ (bstr (Rat.den q * K)).length ≤ 35184372088832 := ⟨hn.more (by omega), hd.more (by omega), Nat.le_trans hn (by omega), Nat.le_trans hd (by omega)⟩
  have hmm : (bstr (Rat.num q).natAbs).length ≤ 35184372088832 ∧ (bstr K).length ≤ 35184372088832 ∧ (bstr (Rat.den q)).length ≤ 35184372088832 := ⟨Nat.le_trans hz.1 (by omega), Nat.le_trans hK1 (by omega), Nat.le_trans hz.2 (by omega)⟩
  cases hneg : decide (Rat.num q < 0) with
  | true => exact ratWritten_true x y w (Lib.hid ⟨hx0, hx1⟩) (Lib.hid ⟨hy0, hy1⟩) (Lib.hid hT) (Lib.hid hq) (Lib.hid hz) (Lib.hid hneg) (Lib.hid hwr) (Lib.hid hmm) (Lib.hid rfl) (Lib.hid rfl) (Lib.hid hsz) (Lib.hid hd0) (Lib.hid (hm _ hneg)) (Lib.hid htx) (Lib.hid hap) (Lib.hid hle) (Lib.hid (by rw [hu, hv]; rfl)) (Lib.hid (hgb _ hneg))
  | false => exact ratWritten_false x y w (Lib.hid ⟨hx0, hx1⟩) (Lib.hid ⟨hy0, hy1⟩) (Lib.hid hT) (Lib.hid hq) (Lib.hid hz) (Lib.hid hneg) (Lib.hid hwr) (Lib.hid hmm) (Lib.hid rfl) (Lib.hid rfl) (Lib.hid hsz) (Lib.hid hd0) (Lib.hid (hm _ hneg)) (Lib.hid htx) (Lib.hid hap) (Lib.hid hle) (Lib.hid (by rw [hu, hv]; rfl)) (Lib.hid (hgb _ hneg))
end Go.Proofs.YtiejgkmjaphbcaaDoor
