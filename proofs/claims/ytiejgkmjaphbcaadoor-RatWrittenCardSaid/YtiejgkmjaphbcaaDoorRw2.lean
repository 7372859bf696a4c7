/- Joined texts. -/
import Derived.Test.YtiejgkmjaphbcaaDoorRw1
import Derived.OwnWalk

/- rat.Text (printed by lawvec.py). -/
namespace Go.Proofs.YtiejgkmjaphbcaaDoor
open Go.RowKit
set_option linter.unusedVariables false
set_option linter.unusedSimpArgs false

def rtx (q : Rat) : List UInt8 := pre (decide (Rat.num q < 0)) ++ (txt (Rat.num q).natAbs ++ if Rat.den q = 1 then [] else 47 :: txt (Rat.den q))
theorem app_ba (a b : List UInt8) : (⟨a.toArray⟩ : ByteArray) ++ ⟨b.toArray⟩ = ⟨(a ++ b).toArray⟩ := by
  rw [ByteArray.ext_iff]; simp
set_option maxHeartbeats 2000000 in
set_option maxRecDepth 20000 in
theorem text_11 {q : Rat} {W : World} {l : List Own} (hT : Tab W) (hz : Rz 60 q) (hng : decide (Rat.num q < 0) = true) (hd : Rat.den q = 1) (w : World) (h : St W l w) :
    Calls Tryd.prog 9 #[.agg (RC q)] w fun e w' => e = .returned (.string ⟨(rtx q).toArray⟩) ∧ Below w.heap.size w w' := by
  have HT := Lib.hid (tabS hT h); clear hT h
  obtain ⟨u, hu⟩ : ∃ u, txt (Rat.num q).natAbs = u := ⟨_, rfl⟩
  obtain ⟨v, hv⟩ : ∃ v, txt (Rat.den q) = v := ⟨_, rfl⟩
  have HRT := Lib.hid (show rtx q = 45 :: u by unfold rtx; rw [hng, hu, hv]; rw [if_pos hd]; simp [pre])
  have HTX := Lib.hid (show T (Rat.num q).natAbs = ⟨u.toArray⟩ ∧ T (Rat.den q) = ⟨v.toArray⟩ from ⟨by rw [← hu]; rfl, by rw [← hv]; rfl⟩)
  have HAP := Lib.hid (show (⟨#[45]⟩ : ByteArray) ++ ⟨u.toArray⟩ = ⟨(45 :: u).toArray⟩ ∧ (⟨#[47]⟩ : ByteArray) ++ ⟨v.toArray⟩ = ⟨(47 :: v).toArray⟩ ∧ (⟨(45 :: u).toArray⟩ : ByteArray) ++ ⟨(47 :: v).toArray⟩ = ⟨(45 :: (u ++ 47 :: v)).toArray⟩ from ⟨app_ba [45] u, app_ba [47] v, app_ba _ _⟩)
  have hl1 := txt_size hz.1
  have hl2 := txt_size hz.2
  rw [hu] at hl1
  rw [hv] at hl2
  have HLE := Lib.hid (show ¬ 9223372036854775807 < 1 + u.length ∧ ¬ 9223372036854775807 < 1 + v.length ∧ ¬ 9223372036854775807 < u.length + 1 + (v.length + 1) ∧ ¬ 9223372036854775807 < u.length + (v.length + 1) from ⟨by omega, by omega, by omega, by omega⟩)
  have HDN := Lib.hid (show (S (Rat.den q)).toList = [1] by rw [hd, Lib.toList_data]; rfl)
  have HNG := Lib.hid hng
  have Z_q := Lib.hid hz
  clear hu hv hng hd hz hl1 hl2
  go_enter Tryd.func9, Tryd.ntmps9
  have HS : St w [] w := St.start
  go_upto_region 0 with (fail)
  refine wp_seq_text [] (StR.no HS) ?_
  refine Seq.box rfl rfl rfl (v := .agg (RC q)) (cs := RC q) rfl rfl ?_
  intro bk1 _ _ hbk1_r
  simp only [Act.put, List.setIfInBounds_toArray, List.set_cons_zero, List.set_cons_succ]
  refine Seq.pure rfl rfl (by intro w; go_simp; try first | with_reducible rfl | rfl) ?_
  simp only [Act.put, List.setIfInBounds_toArray, List.set_cons_zero, List.set_cons_succ]
  refine Seq.done fun ws1 hws => ?_
  have HS1 : St w [(bk1, 24, RC q)] ws1 := hws.list1 (by first | exact rS | exact rN (by assumption) (rS) | exact rN (by assumption) (rN (by assumption) (rS)) | exact rN (by assumption) (rN (by assumption) (rN (by assumption) (rS))) | exact rN (by assumption) (rN (by assumption) (rN (by assumption) (rN (by assumption) (rS)))))
  clear HS hws
  go_upto_region 1 with (fail)
  refine wp_seq_text [0] (StR.move (StR.no HS1)) ?_
  refine Seq.get rfl rfl rfl rfl (by first | exact rS | exact rN (by assumption) (rS) | exact rN (by assumption) (rN (by assumption) (rS)) | exact rN (by assumption) (rN (by assumption) (rN (by assumption) (rS))) | exact rN (by assumption) (rN (by assumption) (rN (by assumption) (rN (by assumption) (rS))))) (n := 3) rfl (by kernel_rfl) ?_
  simp only [Act.put, List.setIfInBounds_toArray, List.set_cons_zero, List.set_cons_succ]
  refine Seq.call rfl rfl rfl rfl (by kernel_rfl) (fit_q (k := 60) HT.out Z_q.out (by omega)) ?_
  simp only [Act.put, List.setIfInBounds_toArray, List.set_cons_zero, List.set_cons_succ]
  refine Seq.store rfl rfl rfl rfl rfl (by first | exact rS | exact rN (by assumption) (rS) | exact rN (by assumption) (rN (by assumption) (rS)) | exact rN (by assumption) (rN (by assumption) (rN (by assumption) (rS))) | exact rN (by assumption) (rN (by assumption) (rN (by assumption) (rN (by assumption) (rS))))) (n := 3) rfl rfl (by kernel_rfl) (RC_one _) ?_
  simp only [Act.put, List.setIfInBounds_toArray, List.set_cons_zero, List.set_cons_succ]
  refine Seq.done fun ws2 hws => ?_
  have HS2 : St w [(bk1, 24, RC q)] ws2 := hws.list1 (by first | exact rS | exact rN (by assumption) (rS) | exact rN (by assumption) (rN (by assumption) (rS)) | exact rN (by assumption) (rN (by assumption) (rN (by assumption) (rS))) | exact rN (by assumption) (rN (by assumption) (rN (by assumption) (rN (by assumption) (rS)))))
  clear HS1 hws
  go_upto_region 2 with (fail)
  refine wp_seq_text [] (StR.no HS2) ?_
  refine Seq.pure (v := .pointer (some ⟨bk1, 1, none⟩)) rfl rfl (by intro w; go_simp; try first | with_reducible rfl | rfl) ?_
  simp only [Act.put, List.setIfInBounds_toArray, List.set_cons_zero, List.set_cons_succ]
  refine Seq.loadCell rfl rfl rfl rfl (by repeat (first | exact mC | apply mT)) (v := .string (S (Rat.num q).natAbs)) (by first | rfl | (simp [VC, TC, FC, BC, RC]; done)) (by kernel_rfl) rfl ?_
  simp only [Act.put, List.setIfInBounds_toArray, List.set_cons_zero, List.set_cons_succ]
  refine Seq.call rfl rfl rfl rfl (by kernel_rfl) (fun w h => (Text_S (Rat.num q).natAbs w (Nat.le_trans Z_q.out.1 (by omega))).mono fun e w' hh => ⟨by rw [hh.1, HTX.out.1], hh.2⟩) ?_
  simp only [Act.put, List.setIfInBounds_toArray, List.set_cons_zero, List.set_cons_succ]
  refine Seq.pure rfl rfl (by intro w; go_simp; try first | with_reducible rfl | rfl) ?_
  simp only [Act.put, List.setIfInBounds_toArray, List.set_cons_zero, List.set_cons_succ]
  refine Seq.done fun ws3 hws => ?_
  have HS3 := hws.st
  clear HS2 hws
  go_upto_region 3 with (fail)
  refine wp_seq_text [] (StR.no HS3) ?_
  refine Seq.pure (v := .pointer (some ⟨bk1, 0, none⟩)) rfl rfl (by intro w; go_simp; try first | with_reducible rfl | rfl) ?_
  simp only [Act.put, List.setIfInBounds_toArray, List.set_cons_zero, List.set_cons_succ]
  refine Seq.loadCell rfl rfl rfl rfl (by repeat (first | exact mC | apply mT)) (v := .bool true) (by show some (Value.bool (decide (Rat.num q < 0))) = _; rw [HNG.out]) (by kernel_rfl) rfl ?_
  simp only [Act.put, List.setIfInBounds_toArray, List.set_cons_zero, List.set_cons_succ]
  refine Seq.done fun ws4 hws => ?_
  have HS4 := hws.st
  clear HS3 hws
  go_upto_region 4 with (fail)
  refine wp_seq_text [] (StR.no HS4) ?_
  refine Seq.pure rfl rfl (by intro w; go_simp; try first | with_reducible rfl | rfl) ?_
  simp only [Act.put, List.setIfInBounds_toArray, List.set_cons_zero, List.set_cons_succ]
  refine Seq.pure (v := .string ⟨(45 :: u).toArray⟩) rfl rfl (by intro w; go_simp <;> (first | (rw [HAP.out.1]; done) | (rw [HLE.out.1]; done) | exact HAP.out.1 | exact HLE.out.1 | (simp [HAP.out.1, HLE.out.1]; done) | (trace_state; done))) ?_
  simp only [Act.put, List.setIfInBounds_toArray, List.set_cons_zero, List.set_cons_succ]
  refine Seq.pure rfl rfl (by intro w; go_simp; try first | with_reducible rfl | rfl) ?_
  simp only [Act.put, List.setIfInBounds_toArray, List.set_cons_zero, List.set_cons_succ]
  refine Seq.done fun ws5 hws => ?_
  have HS5 := hws.st
  clear HS4 hws
  go_upto_region 5 with (fail)
  refine wp_seq_text [] (StR.no HS5) ?_
  refine Seq.pure (v := .pointer (some ⟨bk1, 2, none⟩)) rfl rfl (by intro w; go_simp; try first | with_reducible rfl | rfl) ?_
  simp only [Act.put, List.setIfInBounds_toArray, List.set_cons_zero, List.set_cons_succ]
  refine Seq.loadCell rfl rfl rfl rfl (by repeat (first | exact mC | apply mT)) (v := .string (S (Rat.den q))) (by first | rfl | (simp [VC, TC, FC, BC, RC]; done)) (by kernel_rfl) rfl ?_
  simp only [Act.put, List.setIfInBounds_toArray, List.set_cons_zero, List.set_cons_succ]
  refine Seq.pure (v := .bool false) rfl rfl (by intro w; go_simp <;> (first | (rw [HDN.out]; done) | exact HDN.out | (simp [HDN.out]; done) | (trace_state; done))) ?_
  simp only [Act.put, List.setIfInBounds_toArray, List.set_cons_zero, List.set_cons_succ]
  refine Seq.done fun ws6 hws => ?_
  have HS6 := hws.st
  clear HS5 hws
  go_upto_region 7 with (fail)
  refine wp_seq_text [] (StR.no HS6) ?_
  refine Seq.pure rfl rfl (by intro w; go_simp; try first | with_reducible rfl | rfl) ?_
  simp only [Act.put, List.setIfInBounds_toArray, List.set_cons_zero, List.set_cons_succ]
  refine Seq.pure rfl rfl (by intro w; go_simp; try first | with_reducible rfl | rfl) ?_
  simp only [Act.put, List.setIfInBounds_toArray, List.set_cons_zero, List.set_cons_succ]
  refine Seq.done fun ws7 hws => ?_
  have HS7 := hws.st
  clear HS6 hws
  go_wp2_with fail
  go_ret
  exact ⟨by rw [HRT.out]; rfl, HS7.below⟩
set_option maxHeartbeats 2000000 in
set_option maxRecDepth 20000 in
theorem text_10 {q : Rat} {W : World} {l : List Own} (hT : Tab W) (hz : Rz 60 q) (hng : decide (Rat.num q < 0) = true) (hd : ¬ Rat.den q = 1) (w : World) (h : St W l w) :
    Calls Tryd.prog 9 #[.agg (RC q)] w fun e w' => e = .returned (.string ⟨(rtx q).toArray⟩) ∧ Below w.heap.size w w' := by
  have HT := Lib.hid (tabS hT h); clear hT h
  obtain ⟨u, hu⟩ : ∃ u, txt (Rat.num q).natAbs = u := ⟨_, rfl⟩
  obtain ⟨v, hv⟩ : ∃ v, txt (Rat.den q) = v := ⟨_, rfl⟩
  have HRT := Lib.hid (show rtx q = 45 :: (u ++ 47 :: v) by unfold rtx; rw [hng, hu, hv]; rw [if_neg hd]; simp [pre])
  have HTX := Lib.hid (show T (Rat.num q).natAbs = ⟨u.toArray⟩ ∧ T (Rat.den q) = ⟨v.toArray⟩ from ⟨by rw [← hu]; rfl, by rw [← hv]; rfl⟩)
  have HAP := Lib.hid (show (⟨#[45]⟩ : ByteArray) ++ ⟨u.toArray⟩ = ⟨(45 :: u).toArray⟩ ∧ (⟨#[47]⟩ : ByteArray) ++ ⟨v.toArray⟩ = ⟨(47 :: v).toArray⟩ ∧ (⟨(45 :: u).toArray⟩ : ByteArray) ++ ⟨(47 :: v).toArray⟩ = ⟨(45 :: (u ++ 47 :: v)).toArray⟩ from ⟨app_ba [45] u, app_ba [47] v, app_ba _ _⟩)
  have hl1 := txt_size hz.1
  have hl2 := txt_size hz.2
  rw [hu] at hl1
  rw [hv] at hl2
  have HLE := Lib.hid (show ¬ 9223372036854775807 < 1 + u.length ∧ ¬ 9223372036854775807 < 1 + v.length ∧ ¬ 9223372036854775807 < u.length + 1 + (v.length + 1) ∧ ¬ 9223372036854775807 < u.length + (v.length + 1) from ⟨by omega, by omega, by omega, by omega⟩)
  have HDN := Lib.hid (show ¬ (S (Rat.den q)).toList = [1] by intro c; have := S_beq_one hd; rw [c] at this; cases this)
  have HNG := Lib.hid hng
  have Z_q := Lib.hid hz
  clear hu hv hng hd hz hl1 hl2
  go_enter Tryd.func9, Tryd.ntmps9
  have HS : St w [] w := St.start
  go_upto_region 0 with (fail)
  refine wp_seq_text [] (StR.no HS) ?_
  refine Seq.box rfl rfl rfl (v := .agg (RC q)) (cs := RC q) rfl rfl ?_
  intro bk1 _ _ hbk1_r
  simp only [Act.put, List.setIfInBounds_toArray, List.set_cons_zero, List.set_cons_succ]
  refine Seq.pure rfl rfl (by intro w; go_simp; try first | with_reducible rfl | rfl) ?_
  simp only [Act.put, List.setIfInBounds_toArray, List.set_cons_zero, List.set_cons_succ]
  refine Seq.done fun ws1 hws => ?_
  have HS1 : St w [(bk1, 24, RC q)] ws1 := hws.list1 (by first | exact rS | exact rN (by assumption) (rS) | exact rN (by assumption) (rN (by assumption) (rS)) | exact rN (by assumption) (rN (by assumption) (rN (by assumption) (rS))) | exact rN (by assumption) (rN (by assumption) (rN (by assumption) (rN (by assumption) (rS)))))
  clear HS hws
  go_upto_region 1 with (fail)
  refine wp_seq_text [0] (StR.move (StR.no HS1)) ?_
  refine Seq.get rfl rfl rfl rfl (by first | exact rS | exact rN (by assumption) (rS) | exact rN (by assumption) (rN (by assumption) (rS)) | exact rN (by assumption) (rN (by assumption) (rN (by assumption) (rS))) | exact rN (by assumption) (rN (by assumption) (rN (by assumption) (rN (by assumption) (rS))))) (n := 3) rfl (by kernel_rfl) ?_
  simp only [Act.put, List.setIfInBounds_toArray, List.set_cons_zero, List.set_cons_succ]
  refine Seq.call rfl rfl rfl rfl (by kernel_rfl) (fit_q (k := 60) HT.out Z_q.out (by omega)) ?_
  simp only [Act.put, List.setIfInBounds_toArray, List.set_cons_zero, List.set_cons_succ]
  refine Seq.store rfl rfl rfl rfl rfl (by first | exact rS | exact rN (by assumption) (rS) | exact rN (by assumption) (rN (by assumption) (rS)) | exact rN (by assumption) (rN (by assumption) (rN (by assumption) (rS))) | exact rN (by assumption) (rN (by assumption) (rN (by assumption) (rN (by assumption) (rS))))) (n := 3) rfl rfl (by kernel_rfl) (RC_one _) ?_
  simp only [Act.put, List.setIfInBounds_toArray, List.set_cons_zero, List.set_cons_succ]
  refine Seq.done fun ws2 hws => ?_
  have HS2 : St w [(bk1, 24, RC q)] ws2 := hws.list1 (by first | exact rS | exact rN (by assumption) (rS) | exact rN (by assumption) (rN (by assumption) (rS)) | exact rN (by assumption) (rN (by assumption) (rN (by assumption) (rS))) | exact rN (by assumption) (rN (by assumption) (rN (by assumption) (rN (by assumption) (rS)))))
  clear HS1 hws
  go_upto_region 2 with (fail)
  refine wp_seq_text [] (StR.no HS2) ?_
  refine Seq.pure (v := .pointer (some ⟨bk1, 1, none⟩)) rfl rfl (by intro w; go_simp; try first | with_reducible rfl | rfl) ?_
  simp only [Act.put, List.setIfInBounds_toArray, List.set_cons_zero, List.set_cons_succ]
  refine Seq.loadCell rfl rfl rfl rfl (by repeat (first | exact mC | apply mT)) (v := .string (S (Rat.num q).natAbs)) (by first | rfl | (simp [VC, TC, FC, BC, RC]; done)) (by kernel_rfl) rfl ?_
  simp only [Act.put, List.setIfInBounds_toArray, List.set_cons_zero, List.set_cons_succ]
  refine Seq.call rfl rfl rfl rfl (by kernel_rfl) (fun w h => (Text_S (Rat.num q).natAbs w (Nat.le_trans Z_q.out.1 (by omega))).mono fun e w' hh => ⟨by rw [hh.1, HTX.out.1], hh.2⟩) ?_
  simp only [Act.put, List.setIfInBounds_toArray, List.set_cons_zero, List.set_cons_succ]
  refine Seq.pure rfl rfl (by intro w; go_simp; try first | with_reducible rfl | rfl) ?_
  simp only [Act.put, List.setIfInBounds_toArray, List.set_cons_zero, List.set_cons_succ]
  refine Seq.done fun ws3 hws => ?_
  have HS3 := hws.st
  clear HS2 hws
  go_upto_region 3 with (fail)
  refine wp_seq_text [] (StR.no HS3) ?_
  refine Seq.pure (v := .pointer (some ⟨bk1, 0, none⟩)) rfl rfl (by intro w; go_simp; try first | with_reducible rfl | rfl) ?_
  simp only [Act.put, List.setIfInBounds_toArray, List.set_cons_zero, List.set_cons_succ]
  refine Seq.loadCell rfl rfl rfl rfl (by repeat (first | exact mC | apply mT)) (v := .bool true) (by show some (Value.bool (decide (Rat.num q < 0))) = _; rw [HNG.out]) (by kernel_rfl) rfl ?_
  simp only [Act.put, List.setIfInBounds_toArray, List.set_cons_zero, List.set_cons_succ]
  refine Seq.done fun ws4 hws => ?_
  have HS4 := hws.st
  clear HS3 hws
  go_upto_region 4 with (fail)
  refine wp_seq_text [] (StR.no HS4) ?_
  refine Seq.pure rfl rfl (by intro w; go_simp; try first | with_reducible rfl | rfl) ?_
  simp only [Act.put, List.setIfInBounds_toArray, List.set_cons_zero, List.set_cons_succ]
  refine Seq.pure (v := .string ⟨(45 :: u).toArray⟩) rfl rfl (by intro w; go_simp <;> (first | (rw [HAP.out.1]; done) | (rw [HLE.out.1]; done) | exact HAP.out.1 | exact HLE.out.1 | (simp [HAP.out.1, HLE.out.1]; done) | (trace_state; done))) ?_
  simp only [Act.put, List.setIfInBounds_toArray, List.set_cons_zero, List.set_cons_succ]
  refine Seq.pure rfl rfl (by intro w; go_simp; try first | with_reducible rfl | rfl) ?_
  simp only [Act.put, List.setIfInBounds_toArray, List.set_cons_zero, List.set_cons_succ]
  refine Seq.done fun ws5 hws => ?_
  have HS5 := hws.st
  clear HS4 hws
  go_upto_region 5 with (fail)
  refine wp_seq_text [] (StR.no HS5) ?_
  refine Seq.pure (v := .pointer (some ⟨bk1, 2, none⟩)) rfl rfl (by intro w; go_simp; try first | with_reducible rfl | rfl) ?_
  simp only [Act.put, List.setIfInBounds_toArray, List.set_cons_zero, List.set_cons_succ]
  refine Seq.loadCell rfl rfl rfl rfl (by repeat (first | exact mC | apply mT)) (v := .string (S (Rat.den q))) (by first | rfl | (simp [VC, TC, FC, BC, RC]; done)) (by kernel_rfl) rfl ?_
  simp only [Act.put, List.setIfInBounds_toArray, List.set_cons_zero, List.set_cons_succ]
  refine Seq.pure (v := .bool true) rfl rfl (by intro w; go_simp <;> (first | (rw [HDN.out]; done) | exact HDN.out | (simp [HDN.out]; done) | (trace_state; done))) ?_
  simp only [Act.put, List.setIfInBounds_toArray, List.set_cons_zero, List.set_cons_succ]
  refine Seq.done fun ws6 hws => ?_
  have HS6 := hws.st
  clear HS5 hws
  go_upto_region 6 with (fail)
  refine wp_seq_text [] (StR.no HS6) ?_
  refine Seq.pure rfl rfl (by intro w; go_simp; try first | with_reducible rfl | rfl) ?_
  simp only [Act.put, List.setIfInBounds_toArray, List.set_cons_zero, List.set_cons_succ]
  refine Seq.pure (v := .pointer (some ⟨bk1, 2, none⟩)) rfl rfl (by intro w; go_simp; try first | with_reducible rfl | rfl) ?_
  simp only [Act.put, List.setIfInBounds_toArray, List.set_cons_zero, List.set_cons_succ]
  refine Seq.loadCell rfl rfl rfl rfl (by repeat (first | exact mC | apply mT)) (v := .string (S (Rat.den q))) (by first | rfl | (simp [VC, TC, FC, BC, RC]; done)) (by kernel_rfl) rfl ?_
  simp only [Act.put, List.setIfInBounds_toArray, List.set_cons_zero, List.set_cons_succ]
  refine Seq.call rfl rfl rfl rfl (by kernel_rfl) (fun w h => (Text_S (Rat.den q) w (Nat.le_trans Z_q.out.2 (by omega))).mono fun e w' hh => ⟨by rw [hh.1, HTX.out.2], hh.2⟩) ?_
  simp only [Act.put, List.setIfInBounds_toArray, List.set_cons_zero, List.set_cons_succ]
  refine Seq.pure (v := .string ⟨(47 :: v).toArray⟩) rfl rfl (by intro w; go_simp <;> (first | (rw [HAP.out.2.1]; done) | (rw [HLE.out.2.1]; done) | exact HAP.out.2.1 | exact HLE.out.2.1 | (simp [HAP.out.2.1, HLE.out.2.1]; done) | (trace_state; done))) ?_
  simp only [Act.put, List.setIfInBounds_toArray, List.set_cons_zero, List.set_cons_succ]
  refine Seq.pure (v := .string ⟨(45 :: (u ++ 47 :: v)).toArray⟩) rfl rfl (by intro w; go_simp <;> (first | (rw [HAP.out.2.2]; done) | (rw [HLE.out.2.2.1]; done) | (rw [HLE.out.2.2.2]; done) | exact HAP.out.2.2 | exact HLE.out.2.2.1 | exact HLE.out.2.2.2 | (simp [HAP.out.2.2, HLE.out.2.2.1, HLE.out.2.2.2]; done) | (trace_state; done))) ?_
  simp only [Act.put, List.setIfInBounds_toArray, List.set_cons_zero, List.set_cons_succ]
  refine Seq.pure rfl rfl (by intro w; go_simp; try first | with_reducible rfl | rfl) ?_
  simp only [Act.put, List.setIfInBounds_toArray, List.set_cons_zero, List.set_cons_succ]
  refine Seq.done fun ws7 hws => ?_
  have HS7 := hws.st
  clear HS6 hws
  go_upto_region 7 with (fail)
  refine wp_seq_text [] (StR.no HS7) ?_
  refine Seq.pure rfl rfl (by intro w; go_simp; try first | with_reducible rfl | rfl) ?_
  simp only [Act.put, List.setIfInBounds_toArray, List.set_cons_zero, List.set_cons_succ]
  refine Seq.pure rfl rfl (by intro w; go_simp; try first | with_reducible rfl | rfl) ?_
  simp only [Act.put, List.setIfInBounds_toArray, List.set_cons_zero, List.set_cons_succ]
  refine Seq.done fun ws8 hws => ?_
  have HS8 := hws.st
  clear HS7 hws
  go_wp2_with fail
  go_ret
  exact ⟨by rw [HRT.out]; rfl, HS8.below⟩
set_option maxHeartbeats 2000000 in
set_option maxRecDepth 20000 in
theorem text_01 {q : Rat} {W : World} {l : List Own} (hT : Tab W) (hz : Rz 60 q) (hng : decide (Rat.num q < 0) = false) (hd : Rat.den q = 1) (w : World) (h : St W l w) :
    Calls Tryd.prog 9 #[.agg (RC q)] w fun e w' => e = .returned (.string ⟨(rtx q).toArray⟩) ∧ Below w.heap.size w w' := by
  have HT := Lib.hid (tabS hT h); clear hT h
  obtain ⟨u, hu⟩ : ∃ u, txt (Rat.num q).natAbs = u := ⟨_, rfl⟩
  obtain ⟨v, hv⟩ : ∃ v, txt (Rat.den q) = v := ⟨_, rfl⟩
  have HRT := Lib.hid (show rtx q = u by unfold rtx; rw [hng, hu, hv]; rw [if_pos hd]; simp [pre])
  have HTX := Lib.hid (show T (Rat.num q).natAbs = ⟨u.toArray⟩ ∧ T (Rat.den q) = ⟨v.toArray⟩ from ⟨by rw [← hu]; rfl, by rw [← hv]; rfl⟩)
  have HAP := Lib.hid (show (⟨#[45]⟩ : ByteArray) ++ ⟨u.toArray⟩ = ⟨(45 :: u).toArray⟩ ∧ (⟨#[47]⟩ : ByteArray) ++ ⟨v.toArray⟩ = ⟨(47 :: v).toArray⟩ ∧ (⟨(u).toArray⟩ : ByteArray) ++ ⟨(47 :: v).toArray⟩ = ⟨(u ++ 47 :: v).toArray⟩ from ⟨app_ba [45] u, app_ba [47] v, app_ba _ _⟩)
  have hl1 := txt_size hz.1
  have hl2 := txt_size hz.2
  rw [hu] at hl1
  rw [hv] at hl2
  have HLE := Lib.hid (show ¬ 9223372036854775807 < 1 + u.length ∧ ¬ 9223372036854775807 < 1 + v.length ∧ ¬ 9223372036854775807 < u.length + 1 + (v.length + 1) ∧ ¬ 9223372036854775807 < u.length + (v.length + 1) from ⟨by omega, by omega, by omega, by omega⟩)
  have HDN := Lib.hid (show (S (Rat.den q)).toList = [1] by rw [hd, Lib.toList_data]; rfl)
  have HNG := Lib.hid hng
  have Z_q := Lib.hid hz
  clear hu hv hng hd hz hl1 hl2
  go_enter Tryd.func9, Tryd.ntmps9
  have HS : St w [] w := St.start
  go_upto_region 0 with (fail)
  refine wp_seq_text [] (StR.no HS) ?_
  refine Seq.box rfl rfl rfl (v := .agg (RC q)) (cs := RC q) rfl rfl ?_
  intro bk1 _ _ hbk1_r
  simp only [Act.put, List.setIfInBounds_toArray, List.set_cons_zero, List.set_cons_succ]
  refine Seq.pure rfl rfl (by intro w; go_simp; try first | with_reducible rfl | rfl) ?_
  simp only [Act.put, List.setIfInBounds_toArray, List.set_cons_zero, List.set_cons_succ]
  refine Seq.done fun ws1 hws => ?_
  have HS1 : St w [(bk1, 24, RC q)] ws1 := hws.list1 (by first | exact rS | exact rN (by assumption) (rS) | exact rN (by assumption) (rN (by assumption) (rS)) | exact rN (by assumption) (rN (by assumption) (rN (by assumption) (rS))) | exact rN (by assumption) (rN (by assumption) (rN (by assumption) (rN (by assumption) (rS)))))
  clear HS hws
  go_upto_region 1 with (fail)
  refine wp_seq_text [0] (StR.move (StR.no HS1)) ?_
  refine Seq.get rfl rfl rfl rfl (by first | exact rS | exact rN (by assumption) (rS) | exact rN (by assumption) (rN (by assumption) (rS)) | exact rN (by assumption) (rN (by assumption) (rN (by assumption) (rS))) | exact rN (by assumption) (rN (by assumption) (rN (by assumption) (rN (by assumption) (rS))))) (n := 3) rfl (by kernel_rfl) ?_
  simp only [Act.put, List.setIfInBounds_toArray, List.set_cons_zero, List.set_cons_succ]
  refine Seq.call rfl rfl rfl rfl (by kernel_rfl) (fit_q (k := 60) HT.out Z_q.out (by omega)) ?_
  simp only [Act.put, List.setIfInBounds_toArray, List.set_cons_zero, List.set_cons_succ]
  refine Seq.store rfl rfl rfl rfl rfl (by first | exact rS | exact rN (by assumption) (rS) | exact rN (by assumption) (rN (by assumption) (rS)) | exact rN (by assumption) (rN (by assumption) (rN (by assumption) (rS))) | exact rN (by assumption) (rN (by assumption) (rN (by assumption) (rN (by assumption) (rS))))) (n := 3) rfl rfl (by kernel_rfl) (RC_one _) ?_
  simp only [Act.put, List.setIfInBounds_toArray, List.set_cons_zero, List.set_cons_succ]
  refine Seq.done fun ws2 hws => ?_
  have HS2 : St w [(bk1, 24, RC q)] ws2 := hws.list1 (by first | exact rS | exact rN (by assumption) (rS) | exact rN (by assumption) (rN (by assumption) (rS)) | exact rN (by assumption) (rN (by assumption) (rN (by assumption) (rS))) | exact rN (by assumption) (rN (by assumption) (rN (by assumption) (rN (by assumption) (rS)))))
  clear HS1 hws
  go_upto_region 2 with (fail)
  refine wp_seq_text [] (StR.no HS2) ?_
  refine Seq.pure (v := .pointer (some ⟨bk1, 1, none⟩)) rfl rfl (by intro w; go_simp; try first | with_reducible rfl | rfl) ?_
  simp only [Act.put, List.setIfInBounds_toArray, List.set_cons_zero, List.set_cons_succ]
  refine Seq.loadCell rfl rfl rfl rfl (by repeat (first | exact mC | apply mT)) (v := .string (S (Rat.num q).natAbs)) (by first | rfl | (simp [VC, TC, FC, BC, RC]; done)) (by kernel_rfl) rfl ?_
  simp only [Act.put, List.setIfInBounds_toArray, List.set_cons_zero, List.set_cons_succ]
  refine Seq.call rfl rfl rfl rfl (by kernel_rfl) (fun w h => (Text_S (Rat.num q).natAbs w (Nat.le_trans Z_q.out.1 (by omega))).mono fun e w' hh => ⟨by rw [hh.1, HTX.out.1], hh.2⟩) ?_
  simp only [Act.put, List.setIfInBounds_toArray, List.set_cons_zero, List.set_cons_succ]
  refine Seq.pure rfl rfl (by intro w; go_simp; try first | with_reducible rfl | rfl) ?_
  simp only [Act.put, List.setIfInBounds_toArray, List.set_cons_zero, List.set_cons_succ]
  refine Seq.done fun ws3 hws => ?_
  have HS3 := hws.st
  clear HS2 hws
  go_upto_region 3 with (fail)
  refine wp_seq_text [] (StR.no HS3) ?_
  refine Seq.pure (v := .pointer (some ⟨bk1, 0, none⟩)) rfl rfl (by intro w; go_simp; try first | with_reducible rfl | rfl) ?_
  simp only [Act.put, List.setIfInBounds_toArray, List.set_cons_zero, List.set_cons_succ]
  refine Seq.loadCell rfl rfl rfl rfl (by repeat (first | exact mC | apply mT)) (v := .bool false) (by show some (Value.bool (decide (Rat.num q < 0))) = _; rw [HNG.out]) (by kernel_rfl) rfl ?_
  simp only [Act.put, List.setIfInBounds_toArray, List.set_cons_zero, List.set_cons_succ]
  refine Seq.done fun ws4 hws => ?_
  have HS4 := hws.st
  clear HS3 hws
  go_upto_region 5 with (fail)
  refine wp_seq_text [] (StR.no HS4) ?_
  refine Seq.pure (v := .pointer (some ⟨bk1, 2, none⟩)) rfl rfl (by intro w; go_simp; try first | with_reducible rfl | rfl) ?_
  simp only [Act.put, List.setIfInBounds_toArray, List.set_cons_zero, List.set_cons_succ]
  refine Seq.loadCell rfl rfl rfl rfl (by repeat (first | exact mC | apply mT)) (v := .string (S (Rat.den q))) (by first | rfl | (simp [VC, TC, FC, BC, RC]; done)) (by kernel_rfl) rfl ?_
  simp only [Act.put, List.setIfInBounds_toArray, List.set_cons_zero, List.set_cons_succ]
  refine Seq.pure (v := .bool false) rfl rfl (by intro w; go_simp <;> (first | (rw [HDN.out]; done) | exact HDN.out | (simp [HDN.out]; done) | (trace_state; done))) ?_
  simp only [Act.put, List.setIfInBounds_toArray, List.set_cons_zero, List.set_cons_succ]
  refine Seq.done fun ws5 hws => ?_
  have HS5 := hws.st
  clear HS4 hws
  go_upto_region 7 with (fail)
  refine wp_seq_text [] (StR.no HS5) ?_
  refine Seq.pure rfl rfl (by intro w; go_simp; try first | with_reducible rfl | rfl) ?_
  simp only [Act.put, List.setIfInBounds_toArray, List.set_cons_zero, List.set_cons_succ]
  refine Seq.pure rfl rfl (by intro w; go_simp; try first | with_reducible rfl | rfl) ?_
  simp only [Act.put, List.setIfInBounds_toArray, List.set_cons_zero, List.set_cons_succ]
  refine Seq.done fun ws6 hws => ?_
  have HS6 := hws.st
  clear HS5 hws
  go_wp2_with fail
  go_ret
  exact ⟨by rw [HRT.out]; rfl, HS6.below⟩
set_option maxHeartbeats 2000000 in
set_option maxRecDepth 20000 in
theorem text_00 {q : Rat} {W : World} {l : List Own} (hT : Tab W) (hz : Rz 60 q) (hng : decide (Rat.num q < 0) = false) (hd : ¬ Rat.den q = 1) (w : World) (h : St W l w) :
    Calls Tryd.prog 9 #[.agg (RC q)] w fun e w' => e = .returned (.string ⟨(rtx q).toArray⟩) ∧ Below w.heap.size w w' := by
  have HT := Lib.hid (tabS hT h); clear hT h
  obtain ⟨u, hu⟩ : ∃ u, txt (Rat.num q).natAbs = u := ⟨_, rfl⟩
  obtain ⟨v, hv⟩ : ∃ v, txt (Rat.den q) = v := ⟨_, rfl⟩
  have HRT := Lib.hid (show rtx q = u ++ 47 :: v by unfold rtx; rw [hng, hu, hv]; rw [if_neg hd]; simp [pre])
  have HTX := Lib.hid (show T (Rat.num q).natAbs = ⟨u.toArray⟩ ∧ T (Rat.den q) = ⟨v.toArray⟩ from ⟨by rw [← hu]; rfl, by rw [← hv]; rfl⟩)
  have HAP := Lib.hid (show (⟨#[45]⟩ : ByteArray) ++ ⟨u.toArray⟩ = ⟨(45 :: u).toArray⟩ ∧ (⟨#[47]⟩ : ByteArray) ++ ⟨v.toArray⟩ = ⟨(47 :: v).toArray⟩ ∧ (⟨(u).toArray⟩ : ByteArray) ++ ⟨(47 :: v).toArray⟩ = ⟨(u ++ 47 :: v).toArray⟩ from ⟨app_ba [45] u, app_ba [47] v, app_ba _ _⟩)
  have hl1 := txt_size hz.1
  have hl2 := txt_size hz.2
  rw [hu] at hl1
  rw [hv] at hl2
  have HLE := Lib.hid (show ¬ 9223372036854775807 < 1 + u.length ∧ ¬ 9223372036854775807 < 1 + v.length ∧ ¬ 9223372036854775807 < u.length + 1 + (v.length + 1) ∧ ¬ 9223372036854775807 < u.length + (v.length + 1) from ⟨by omega, by omega, by omega, by omega⟩)
  have HDN := Lib.hid (show ¬ (S (Rat.den q)).toList = [1] by intro c; have := S_beq_one hd; rw [c] at this; cases this)
  have HNG := Lib.hid hng
  have Z_q := Lib.hid hz
  clear hu hv hng hd hz hl1 hl2
  go_enter Tryd.func9, Tryd.ntmps9
  have HS : St w [] w := St.start
  go_upto_region 0 with (fail)
  refine wp_seq_text [] (StR.no HS) ?_
  refine Seq.box rfl rfl rfl (v := .agg (RC q)) (cs := RC q) rfl rfl ?_
  intro bk1 _ _ hbk1_r
  simp only [Act.put, List.setIfInBounds_toArray, List.set_cons_zero, List.set_cons_succ]
  refine Seq.pure rfl rfl (by intro w; go_simp; try first | with_reducible rfl | rfl) ?_
  simp only [Act.put, List.setIfInBounds_toArray, List.set_cons_zero, List.set_cons_succ]
  refine Seq.done fun ws1 hws => ?_
  have HS1 : St w [(bk1, 24, RC q)] ws1 := hws.list1 (by first | exact rS | exact rN (by assumption) (rS) | exact rN (by assumption) (rN (by assumption) (rS)) | exact rN (by assumption) (rN (by assumption) (rN (by assumption) (rS))) | exact rN (by assumption) (rN (by assumption) (rN (by assumption) (rN (by assumption) (rS)))))
  clear HS hws
  go_upto_region 1 with (fail)
  refine wp_seq_text [0] (StR.move (StR.no HS1)) ?_
  refine Seq.get rfl rfl rfl rfl (by first | exact rS | exact rN (by assumption) (rS) | exact rN (by assumption) (rN (by assumption) (rS)) | exact rN (by assumption) (rN (by assumption) (rN (by assumption) (rS))) | exact rN (by assumption) (rN (by assumption) (rN (by assumption) (rN (by assumption) (rS))))) (n := 3) rfl (by kernel_rfl) ?_
  simp only [Act.put, List.setIfInBounds_toArray, List.set_cons_zero, List.set_cons_succ]
  refine Seq.call rfl rfl rfl rfl (by kernel_rfl) (fit_q (k := 60) HT.out Z_q.out (by omega)) ?_
  simp only [Act.put, List.setIfInBounds_toArray, List.set_cons_zero, List.set_cons_succ]
  refine Seq.store rfl rfl rfl rfl rfl (by first | exact rS | exact rN (by assumption) (rS) | exact rN (by assumption) (rN (by assumption) (rS)) | exact rN (by assumption) (rN (by assumption) (rN (by assumption) (rS))) | exact rN (by assumption) (rN (by assumption) (rN (by assumption) (rN (by assumption) (rS))))) (n := 3) rfl rfl (by kernel_rfl) (RC_one _) ?_
  simp only [Act.put, List.setIfInBounds_toArray, List.set_cons_zero, List.set_cons_succ]
  refine Seq.done fun ws2 hws => ?_
  have HS2 : St w [(bk1, 24, RC q)] ws2 := hws.list1 (by first | exact rS | exact rN (by assumption) (rS) | exact rN (by assumption) (rN (by assumption) (rS)) | exact rN (by assumption) (rN (by assumption) (rN (by assumption) (rS))) | exact rN (by assumption) (rN (by assumption) (rN (by assumption) (rN (by assumption) (rS)))))
  clear HS1 hws
  go_upto_region 2 with (fail)
  refine wp_seq_text [] (StR.no HS2) ?_
  refine Seq.pure (v := .pointer (some ⟨bk1, 1, none⟩)) rfl rfl (by intro w; go_simp; try first | with_reducible rfl | rfl) ?_
  simp only [Act.put, List.setIfInBounds_toArray, List.set_cons_zero, List.set_cons_succ]
  refine Seq.loadCell rfl rfl rfl rfl (by repeat (first | exact mC | apply mT)) (v := .string (S (Rat.num q).natAbs)) (by first | rfl | (simp [VC, TC, FC, BC, RC]; done)) (by kernel_rfl) rfl ?_
  simp only [Act.put, List.setIfInBounds_toArray, List.set_cons_zero, List.set_cons_succ]
  refine Seq.call rfl rfl rfl rfl (by kernel_rfl) (fun w h => (Text_S (Rat.num q).natAbs w (Nat.le_trans Z_q.out.1 (by omega))).mono fun e w' hh => ⟨by rw [hh.1, HTX.out.1], hh.2⟩) ?_
  simp only [Act.put, List.setIfInBounds_toArray, List.set_cons_zero, List.set_cons_succ]
  refine Seq.pure rfl rfl (by intro w; go_simp; try first | with_reducible rfl | rfl) ?_
  simp only [Act.put, List.setIfInBounds_toArray, List.set_cons_zero, List.set_cons_succ]
  refine Seq.done fun ws3 hws => ?_
  have HS3 := hws.st
  clear HS2 hws
  go_upto_region 3 with (fail)
  refine wp_seq_text [] (StR.no HS3) ?_
  refine Seq.pure (v := .pointer (some ⟨bk1, 0, none⟩)) rfl rfl (by intro w; go_simp; try first | with_reducible rfl | rfl) ?_
  simp only [Act.put, List.setIfInBounds_toArray, List.set_cons_zero, List.set_cons_succ]
  refine Seq.loadCell rfl rfl rfl rfl (by repeat (first | exact mC | apply mT)) (v := .bool false) (by show some (Value.bool (decide (Rat.num q < 0))) = _; rw [HNG.out]) (by kernel_rfl) rfl ?_
  simp only [Act.put, List.setIfInBounds_toArray, List.set_cons_zero, List.set_cons_succ]
  refine Seq.done fun ws4 hws => ?_
  have HS4 := hws.st
  clear HS3 hws
  go_upto_region 5 with (fail)
  refine wp_seq_text [] (StR.no HS4) ?_
  refine Seq.pure (v := .pointer (some ⟨bk1, 2, none⟩)) rfl rfl (by intro w; go_simp; try first | with_reducible rfl | rfl) ?_
  simp only [Act.put, List.setIfInBounds_toArray, List.set_cons_zero, List.set_cons_succ]
  refine Seq.loadCell rfl rfl rfl rfl (by repeat (first | exact mC | apply mT)) (v := .string (S (Rat.den q))) (by first | rfl | (simp [VC, TC, FC, BC, RC]; done)) (by kernel_rfl) rfl ?_
  simp only [Act.put, List.setIfInBounds_toArray, List.set_cons_zero, List.set_cons_succ]
  refine Seq.pure (v := .bool true) rfl rfl (by intro w; go_simp <;> (first | (rw [HDN.out]; done) | exact HDN.out | (simp [HDN.out]; done) | (trace_state; done))) ?_
  simp only [Act.put, List.setIfInBounds_toArray, List.set_cons_zero, List.set_cons_succ]
  refine Seq.done fun ws5 hws => ?_
  have HS5 := hws.st
  clear HS4 hws
  go_upto_region 6 with (fail)
  refine wp_seq_text [] (StR.no HS5) ?_
  refine Seq.pure rfl rfl (by intro w; go_simp; try first | with_reducible rfl | rfl) ?_
  simp only [Act.put, List.setIfInBounds_toArray, List.set_cons_zero, List.set_cons_succ]
  refine Seq.pure (v := .pointer (some ⟨bk1, 2, none⟩)) rfl rfl (by intro w; go_simp; try first | with_reducible rfl | rfl) ?_
  simp only [Act.put, List.setIfInBounds_toArray, List.set_cons_zero, List.set_cons_succ]
  refine Seq.loadCell rfl rfl rfl rfl (by repeat (first | exact mC | apply mT)) (v := .string (S (Rat.den q))) (by first | rfl | (simp [VC, TC, FC, BC, RC]; done)) (by kernel_rfl) rfl ?_
  simp only [Act.put, List.setIfInBounds_toArray, List.set_cons_zero, List.set_cons_succ]
  refine Seq.call rfl rfl rfl rfl (by kernel_rfl) (fun w h => (Text_S (Rat.den q) w (Nat.le_trans Z_q.out.2 (by omega))).mono fun e w' hh => ⟨by rw [hh.1, HTX.out.2], hh.2⟩) ?_
  simp only [Act.put, List.setIfInBounds_toArray, List.set_cons_zero, List.set_cons_succ]
  refine Seq.pure (v := .string ⟨(47 :: v).toArray⟩) rfl rfl (by intro w; go_simp <;> (first | (rw [HAP.out.2.1]; done) | (rw [HLE.out.2.1]; done) | exact HAP.out.2.1 | exact HLE.out.2.1 | (simp [HAP.out.2.1, HLE.out.2.1]; done) | (trace_state; done))) ?_
  simp only [Act.put, List.setIfInBounds_toArray, List.set_cons_zero, List.set_cons_succ]
  refine Seq.pure (v := .string ⟨(u ++ 47 :: v).toArray⟩) rfl rfl (by intro w; go_simp <;> (first | (rw [HAP.out.2.2]; done) | (rw [HLE.out.2.2.1]; done) | (rw [HLE.out.2.2.2]; done) | exact HAP.out.2.2 | exact HLE.out.2.2.1 | exact HLE.out.2.2.2 | (simp [HAP.out.2.2, HLE.out.2.2.1, HLE.out.2.2.2]; done) | (trace_state; done))) ?_
  simp only [Act.put, List.setIfInBounds_toArray, List.set_cons_zero, List.set_cons_succ]
  refine Seq.pure rfl rfl (by intro w; go_simp; try first | with_reducible rfl | rfl) ?_
  simp only [Act.put, List.setIfInBounds_toArray, List.set_cons_zero, List.set_cons_succ]
  refine Seq.done fun ws6 hws => ?_
  have HS6 := hws.st
  clear HS5 hws
  go_upto_region 7 with (fail)
  refine wp_seq_text [] (StR.no HS6) ?_
  refine Seq.pure rfl rfl (by intro w; go_simp; try first | with_reducible rfl | rfl) ?_
  simp only [Act.put, List.setIfInBounds_toArray, List.set_cons_zero, List.set_cons_succ]
  refine Seq.pure rfl rfl (by intro w; go_simp; try first | with_reducible rfl | rfl) ?_
  simp only [Act.put, List.setIfInBounds_toArray, List.set_cons_zero, List.set_cons_succ]
  refine Seq.done fun ws7 hws => ?_
  have HS7 := hws.st
  clear HS6 hws
  go_wp2_with fail
  go_ret
  exact ⟨by rw [HRT.out]; rfl, HS7.below⟩
theorem text_q {q : Rat} {W : World} {l : List Own} (hT : Tab W) (hz : Rz 60 q) (w : World) (h : St W l w) :
    Calls Tryd.prog 9 #[.agg (RC q)] w fun e w' => e = .returned (.string ⟨(rtx q).toArray⟩) ∧ Below w.heap.size w w' := by
  by_cases hd : Rat.den q = 1
  · cases hn : decide (Rat.num q < 0) with
    | true => exact text_11 hT hz hn hd w h
    | false => exact text_01 hT hz hn hd w h
  · cases hn : decide (Rat.num q < 0) with
    | true => exact text_10 hT hz hn hd w h
    | false => exact text_00 hT hz hn hd w h
theorem read_text {q : Rat} {W : World} {l : List Own} (hT : Tab W) (hz : Rz 60 q) (w : World) (h : St W l w) :
    Calls Tryd.prog 8 #[.string ⟨(rtx q).toArray⟩] w fun e w' => e = .returned (.tuple #[.agg (RC q), .int .i64 0]) ∧ Below w.heap.size w w' := by
  have hm : mkRat (sg (decide (Rat.num q < 0)) (Rat.num q).natAbs) (Rat.den q) = q := by rw [sg_num]; exact Rat.mkRat_self q
  by_cases hd : Rat.den q = 1
  · rw [hd] at hm
    exact rread_one hT (by unfold rtx; rw [if_pos hd, List.append_nil]) hz.1 hm w h
  · exact rread_at hT (by unfold rtx; rw [if_neg hd]) hz.1 hz.2 (Rat.den_nz q) hm rfl w h
end Go.Proofs.YtiejgkmjaphbcaaDoor
