/- vec.Sub from the zero value (printed by lawvec.py). -/
import Derived.Test.YtbgifinfflehmaaDoorAp5
namespace Go.Proofs.YtbgifinfflehmaaDoor
open Go.RowKit
open List (setIfInBounds_toArray set_cons_zero set_cons_succ)
set_option linter.unusedVariables false
set_option linter.unusedSimpArgs false

theorem fitz_q {z : Rat} {W : World} {l : List Own} (hz : z = 0) (w : World) (h : St W l w) :
    Calls Tryd.prog 51 #[.agg #[.bool false, .string ⟨#[]⟩, .string ⟨#[]⟩]] w fun e w' => e = .returned (.agg (RC z)) ∧ Below w.heap.size w w' := by
  subst hz; exact fitraw_q w h
theorem signedN_q {s t : Bool} {a b k : Nat} (ha : a = 0) (hb : 0 < b) (hs : Sz k b) (hk : k ≤ 35184372088832) {W : World} {l : List Own} (w : World) (h : St W l w) :
    Calls Tryd.prog 97 #[.bool s, .string (S a), .bool t, .string (S b)] w fun e w' => e = .returned (.tuple #[.bool t, .string (S b)]) ∧ Below w.heap.size w w' := by
  subst ha
  refine (signed_R s t 0 b k k w (hs.le (by omega)) hs hk hk).mono ?_
  rintro e w' ⟨⟨u, n, rfl, hsg⟩, hb'⟩
  have : u = t ∧ n = b := by
    have e0 : sg s 0 = 0 := by cases s <;> rfl
    rw [e0, Int.zero_add] at hsg
    cases u <;> cases t <;> simp only [sg, if_true, Bool.false_eq_true, if_false] at hsg <;> constructor <;> first | rfl | omega
  rw [this.1, this.2]
  exact ⟨rfl, hb'⟩
theorem num_pos {y : Rat} (h : y ≠ 0) : 0 < (Rat.num y).natAbs := by
  rcases Nat.eq_zero_or_pos (Rat.num y).natAbs with h0 | h0
  · exact absurd (Rat.num_eq_zero.1 (Int.natAbs_eq_zero.1 h0)) h
  · exact h0
theorem mk_back {y : Rat} {d : Nat} (h : Rat.den y = d) : mkRat (sg (decide (Rat.num y < 0)) (Rat.num y).natAbs) d = y := by
  rw [sg_num, ← h]; exact Rat.mkRat_self y
theorem mk_back2 {y z : Rat} (hz : z = 0) : mkRat (sg (decide (Rat.num y < 0)) ((Rat.num y).natAbs * Rat.den z)) (Rat.den z * Rat.den y) = y := by
  subst hz
  have e : Rat.den 0 = 1 := rfl
  rw [e, Nat.mul_one, Nat.one_mul]; exact mk_back rfl
set_option maxHeartbeats 2000000 in
set_option maxRecDepth 20000 in
theorem addz1_q {k : Nat} {y : Rat} {W : World} {l : List Own} (hT : Tab W) (Zy : Rz k y) (hy : y ≠ 0) (hd : Rat.den y = 1) (hk : k ≤ 4398046511104) (w : World) (h : St W l w) :
    Calls Tryd.prog 54 #[.agg #[.bool false, .string ⟨#[]⟩, .string ⟨#[]⟩], .agg (RC y)] w fun e w' => e = .returned (.agg (RC y)) ∧ Below w.heap.size w w' := by
  have HT := Lib.hid (tabS hT h); clear hT h
  obtain ⟨z, hz⟩ : ∃ z : Rat, z = 0 := ⟨_, rfl⟩
  have Z_z := Lib.hid (show Rz 2 z by rw [hz]; exact Rz.zero2)
  have HNZ := Lib.hid (show (Rat.num z).natAbs = 0 by rw [hz]; rfl)
  have HD1 := Lib.hid (show Rat.den z = 1 by rw [hz]; rfl)
  have HZ := Lib.hid hz; clear hz
  have HYP := Lib.hid (num_pos hy); clear hy
  have Z_y := Lib.hid Zy; clear Zy
  have HDE := Lib.hid (show Rat.den y = Rat.den z by rw [hd, HD1.out]); clear hd
  have HDN := Lib.hid (show (S (Rat.den z)).toList = (S (Rat.den y)).toList by rw [HDE.out])
  go_enter Tryd.func54, Tryd.ntmps54
  have HS : St w [] w := St.start
  go_upto_region 0 with (fail)
  refine wp_seq_text [] (StR.no HS) ?_
  refine Seq.box rfl rfl rfl (v := .agg (#[.bool false, .string ⟨#[]⟩, .string ⟨#[]⟩])) (cs := #[.bool false, .string ⟨#[]⟩, .string ⟨#[]⟩]) rfl rfl ?_
  intro bk2 _ _ hbk2_r
  simp only [Act.put, setIfInBounds_toArray, set_cons_zero, set_cons_succ]
  refine Seq.box rfl rfl rfl (v := .agg (RC y)) (cs := RC y) rfl rfl ?_
  intro bk3 _ _ hbk3_r
  obtain ⟨ne_bk3_bk2, hbk3_r⟩ := Reg.ne_of_put hbk3_r
  have ne_bk2_bk3 := Ne.symm ne_bk3_bk2
  simp only [Act.put, setIfInBounds_toArray, set_cons_zero, set_cons_succ]
  refine Seq.alloc rfl rfl rfl (z := .agg #[.bool false, .string ⟨#[]⟩, .string ⟨#[]⟩]) (by kernel_rfl) rfl ?_
  intro bk4 _ _ hbk4_r
  obtain ⟨ne_bk4_bk3, hbk4_r⟩ := Reg.ne_of_put hbk4_r
  have ne_bk3_bk4 := Ne.symm ne_bk4_bk3
  obtain ⟨ne_bk4_bk2, hbk4_r⟩ := Reg.ne_of_put hbk4_r
  have ne_bk2_bk4 := Ne.symm ne_bk4_bk2
  simp only [Act.put, setIfInBounds_toArray, set_cons_zero, set_cons_succ]
  refine Seq.done fun ws1 hws => ?_
  have HS1 : St w [(bk2, 28, #[.bool false, .string ⟨#[]⟩, .string ⟨#[]⟩]), (bk3, 28, RC y), (bk4, 28, #[.bool false, .string ⟨#[]⟩, .string ⟨#[]⟩])] ws1 := hws.list3 (by first | exact rS | exact rN (by assumption) (rS) | exact rN (by assumption) (rN (by assumption) (rS)) | exact rN (by assumption) (rN (by assumption) (rN (by assumption) (rS))) | exact rN (by assumption) (rN (by assumption) (rN (by assumption) (rN (by assumption) (rS))))) (by first | exact rS | exact rN (by assumption) (rS) | exact rN (by assumption) (rN (by assumption) (rS)) | exact rN (by assumption) (rN (by assumption) (rN (by assumption) (rS))) | exact rN (by assumption) (rN (by assumption) (rN (by assumption) (rN (by assumption) (rS))))) (by first | exact rS | exact rN (by assumption) (rS) | exact rN (by assumption) (rN (by assumption) (rS)) | exact rN (by assumption) (rN (by assumption) (rN (by assumption) (rS))) | exact rN (by assumption) (rN (by assumption) (rN (by assumption) (rN (by assumption) (rS))))) (by assumption) (by assumption) (by assumption)
  clear HS hws
  go_upto_region 1 with (fail)
  have HPbk3 : St w [(bk3, 28, RC y), (bk2, 28, #[.bool false, .string ⟨#[]⟩, .string ⟨#[]⟩]), (bk4, 28, #[.bool false, .string ⟨#[]⟩, .string ⟨#[]⟩])] _ := St.perm HS1 (List.perm_middle (l₁ := ([(bk2, 28, #[.bool false, .string ⟨#[]⟩, .string ⟨#[]⟩])] : List Own)))
  have HPbk2 : St w [(bk2, 28, #[.bool false, .string ⟨#[]⟩, .string ⟨#[]⟩]), (bk3, 28, RC y), (bk4, 28, #[.bool false, .string ⟨#[]⟩, .string ⟨#[]⟩])] _ := St.perm HPbk3 (List.perm_middle (l₁ := ([(bk3, 28, RC y)] : List Own)))
  refine wp_seq [0, 4] (by kernel_rfl) (by kernel_rfl) (Reg.fin.put (Reg.fin.put Reg.fin_no _ _) _ _) (StR.move (StR.move (StR.no HPbk2))) ?_
  refine Seq.get rfl rfl rfl rfl (by first | exact rS | exact rN (by assumption) (rS) | exact rN (by assumption) (rN (by assumption) (rS)) | exact rN (by assumption) (rN (by assumption) (rN (by assumption) (rS))) | exact rN (by assumption) (rN (by assumption) (rN (by assumption) (rN (by assumption) (rS))))) (n := 3) rfl (by kernel_rfl) ?_
  simp only [Act.put, setIfInBounds_toArray, set_cons_zero, set_cons_succ]
  refine Seq.call rfl rfl rfl rfl (by kernel_rfl) (fitz_q HZ.out) ?_
  simp only [Act.put, setIfInBounds_toArray, set_cons_zero, set_cons_succ]
  refine Seq.get rfl rfl rfl rfl (by first | exact rS | exact rN (by assumption) (rS) | exact rN (by assumption) (rN (by assumption) (rS)) | exact rN (by assumption) (rN (by assumption) (rN (by assumption) (rS))) | exact rN (by assumption) (rN (by assumption) (rN (by assumption) (rN (by assumption) (rS))))) (n := 3) rfl (by kernel_rfl) ?_
  simp only [Act.put, setIfInBounds_toArray, set_cons_zero, set_cons_succ]
  refine Seq.call rfl rfl rfl rfl (by kernel_rfl) (fit_q (k := k) HT.out Z_y.out (by omega)) ?_
  simp only [Act.put, setIfInBounds_toArray, set_cons_zero, set_cons_succ]
  refine Seq.store rfl rfl rfl rfl rfl (by first | exact rS | exact rN (by assumption) (rS) | exact rN (by assumption) (rN (by assumption) (rS)) | exact rN (by assumption) (rN (by assumption) (rN (by assumption) (rS))) | exact rN (by assumption) (rN (by assumption) (rN (by assumption) (rN (by assumption) (rS))))) (n := 3) rfl rfl (by kernel_rfl) (RC_one _) ?_
  simp only [Act.put, setIfInBounds_toArray, set_cons_zero, set_cons_succ]
  refine Seq.store rfl rfl rfl rfl rfl (by first | exact rS | exact rN (by assumption) (rS) | exact rN (by assumption) (rN (by assumption) (rS)) | exact rN (by assumption) (rN (by assumption) (rN (by assumption) (rS))) | exact rN (by assumption) (rN (by assumption) (rN (by assumption) (rN (by assumption) (rS))))) (n := 3) rfl rfl (by kernel_rfl) (RC_one _) ?_
  simp only [Act.put, setIfInBounds_toArray, set_cons_zero, set_cons_succ]
  refine Seq.done fun ws2 hws => ?_
  have HS2 : St w [(bk2, 28, RC z), (bk3, 28, RC y), (bk4, 28, #[.bool false, .string ⟨#[]⟩, .string ⟨#[]⟩])] ws2 := hws.list2 (by first | exact rS | exact rN (by assumption) (rS) | exact rN (by assumption) (rN (by assumption) (rS)) | exact rN (by assumption) (rN (by assumption) (rN (by assumption) (rS))) | exact rN (by assumption) (rN (by assumption) (rN (by assumption) (rN (by assumption) (rS))))) (by first | exact rS | exact rN (by assumption) (rS) | exact rN (by assumption) (rN (by assumption) (rS)) | exact rN (by assumption) (rN (by assumption) (rN (by assumption) (rS))) | exact rN (by assumption) (rN (by assumption) (rN (by assumption) (rN (by assumption) (rS))))) (by assumption)
  clear HS1 hws HPbk3 HPbk2
  go_upto_region 2 with (fail)
  refine wp_seq_text [] (StR.no HS2) ?_
  refine Seq.pure (v := .pointer (some ⟨bk2, 2, none⟩)) rfl rfl (by intro w; go_simp; try first | with_reducible rfl | rfl) ?_
  simp only [Act.put, setIfInBounds_toArray, set_cons_zero, set_cons_succ]
  refine Seq.loadCell rfl rfl rfl rfl (by repeat (first | exact mC | apply mT)) (v := .string (S (Rat.den z))) (by first | rfl | (simp [VC, TC, FC, BC, RC]; done)) (by kernel_rfl) rfl ?_
  simp only [Act.put, setIfInBounds_toArray, set_cons_zero, set_cons_succ]
  refine Seq.pure (v := .pointer (some ⟨bk3, 2, none⟩)) rfl rfl (by intro w; go_simp; try first | with_reducible rfl | rfl) ?_
  simp only [Act.put, setIfInBounds_toArray, set_cons_zero, set_cons_succ]
  refine Seq.loadCell rfl rfl rfl rfl (by repeat (first | exact mC | apply mT)) (v := .string (S (Rat.den y))) (by first | rfl | (simp [VC, TC, FC, BC, RC]; done)) (by kernel_rfl) rfl ?_
  simp only [Act.put, setIfInBounds_toArray, set_cons_zero, set_cons_succ]
  refine Seq.pure (v := .bool true) rfl rfl (by intro w; go_simp <;> (first | (rw [HDN.out]; done) | exact HDN.out | (simp [HDN.out]; done) | (trace_state; done))) ?_
  simp only [Act.put, setIfInBounds_toArray, set_cons_zero, set_cons_succ]
  refine Seq.done fun ws3 hws => ?_
  have HS3 := hws.st
  clear HS2 hws
  go_upto_region 3 with (fail)
  refine wp_seq_text [] (StR.no HS3) ?_
  refine Seq.pure (v := .pointer (some ⟨bk2, 0, none⟩)) rfl rfl (by intro w; go_simp; try first | with_reducible rfl | rfl) ?_
  simp only [Act.put, setIfInBounds_toArray, set_cons_zero, set_cons_succ]
  refine Seq.loadCell rfl rfl rfl rfl (by repeat (first | exact mC | apply mT)) (v := .bool (decide (Rat.num z < 0))) (by first | rfl | (simp [VC, TC, FC, BC, RC]; done)) (by kernel_rfl) rfl ?_
  simp only [Act.put, setIfInBounds_toArray, set_cons_zero, set_cons_succ]
  refine Seq.pure (v := .pointer (some ⟨bk2, 1, none⟩)) rfl rfl (by intro w; go_simp; try first | with_reducible rfl | rfl) ?_
  simp only [Act.put, setIfInBounds_toArray, set_cons_zero, set_cons_succ]
  refine Seq.loadCell rfl rfl rfl rfl (by repeat (first | exact mC | apply mT)) (v := .string (S (Rat.num z).natAbs)) (by first | rfl | (simp [VC, TC, FC, BC, RC]; done)) (by kernel_rfl) rfl ?_
  simp only [Act.put, setIfInBounds_toArray, set_cons_zero, set_cons_succ]
  refine Seq.pure (v := .pointer (some ⟨bk3, 0, none⟩)) rfl rfl (by intro w; go_simp; try first | with_reducible rfl | rfl) ?_
  simp only [Act.put, setIfInBounds_toArray, set_cons_zero, set_cons_succ]
  refine Seq.loadCell rfl rfl rfl rfl (by repeat (first | exact mC | apply mT)) (v := .bool (decide (Rat.num y < 0))) (by first | rfl | (simp [VC, TC, FC, BC, RC]; done)) (by kernel_rfl) rfl ?_
  simp only [Act.put, setIfInBounds_toArray, set_cons_zero, set_cons_succ]
  refine Seq.pure (v := .pointer (some ⟨bk3, 1, none⟩)) rfl rfl (by intro w; go_simp; try first | with_reducible rfl | rfl) ?_
  simp only [Act.put, setIfInBounds_toArray, set_cons_zero, set_cons_succ]
  refine Seq.loadCell rfl rfl rfl rfl (by repeat (first | exact mC | apply mT)) (v := .string (S (Rat.num y).natAbs)) (by first | rfl | (simp [VC, TC, FC, BC, RC]; done)) (by kernel_rfl) rfl ?_
  simp only [Act.put, setIfInBounds_toArray, set_cons_zero, set_cons_succ]
  refine Seq.call rfl rfl rfl rfl (by kernel_rfl) (signedN_q (k := k) HNZ.out HYP.out Z_y.out.1 (by omega)) ?_
  simp only [Act.put, setIfInBounds_toArray, set_cons_zero, set_cons_succ]
  refine Seq.pure rfl rfl (by intro w; go_simp; try first | with_reducible rfl | rfl) ?_
  simp only [Act.put, setIfInBounds_toArray, set_cons_zero, set_cons_succ]
  refine Seq.pure (v := .bool (decide (Rat.num y < 0))) rfl rfl (fun w => rfl) ?_
  simp only [Act.put, setIfInBounds_toArray, set_cons_zero, set_cons_succ]
  refine Seq.pure (v := .string (S ((Rat.num y).natAbs))) rfl rfl (fun w => rfl) ?_
  simp only [Act.put, setIfInBounds_toArray, set_cons_zero, set_cons_succ]
  refine Seq.pure rfl rfl (by intro w; go_simp; try first | with_reducible rfl | rfl) ?_
  simp only [Act.put, setIfInBounds_toArray, set_cons_zero, set_cons_succ]
  refine Seq.pure rfl rfl (by intro w; go_simp; try first | with_reducible rfl | rfl) ?_
  simp only [Act.put, setIfInBounds_toArray, set_cons_zero, set_cons_succ]
  refine Seq.done fun ws4 hws => ?_
  have HS4 := hws.st
  clear HS3 hws
  go_upto_region 4 with (fail)
  have HPbk4 : St w [(bk4, 28, #[.bool false, .string ⟨#[]⟩, .string ⟨#[]⟩]), (bk2, 28, RC z), (bk3, 28, RC y)] _ := St.perm HS4 (List.perm_middle (l₁ := ([(bk2, 28, RC z), (bk3, 28, RC y)] : List Own)))
  refine wp_seq_text [] (StR.move (StR.no HPbk4)) ?_
  refine Seq.pure rfl rfl (by intro w; go_simp; try first | with_reducible rfl | rfl) ?_
  simp only [Act.put, setIfInBounds_toArray, set_cons_zero, set_cons_succ]
  refine Seq.pure rfl rfl (by intro w; go_simp; try first | with_reducible rfl | rfl) ?_
  simp only [Act.put, setIfInBounds_toArray, set_cons_zero, set_cons_succ]
  refine Seq.pure (v := .pointer (some ⟨bk2, 2, none⟩)) rfl rfl (by intro w; go_simp; try first | with_reducible rfl | rfl) ?_
  simp only [Act.put, setIfInBounds_toArray, set_cons_zero, set_cons_succ]
  refine Seq.loadCell rfl rfl rfl rfl (by repeat (first | exact mC | apply mT)) (v := .string (S (Rat.den z))) (by first | rfl | (simp [VC, TC, FC, BC, RC]; done)) (by kernel_rfl) rfl ?_
  simp only [Act.put, setIfInBounds_toArray, set_cons_zero, set_cons_succ]
  refine Seq.call rfl rfl rfl rfl (by kernel_rfl) (made_q (k := k + 2) (decide (Rat.num y < 0)) (Rat.num y).natAbs (Rat.den z) HT.out (Rat.den_nz z) (Z_y.out.1.more (by omega)) (Z_z.out.2.more (by omega)) (by omega) (mk_back HDE.out)) ?_
  simp only [Act.put, setIfInBounds_toArray, set_cons_zero, set_cons_succ]
  refine Seq.store rfl rfl rfl rfl rfl (by first | exact rS | exact rN (by assumption) (rS) | exact rN (by assumption) (rN (by assumption) (rS)) | exact rN (by assumption) (rN (by assumption) (rN (by assumption) (rS))) | exact rN (by assumption) (rN (by assumption) (rN (by assumption) (rN (by assumption) (rS))))) (n := 3) rfl rfl (by kernel_rfl) (RC_one _) ?_
  simp only [Act.put, setIfInBounds_toArray, set_cons_zero, set_cons_succ]
  refine Seq.done fun ws5 hws => ?_
  have HS5 : St w [(bk4, 28, RC y), (bk2, 28, RC z), (bk3, 28, RC y)] ws5 := hws.list1 (by first | exact rS | exact rN (by assumption) (rS) | exact rN (by assumption) (rN (by assumption) (rS)) | exact rN (by assumption) (rN (by assumption) (rN (by assumption) (rS))) | exact rN (by assumption) (rN (by assumption) (rN (by assumption) (rN (by assumption) (rS)))))
  clear HS4 hws HPbk4
  go_wp2_with fail
  exact ret_own rfl rfl rfl HS5 (by repeat (first | exact mC | apply mT)) (n := 3) rfl (by kernel_rfl) ⟨rfl, HS5.below⟩
set_option maxHeartbeats 2000000 in
set_option maxRecDepth 20000 in
theorem addz2_q {k : Nat} {y : Rat} {W : World} {l : List Own} (hT : Tab W) (Zy : Rz k y) (hy : y ≠ 0) (hd : Rat.den y ≠ 1) (hk : k ≤ 4398046511104) (w : World) (h : St W l w) :
    Calls Tryd.prog 54 #[.agg #[.bool false, .string ⟨#[]⟩, .string ⟨#[]⟩], .agg (RC y)] w fun e w' => e = .returned (.agg (RC y)) ∧ Below w.heap.size w w' := by
  have HT := Lib.hid (tabS hT h); clear hT h
  obtain ⟨z, hz⟩ : ∃ z : Rat, z = 0 := ⟨_, rfl⟩
  have Z_z := Lib.hid (show Rz 2 z by rw [hz]; exact Rz.zero2)
  have HNZ := Lib.hid (show (Rat.num z).natAbs = 0 by rw [hz]; rfl)
  have HD1 := Lib.hid (show Rat.den z = 1 by rw [hz]; rfl)
  have HZ := Lib.hid hz; clear hz
  have HYP := Lib.hid (num_pos hy); clear hy
  have Z_y := Lib.hid Zy; clear Zy
  have HDN := Lib.hid (show ¬ (S (Rat.den z)).toList = (S (Rat.den y)).toList by
    rw [HD1.out]; intro c
    exact hd (S_injL c).symm)
  have HN2 := Lib.hid (show (Rat.num z).natAbs * Rat.den y = 0 by rw [HNZ.out, Nat.zero_mul])
  have HB2 := Lib.hid (show 0 < (Rat.num y).natAbs * Rat.den z by rw [HD1.out, Nat.mul_one]; exact HYP.out)
  have HZ2 := Lib.hid (show Sz (k + 2) ((Rat.num y).natAbs * Rat.den z) from Z_y.out.1.mul Z_z.out.2)
  have HZ3 := Lib.hid (show Sz (k + 2) (Rat.den z * Rat.den y) by rw [Nat.mul_comm]; exact Z_y.out.2.mul Z_z.out.2)
  have HDD := Lib.hid (show Rat.den z * Rat.den y ≠ 0 from Nat.mul_ne_zero (Rat.den_nz z) (Rat.den_nz y))
  clear hd
  go_enter Tryd.func54, Tryd.ntmps54
  have HS : St w [] w := St.start
  go_upto_region 0 with (fail)
  refine wp_seq_text [] (StR.no HS) ?_
  refine Seq.box rfl rfl rfl (v := .agg (#[.bool false, .string ⟨#[]⟩, .string ⟨#[]⟩])) (cs := #[.bool false, .string ⟨#[]⟩, .string ⟨#[]⟩]) rfl rfl ?_
  intro bk2 _ _ hbk2_r
  simp only [Act.put, setIfInBounds_toArray, set_cons_zero, set_cons_succ]
  refine Seq.box rfl rfl rfl (v := .agg (RC y)) (cs := RC y) rfl rfl ?_
  intro bk3 _ _ hbk3_r
  obtain ⟨ne_bk3_bk2, hbk3_r⟩ := Reg.ne_of_put hbk3_r
  have ne_bk2_bk3 := Ne.symm ne_bk3_bk2
  simp only [Act.put, setIfInBounds_toArray, set_cons_zero, set_cons_succ]
  refine Seq.alloc rfl rfl rfl (z := .agg #[.bool false, .string ⟨#[]⟩, .string ⟨#[]⟩]) (by kernel_rfl) rfl ?_
  intro bk4 _ _ hbk4_r
  obtain ⟨ne_bk4_bk3, hbk4_r⟩ := Reg.ne_of_put hbk4_r
  have ne_bk3_bk4 := Ne.symm ne_bk4_bk3
  obtain ⟨ne_bk4_bk2, hbk4_r⟩ := Reg.ne_of_put hbk4_r
  have ne_bk2_bk4 := Ne.symm ne_bk4_bk2
  simp only [Act.put, setIfInBounds_toArray, set_cons_zero, set_cons_succ]
  refine Seq.done fun ws1 hws => ?_
  have HS1 : St w [(bk2, 28, #[.bool false, .string ⟨#[]⟩, .string ⟨#[]⟩]), (bk3, 28, RC y), (bk4, 28, #[.bool false, .string ⟨#[]⟩, .string ⟨#[]⟩])] ws1 := hws.list3 (by first | exact rS | exact rN (by assumption) (rS) | exact rN (by assumption) (rN (by assumption) (rS)) | exact rN (by assumption) (rN (by assumption) (rN (by assumption) (rS))) | exact rN (by assumption) (rN (by assumption) (rN (by assumption) (rN (by assumption) (rS))))) (by first | exact rS | exact rN (by assumption) (rS) | exact rN (by assumption) (rN (by assumption) (rS)) | exact rN (by assumption) (rN (by assumption) (rN (by assumption) (rS))) | exact rN (by assumption) (rN (by assumption) (rN (by assumption) (rN (by assumption) (rS))))) (by first | exact rS | exact rN (by assumption) (rS) | exact rN (by assumption) (rN (by assumption) (rS)) | exact rN (by assumption) (rN (by assumption) (rN (by assumption) (rS))) | exact rN (by assumption) (rN (by assumption) (rN (by assumption) (rN (by assumption) (rS))))) (by assumption) (by assumption) (by assumption)
  clear HS hws
  go_upto_region 1 with (fail)
  have HPbk3 : St w [(bk3, 28, RC y), (bk2, 28, #[.bool false, .string ⟨#[]⟩, .string ⟨#[]⟩]), (bk4, 28, #[.bool false, .string ⟨#[]⟩, .string ⟨#[]⟩])] _ := St.perm HS1 (List.perm_middle (l₁ := ([(bk2, 28, #[.bool false, .string ⟨#[]⟩, .string ⟨#[]⟩])] : List Own)))
  have HPbk2 : St w [(bk2, 28, #[.bool false, .string ⟨#[]⟩, .string ⟨#[]⟩]), (bk3, 28, RC y), (bk4, 28, #[.bool false, .string ⟨#[]⟩, .string ⟨#[]⟩])] _ := St.perm HPbk3 (List.perm_middle (l₁ := ([(bk3, 28, RC y)] : List Own)))
  refine wp_seq [0, 4] (by kernel_rfl) (by kernel_rfl) (Reg.fin.put (Reg.fin.put Reg.fin_no _ _) _ _) (StR.move (StR.move (StR.no HPbk2))) ?_
  refine Seq.get rfl rfl rfl rfl (by first | exact rS | exact rN (by assumption) (rS) | exact rN (by assumption) (rN (by assumption) (rS)) | exact rN (by assumption) (rN (by assumption) (rN (by assumption) (rS))) | exact rN (by assumption) (rN (by assumption) (rN (by assumption) (rN (by assumption) (rS))))) (n := 3) rfl (by kernel_rfl) ?_
  simp only [Act.put, setIfInBounds_toArray, set_cons_zero, set_cons_succ]
  refine Seq.call rfl rfl rfl rfl (by kernel_rfl) (fitz_q HZ.out) ?_
  simp only [Act.put, setIfInBounds_toArray, set_cons_zero, set_cons_succ]
  refine Seq.get rfl rfl rfl rfl (by first | exact rS | exact rN (by assumption) (rS) | exact rN (by assumption) (rN (by assumption) (rS)) | exact rN (by assumption) (rN (by assumption) (rN (by assumption) (rS))) | exact rN (by assumption) (rN (by assumption) (rN (by assumption) (rN (by assumption) (rS))))) (n := 3) rfl (by kernel_rfl) ?_
  simp only [Act.put, setIfInBounds_toArray, set_cons_zero, set_cons_succ]
  refine Seq.call rfl rfl rfl rfl (by kernel_rfl) (fit_q (k := k) HT.out Z_y.out (by omega)) ?_
  simp only [Act.put, setIfInBounds_toArray, set_cons_zero, set_cons_succ]
  refine Seq.store rfl rfl rfl rfl rfl (by first | exact rS | exact rN (by assumption) (rS) | exact rN (by assumption) (rN (by assumption) (rS)) | exact rN (by assumption) (rN (by assumption) (rN (by assumption) (rS))) | exact rN (by assumption) (rN (by assumption) (rN (by assumption) (rN (by assumption) (rS))))) (n := 3) rfl rfl (by kernel_rfl) (RC_one _) ?_
  simp only [Act.put, setIfInBounds_toArray, set_cons_zero, set_cons_succ]
  refine Seq.store rfl rfl rfl rfl rfl (by first | exact rS | exact rN (by assumption) (rS) | exact rN (by assumption) (rN (by assumption) (rS)) | exact rN (by assumption) (rN (by assumption) (rN (by assumption) (rS))) | exact rN (by assumption) (rN (by assumption) (rN (by assumption) (rN (by assumption) (rS))))) (n := 3) rfl rfl (by kernel_rfl) (RC_one _) ?_
  simp only [Act.put, setIfInBounds_toArray, set_cons_zero, set_cons_succ]
  refine Seq.done fun ws2 hws => ?_
  have HS2 : St w [(bk2, 28, RC z), (bk3, 28, RC y), (bk4, 28, #[.bool false, .string ⟨#[]⟩, .string ⟨#[]⟩])] ws2 := hws.list2 (by first | exact rS | exact rN (by assumption) (rS) | exact rN (by assumption) (rN (by assumption) (rS)) | exact rN (by assumption) (rN (by assumption) (rN (by assumption) (rS))) | exact rN (by assumption) (rN (by assumption) (rN (by assumption) (rN (by assumption) (rS))))) (by first | exact rS | exact rN (by assumption) (rS) | exact rN (by assumption) (rN (by assumption) (rS)) | exact rN (by assumption) (rN (by assumption) (rN (by assumption) (rS))) | exact rN (by assumption) (rN (by assumption) (rN (by assumption) (rN (by assumption) (rS))))) (by assumption)
  clear HS1 hws HPbk3 HPbk2
  go_upto_region 2 with (fail)
  refine wp_seq_text [] (StR.no HS2) ?_
  refine Seq.pure (v := .pointer (some ⟨bk2, 2, none⟩)) rfl rfl (by intro w; go_simp; try first | with_reducible rfl | rfl) ?_
  simp only [Act.put, setIfInBounds_toArray, set_cons_zero, set_cons_succ]
  refine Seq.loadCell rfl rfl rfl rfl (by repeat (first | exact mC | apply mT)) (v := .string (S (Rat.den z))) (by first | rfl | (simp [VC, TC, FC, BC, RC]; done)) (by kernel_rfl) rfl ?_
  simp only [Act.put, setIfInBounds_toArray, set_cons_zero, set_cons_succ]
  refine Seq.pure (v := .pointer (some ⟨bk3, 2, none⟩)) rfl rfl (by intro w; go_simp; try first | with_reducible rfl | rfl) ?_
  simp only [Act.put, setIfInBounds_toArray, set_cons_zero, set_cons_succ]
  refine Seq.loadCell rfl rfl rfl rfl (by repeat (first | exact mC | apply mT)) (v := .string (S (Rat.den y))) (by first | rfl | (simp [VC, TC, FC, BC, RC]; done)) (by kernel_rfl) rfl ?_
  simp only [Act.put, setIfInBounds_toArray, set_cons_zero, set_cons_succ]
  refine Seq.pure (v := .bool false) rfl rfl (by intro w; go_simp <;> (first | (rw [HDN.out]; done) | exact HDN.out | (simp [HDN.out]; done) | (trace_state; done))) ?_
  simp only [Act.put, setIfInBounds_toArray, set_cons_zero, set_cons_succ]
  refine Seq.done fun ws3 hws => ?_
  have HS3 := hws.st
  clear HS2 hws
  go_upto_region 5 with (fail)
  refine wp_seq [] (by kernel_rfl) (by kernel_rfl) Reg.fin_no (StR.no HS3) ?_
  refine Seq.pure (v := .pointer (some ⟨bk2, 0, none⟩)) rfl rfl (by intro w; go_simp; try first | with_reducible rfl | rfl) ?_
  simp only [Act.put, setIfInBounds_toArray, set_cons_zero, set_cons_succ]
  refine Seq.loadCell rfl rfl rfl rfl (by repeat (first | exact mC | apply mT)) (v := .bool (decide (Rat.num z < 0))) (by first | rfl | (simp [VC, TC, FC, BC, RC]; done)) (by kernel_rfl) rfl ?_
  simp only [Act.put, setIfInBounds_toArray, set_cons_zero, set_cons_succ]
  refine Seq.pure (v := .pointer (some ⟨bk2, 1, none⟩)) rfl rfl (by intro w; go_simp; try first | with_reducible rfl | rfl) ?_
  simp only [Act.put, setIfInBounds_toArray, set_cons_zero, set_cons_succ]
  refine Seq.loadCell rfl rfl rfl rfl (by repeat (first | exact mC | apply mT)) (v := .string (S (Rat.num z).natAbs)) (by first | rfl | (simp [VC, TC, FC, BC, RC]; done)) (by kernel_rfl) rfl ?_
  simp only [Act.put, setIfInBounds_toArray, set_cons_zero, set_cons_succ]
  refine Seq.pure (v := .pointer (some ⟨bk3, 2, none⟩)) rfl rfl (by intro w; go_simp; try first | with_reducible rfl | rfl) ?_
  simp only [Act.put, setIfInBounds_toArray, set_cons_zero, set_cons_succ]
  refine Seq.loadCell rfl rfl rfl rfl (by repeat (first | exact mC | apply mT)) (v := .string (S (Rat.den y))) (by first | rfl | (simp [VC, TC, FC, BC, RC]; done)) (by kernel_rfl) rfl ?_
  simp only [Act.put, setIfInBounds_toArray, set_cons_zero, set_cons_succ]
  refine Seq.call rfl rfl rfl rfl (by kernel_rfl) (fun w h => mul_S (Rat.num z).natAbs (Rat.den y) w (Nat.le_trans Z_z.out.1 (by omega)) (Nat.le_trans Z_y.out.2 (by omega))) ?_
  simp only [Act.put, setIfInBounds_toArray, set_cons_zero, set_cons_succ]
  refine Seq.pure (v := .pointer (some ⟨bk3, 0, none⟩)) rfl rfl (by intro w; go_simp; try first | with_reducible rfl | rfl) ?_
  simp only [Act.put, setIfInBounds_toArray, set_cons_zero, set_cons_succ]
  refine Seq.loadCell rfl rfl rfl rfl (by repeat (first | exact mC | apply mT)) (v := .bool (decide (Rat.num y < 0))) (by first | rfl | (simp [VC, TC, FC, BC, RC]; done)) (by kernel_rfl) rfl ?_
  simp only [Act.put, setIfInBounds_toArray, set_cons_zero, set_cons_succ]
  refine Seq.pure (v := .pointer (some ⟨bk3, 1, none⟩)) rfl rfl (by intro w; go_simp; try first | with_reducible rfl | rfl) ?_
  simp only [Act.put, setIfInBounds_toArray, set_cons_zero, set_cons_succ]
  refine Seq.loadCell rfl rfl rfl rfl (by repeat (first | exact mC | apply mT)) (v := .string (S (Rat.num y).natAbs)) (by first | rfl | (simp [VC, TC, FC, BC, RC]; done)) (by kernel_rfl) rfl ?_
  simp only [Act.put, setIfInBounds_toArray, set_cons_zero, set_cons_succ]
  refine Seq.pure (v := .pointer (some ⟨bk2, 2, none⟩)) rfl rfl (by intro w; go_simp; try first | with_reducible rfl | rfl) ?_
  simp only [Act.put, setIfInBounds_toArray, set_cons_zero, set_cons_succ]
  refine Seq.loadCell rfl rfl rfl rfl (by repeat (first | exact mC | apply mT)) (v := .string (S (Rat.den z))) (by first | rfl | (simp [VC, TC, FC, BC, RC]; done)) (by kernel_rfl) rfl ?_
  simp only [Act.put, setIfInBounds_toArray, set_cons_zero, set_cons_succ]
  refine Seq.call rfl rfl rfl rfl (by kernel_rfl) (fun w h => mul_S (Rat.num y).natAbs (Rat.den z) w (Nat.le_trans Z_y.out.1 (by omega)) (Nat.le_trans Z_z.out.2 (by omega))) ?_
  simp only [Act.put, setIfInBounds_toArray, set_cons_zero, set_cons_succ]
  refine Seq.call rfl rfl rfl rfl (by kernel_rfl) (signedN_q (k := k + 2) HN2.out HB2.out HZ2.out (by omega)) ?_
  simp only [Act.put, setIfInBounds_toArray, set_cons_zero, set_cons_succ]
  refine Seq.pure rfl rfl (by intro w; go_simp; try first | with_reducible rfl | rfl) ?_
  simp only [Act.put, setIfInBounds_toArray, set_cons_zero, set_cons_succ]
  refine Seq.pure (v := .bool (decide (Rat.num y < 0))) rfl rfl (fun w => rfl) ?_
  simp only [Act.put, setIfInBounds_toArray, set_cons_zero, set_cons_succ]
  refine Seq.pure (v := .string (S ((Rat.num y).natAbs * Rat.den z))) rfl rfl (fun w => rfl) ?_
  simp only [Act.put, setIfInBounds_toArray, set_cons_zero, set_cons_succ]
  refine Seq.pure rfl rfl (by intro w; go_simp; try first | with_reducible rfl | rfl) ?_
  simp only [Act.put, setIfInBounds_toArray, set_cons_zero, set_cons_succ]
  refine Seq.pure rfl rfl (by intro w; go_simp; try first | with_reducible rfl | rfl) ?_
  simp only [Act.put, setIfInBounds_toArray, set_cons_zero, set_cons_succ]
  refine Seq.done fun ws4 hws => ?_
  have HS4 := hws.st
  clear HS3 hws
  go_upto_region 6 with (fail)
  have HPbk4 : St w [(bk4, 28, #[.bool false, .string ⟨#[]⟩, .string ⟨#[]⟩]), (bk2, 28, RC z), (bk3, 28, RC y)] _ := St.perm HS4 (List.perm_middle (l₁ := ([(bk2, 28, RC z), (bk3, 28, RC y)] : List Own)))
  refine wp_seq_text [] (StR.move (StR.no HPbk4)) ?_
  refine Seq.pure rfl rfl (by intro w; go_simp; try first | with_reducible rfl | rfl) ?_
  simp only [Act.put, setIfInBounds_toArray, set_cons_zero, set_cons_succ]
  refine Seq.pure rfl rfl (by intro w; go_simp; try first | with_reducible rfl | rfl) ?_
  simp only [Act.put, setIfInBounds_toArray, set_cons_zero, set_cons_succ]
  refine Seq.pure (v := .pointer (some ⟨bk2, 2, none⟩)) rfl rfl (by intro w; go_simp; try first | with_reducible rfl | rfl) ?_
  simp only [Act.put, setIfInBounds_toArray, set_cons_zero, set_cons_succ]
  refine Seq.loadCell rfl rfl rfl rfl (by repeat (first | exact mC | apply mT)) (v := .string (S (Rat.den z))) (by first | rfl | (simp [VC, TC, FC, BC, RC]; done)) (by kernel_rfl) rfl ?_
  simp only [Act.put, setIfInBounds_toArray, set_cons_zero, set_cons_succ]
  refine Seq.pure (v := .pointer (some ⟨bk3, 2, none⟩)) rfl rfl (by intro w; go_simp; try first | with_reducible rfl | rfl) ?_
  simp only [Act.put, setIfInBounds_toArray, set_cons_zero, set_cons_succ]
  refine Seq.loadCell rfl rfl rfl rfl (by repeat (first | exact mC | apply mT)) (v := .string (S (Rat.den y))) (by first | rfl | (simp [VC, TC, FC, BC, RC]; done)) (by kernel_rfl) rfl ?_
  simp only [Act.put, setIfInBounds_toArray, set_cons_zero, set_cons_succ]
  refine Seq.call rfl rfl rfl rfl (by kernel_rfl) (fun w h => mul_S (Rat.den z) (Rat.den y) w (Nat.le_trans Z_z.out.2 (by omega)) (Nat.le_trans Z_y.out.2 (by omega))) ?_
  simp only [Act.put, setIfInBounds_toArray, set_cons_zero, set_cons_succ]
  refine Seq.call rfl rfl rfl rfl (by kernel_rfl) (made_q (k := k + 2) (decide (Rat.num y < 0)) ((Rat.num y).natAbs * Rat.den z) (Rat.den z * Rat.den y) HT.out HDD.out HZ2.out HZ3.out (by omega) (mk_back2 HZ.out)) ?_
  simp only [Act.put, setIfInBounds_toArray, set_cons_zero, set_cons_succ]
  refine Seq.store rfl rfl rfl rfl rfl (by first | exact rS | exact rN (by assumption) (rS) | exact rN (by assumption) (rN (by assumption) (rS)) | exact rN (by assumption) (rN (by assumption) (rN (by assumption) (rS))) | exact rN (by assumption) (rN (by assumption) (rN (by assumption) (rN (by assumption) (rS))))) (n := 3) rfl rfl (by kernel_rfl) (RC_one _) ?_
  simp only [Act.put, setIfInBounds_toArray, set_cons_zero, set_cons_succ]
  refine Seq.done fun ws5 hws => ?_
  have HS5 : St w [(bk4, 28, RC y), (bk2, 28, RC z), (bk3, 28, RC y)] ws5 := hws.list1 (by first | exact rS | exact rN (by assumption) (rS) | exact rN (by assumption) (rN (by assumption) (rS)) | exact rN (by assumption) (rN (by assumption) (rN (by assumption) (rS))) | exact rN (by assumption) (rN (by assumption) (rN (by assumption) (rN (by assumption) (rS)))))
  clear HS4 hws HPbk4
  go_wp2_with fail
  exact ret_own rfl rfl rfl HS5 (by repeat (first | exact mC | apply mT)) (n := 3) rfl (by kernel_rfl) ⟨rfl, HS5.below⟩
set_option maxHeartbeats 2000000 in
set_option maxRecDepth 20000 in
theorem addz0_q {W : World} {l : List Own} (hT : Tab W) (w : World) (h : St W l w) :
    Calls Tryd.prog 54 #[.agg #[.bool false, .string ⟨#[]⟩, .string ⟨#[]⟩], .agg (RC 0)] w fun e w' => e = .returned (.agg (RC 0)) ∧ Below w.heap.size w w' := by
  have HT := Lib.hid (tabS hT h); clear hT h
  have HZ := Lib.hid (show Sz 2 (Rat.num 0).natAbs from by unfold Sz; decide)
  have HZ1 := Lib.hid (show Sz 2 (Rat.den 0) from by unfold Sz; decide)
  go_enter Tryd.func54, Tryd.ntmps54
  have HS : St w [] w := St.start
  go_upto_region 0 with (fail)
  refine wp_seq_text [] (StR.no HS) ?_
  refine Seq.box rfl rfl rfl (v := .agg (#[.bool false, .string ⟨#[]⟩, .string ⟨#[]⟩])) (cs := #[.bool false, .string ⟨#[]⟩, .string ⟨#[]⟩]) rfl rfl ?_
  intro bk2 _ _ hbk2_r
  simp only [Act.put, setIfInBounds_toArray, set_cons_zero, set_cons_succ]
  refine Seq.box rfl rfl rfl (v := .agg (RC (0 : Rat))) (cs := RC (0 : Rat)) rfl rfl ?_
  intro bk3 _ _ hbk3_r
  obtain ⟨ne_bk3_bk2, hbk3_r⟩ := Reg.ne_of_put hbk3_r
  have ne_bk2_bk3 := Ne.symm ne_bk3_bk2
  simp only [Act.put, setIfInBounds_toArray, set_cons_zero, set_cons_succ]
  refine Seq.alloc rfl rfl rfl (z := .agg #[.bool false, .string ⟨#[]⟩, .string ⟨#[]⟩]) (by kernel_rfl) rfl ?_
  intro bk4 _ _ hbk4_r
  obtain ⟨ne_bk4_bk3, hbk4_r⟩ := Reg.ne_of_put hbk4_r
  have ne_bk3_bk4 := Ne.symm ne_bk4_bk3
  obtain ⟨ne_bk4_bk2, hbk4_r⟩ := Reg.ne_of_put hbk4_r
  have ne_bk2_bk4 := Ne.symm ne_bk4_bk2
  simp only [Act.put, setIfInBounds_toArray, set_cons_zero, set_cons_succ]
  refine Seq.done fun ws1 hws => ?_
  have HS1 : St w [(bk2, 28, #[.bool false, .string ⟨#[]⟩, .string ⟨#[]⟩]), (bk3, 28, RC (0 : Rat)), (bk4, 28, #[.bool false, .string ⟨#[]⟩, .string ⟨#[]⟩])] ws1 := hws.list3 (by first | exact rS | exact rN (by assumption) (rS) | exact rN (by assumption) (rN (by assumption) (rS)) | exact rN (by assumption) (rN (by assumption) (rN (by assumption) (rS))) | exact rN (by assumption) (rN (by assumption) (rN (by assumption) (rN (by assumption) (rS))))) (by first | exact rS | exact rN (by assumption) (rS) | exact rN (by assumption) (rN (by assumption) (rS)) | exact rN (by assumption) (rN (by assumption) (rN (by assumption) (rS))) | exact rN (by assumption) (rN (by assumption) (rN (by assumption) (rN (by assumption) (rS))))) (by first | exact rS | exact rN (by assumption) (rS) | exact rN (by assumption) (rN (by assumption) (rS)) | exact rN (by assumption) (rN (by assumption) (rN (by assumption) (rS))) | exact rN (by assumption) (rN (by assumption) (rN (by assumption) (rN (by assumption) (rS))))) (by assumption) (by assumption) (by assumption)
  clear HS hws
  go_upto_region 1 with (fail)
  have HPbk3 : St w [(bk3, 28, RC (0 : Rat)), (bk2, 28, #[.bool false, .string ⟨#[]⟩, .string ⟨#[]⟩]), (bk4, 28, #[.bool false, .string ⟨#[]⟩, .string ⟨#[]⟩])] _ := St.perm HS1 (List.perm_middle (l₁ := ([(bk2, 28, #[.bool false, .string ⟨#[]⟩, .string ⟨#[]⟩])] : List Own)))
  have HPbk2 : St w [(bk2, 28, #[.bool false, .string ⟨#[]⟩, .string ⟨#[]⟩]), (bk3, 28, RC (0 : Rat)), (bk4, 28, #[.bool false, .string ⟨#[]⟩, .string ⟨#[]⟩])] _ := St.perm HPbk3 (List.perm_middle (l₁ := ([(bk3, 28, RC (0 : Rat))] : List Own)))
  refine wp_seq [0, 4] (by kernel_rfl) (by kernel_rfl) (Reg.fin.put (Reg.fin.put Reg.fin_no _ _) _ _) (StR.move (StR.move (StR.no HPbk2))) ?_
  refine Seq.get rfl rfl rfl rfl (by first | exact rS | exact rN (by assumption) (rS) | exact rN (by assumption) (rN (by assumption) (rS)) | exact rN (by assumption) (rN (by assumption) (rN (by assumption) (rS))) | exact rN (by assumption) (rN (by assumption) (rN (by assumption) (rN (by assumption) (rS))))) (n := 3) rfl (by kernel_rfl) ?_
  simp only [Act.put, setIfInBounds_toArray, set_cons_zero, set_cons_succ]
  refine Seq.call rfl rfl rfl rfl (by kernel_rfl) (fitraw_q) ?_
  simp only [Act.put, setIfInBounds_toArray, set_cons_zero, set_cons_succ]
  refine Seq.get rfl rfl rfl rfl (by first | exact rS | exact rN (by assumption) (rS) | exact rN (by assumption) (rN (by assumption) (rS)) | exact rN (by assumption) (rN (by assumption) (rN (by assumption) (rS))) | exact rN (by assumption) (rN (by assumption) (rN (by assumption) (rN (by assumption) (rS))))) (n := 3) rfl (by kernel_rfl) ?_
  simp only [Act.put, setIfInBounds_toArray, set_cons_zero, set_cons_succ]
  refine Seq.call rfl rfl rfl rfl (by kernel_rfl) (fit_q (k := 2) HT.out Rz.zero2 (by omega)) ?_
  simp only [Act.put, setIfInBounds_toArray, set_cons_zero, set_cons_succ]
  refine Seq.store rfl rfl rfl rfl rfl (by first | exact rS | exact rN (by assumption) (rS) | exact rN (by assumption) (rN (by assumption) (rS)) | exact rN (by assumption) (rN (by assumption) (rN (by assumption) (rS))) | exact rN (by assumption) (rN (by assumption) (rN (by assumption) (rN (by assumption) (rS))))) (n := 3) rfl rfl (by kernel_rfl) (RC_one _) ?_
  simp only [Act.put, setIfInBounds_toArray, set_cons_zero, set_cons_succ]
  refine Seq.store rfl rfl rfl rfl rfl (by first | exact rS | exact rN (by assumption) (rS) | exact rN (by assumption) (rN (by assumption) (rS)) | exact rN (by assumption) (rN (by assumption) (rN (by assumption) (rS))) | exact rN (by assumption) (rN (by assumption) (rN (by assumption) (rN (by assumption) (rS))))) (n := 3) rfl rfl (by kernel_rfl) (RC_one _) ?_
  simp only [Act.put, setIfInBounds_toArray, set_cons_zero, set_cons_succ]
  refine Seq.done fun ws2 hws => ?_
  have HS2 : St w [(bk2, 28, RC (0 : Rat)), (bk3, 28, RC (0 : Rat)), (bk4, 28, #[.bool false, .string ⟨#[]⟩, .string ⟨#[]⟩])] ws2 := hws.list2 (by first | exact rS | exact rN (by assumption) (rS) | exact rN (by assumption) (rN (by assumption) (rS)) | exact rN (by assumption) (rN (by assumption) (rN (by assumption) (rS))) | exact rN (by assumption) (rN (by assumption) (rN (by assumption) (rN (by assumption) (rS))))) (by first | exact rS | exact rN (by assumption) (rS) | exact rN (by assumption) (rN (by assumption) (rS)) | exact rN (by assumption) (rN (by assumption) (rN (by assumption) (rS))) | exact rN (by assumption) (rN (by assumption) (rN (by assumption) (rN (by assumption) (rS))))) (by assumption)
  clear HS1 hws HPbk3 HPbk2
  go_upto_region 2 with (fail)
  refine wp_seq_text [] (StR.no HS2) ?_
  refine Seq.pure (v := .pointer (some ⟨bk2, 2, none⟩)) rfl rfl (by intro w; go_simp; try first | with_reducible rfl | rfl) ?_
  simp only [Act.put, setIfInBounds_toArray, set_cons_zero, set_cons_succ]
  refine Seq.loadCell rfl rfl rfl rfl (by repeat (first | exact mC | apply mT)) (v := .string (S (Rat.den (0 : Rat)))) (by first | rfl | (simp [VC, TC, FC, BC, RC]; done)) (by kernel_rfl) rfl ?_
  simp only [Act.put, setIfInBounds_toArray, set_cons_zero, set_cons_succ]
  refine Seq.pure (v := .pointer (some ⟨bk3, 2, none⟩)) rfl rfl (by intro w; go_simp; try first | with_reducible rfl | rfl) ?_
  simp only [Act.put, setIfInBounds_toArray, set_cons_zero, set_cons_succ]
  refine Seq.loadCell rfl rfl rfl rfl (by repeat (first | exact mC | apply mT)) (v := .string (S (Rat.den (0 : Rat)))) (by first | rfl | (simp [VC, TC, FC, BC, RC]; done)) (by kernel_rfl) rfl ?_
  simp only [Act.put, setIfInBounds_toArray, set_cons_zero, set_cons_succ]
  refine Seq.pure rfl rfl (by intro w; go_simp; try first | with_reducible rfl | rfl) ?_
  simp only [Act.put, setIfInBounds_toArray, set_cons_zero, set_cons_succ]
  refine Seq.done fun ws3 hws => ?_
  have HS3 := hws.st
  clear HS2 hws
  go_upto_region 3 with (fail)
  refine wp_seq_text [3000000] (StR.no HS3) ?_
  refine Seq.pure (v := .pointer (some ⟨bk2, 0, none⟩)) rfl rfl (by intro w; go_simp; try first | with_reducible rfl | rfl) ?_
  simp only [Act.put, setIfInBounds_toArray, set_cons_zero, set_cons_succ]
  refine Seq.loadCell rfl rfl rfl rfl (by repeat (first | exact mC | apply mT)) (v := .bool (decide (Rat.num (0 : Rat) < 0))) (by first | rfl | (simp [VC, TC, FC, BC, RC]; done)) (by kernel_rfl) rfl ?_
  simp only [Act.put, setIfInBounds_toArray, set_cons_zero, set_cons_succ]
  refine Seq.pure (v := .pointer (some ⟨bk2, 1, none⟩)) rfl rfl (by intro w; go_simp; try first | with_reducible rfl | rfl) ?_
  simp only [Act.put, setIfInBounds_toArray, set_cons_zero, set_cons_succ]
  refine Seq.loadCell rfl rfl rfl rfl (by repeat (first | exact mC | apply mT)) (v := .string (S (Rat.num (0 : Rat)).natAbs)) (by first | rfl | (simp [VC, TC, FC, BC, RC]; done)) (by kernel_rfl) rfl ?_
  simp only [Act.put, setIfInBounds_toArray, set_cons_zero, set_cons_succ]
  refine Seq.pure (v := .pointer (some ⟨bk3, 0, none⟩)) rfl rfl (by intro w; go_simp; try first | with_reducible rfl | rfl) ?_
  simp only [Act.put, setIfInBounds_toArray, set_cons_zero, set_cons_succ]
  refine Seq.loadCell rfl rfl rfl rfl (by repeat (first | exact mC | apply mT)) (v := .bool (decide (Rat.num (0 : Rat) < 0))) (by first | rfl | (simp [VC, TC, FC, BC, RC]; done)) (by kernel_rfl) rfl ?_
  simp only [Act.put, setIfInBounds_toArray, set_cons_zero, set_cons_succ]
  refine Seq.pure (v := .pointer (some ⟨bk3, 1, none⟩)) rfl rfl (by intro w; go_simp; try first | with_reducible rfl | rfl) ?_
  simp only [Act.put, setIfInBounds_toArray, set_cons_zero, set_cons_succ]
  refine Seq.loadCell rfl rfl rfl rfl (by repeat (first | exact mC | apply mT)) (v := .string (S (Rat.num (0 : Rat)).natAbs)) (by first | rfl | (simp [VC, TC, FC, BC, RC]; done)) (by kernel_rfl) rfl ?_
  simp only [Act.put, setIfInBounds_toArray, set_cons_zero, set_cons_succ]
  refine Seq.callE rfl rfl rfl rfl (by kernel_rfl) (fun w2 h2 => (signed_R _ _ _ _ 2 2 w2 HZ.out HZ.out (by omega) (by omega)).mono ?_)
  rintro e w3 ⟨⟨u_, n_, rfl, hsg⟩, hb_⟩
  refine ⟨_, _, rfl, h2.next hb_, ?_⟩
  have HSG := Lib.hid (sg_zero_n hsg); clear hsg hb_ h2
  simp only [Act.put, setIfInBounds_toArray, set_cons_zero, set_cons_succ]
  refine Seq.pure rfl rfl (by intro w; go_simp; try first | with_reducible rfl | rfl) ?_
  simp only [Act.put, setIfInBounds_toArray, set_cons_zero, set_cons_succ]
  refine Seq.pure (v := .bool u_) rfl rfl (fun w => rfl) ?_
  simp only [Act.put, setIfInBounds_toArray, set_cons_zero, set_cons_succ]
  refine Seq.pure (v := .string (S n_)) rfl rfl (fun w => rfl) ?_
  simp only [Act.put, setIfInBounds_toArray, set_cons_zero, set_cons_succ]
  refine Seq.pure rfl rfl (by intro w; go_simp; try first | with_reducible rfl | rfl) ?_
  simp only [Act.put, setIfInBounds_toArray, set_cons_zero, set_cons_succ]
  refine Seq.pure rfl rfl (by intro w; go_simp; try first | with_reducible rfl | rfl) ?_
  simp only [Act.put, setIfInBounds_toArray, set_cons_zero, set_cons_succ]
  refine Seq.done fun ws4 hws => ?_
  have HS4 := hws.st
  clear HS3 hws
  go_upto_region 4 with (fail)
  have HPbk4 : St w [(bk4, 28, #[.bool false, .string ⟨#[]⟩, .string ⟨#[]⟩]), (bk2, 28, RC (0 : Rat)), (bk3, 28, RC (0 : Rat))] _ := St.perm HS4 (List.perm_middle (l₁ := ([(bk2, 28, RC (0 : Rat)), (bk3, 28, RC (0 : Rat))] : List Own)))
  refine wp_seq_text [] (StR.move (StR.no HPbk4)) ?_
  refine Seq.pure rfl rfl (by intro w; go_simp; try first | with_reducible rfl | rfl) ?_
  simp only [Act.put, setIfInBounds_toArray, set_cons_zero, set_cons_succ]
  refine Seq.pure rfl rfl (by intro w; go_simp; try first | with_reducible rfl | rfl) ?_
  simp only [Act.put, setIfInBounds_toArray, set_cons_zero, set_cons_succ]
  refine Seq.pure (v := .pointer (some ⟨bk2, 2, none⟩)) rfl rfl (by intro w; go_simp; try first | with_reducible rfl | rfl) ?_
  simp only [Act.put, setIfInBounds_toArray, set_cons_zero, set_cons_succ]
  refine Seq.loadCell rfl rfl rfl rfl (by repeat (first | exact mC | apply mT)) (v := .string (S (Rat.den (0 : Rat)))) (by first | rfl | (simp [VC, TC, FC, BC, RC]; done)) (by kernel_rfl) rfl ?_
  simp only [Act.put, setIfInBounds_toArray, set_cons_zero, set_cons_succ]
  refine Seq.call rfl rfl rfl rfl (by kernel_rfl) (made_q (k := 2) u_ n_ (Rat.den 0) HT.out (by decide) HSG.out.1 HZ1.out (by omega) HSG.out.2) ?_
  simp only [Act.put, setIfInBounds_toArray, set_cons_zero, set_cons_succ]
  refine Seq.store rfl rfl rfl rfl rfl (by first | exact rS | exact rN (by assumption) (rS) | exact rN (by assumption) (rN (by assumption) (rS)) | exact rN (by assumption) (rN (by assumption) (rN (by assumption) (rS))) | exact rN (by assumption) (rN (by assumption) (rN (by assumption) (rN (by assumption) (rS))))) (n := 3) rfl rfl (by kernel_rfl) (RC_one _) ?_
  simp only [Act.put, setIfInBounds_toArray, set_cons_zero, set_cons_succ]
  refine Seq.done fun ws5 hws => ?_
  have HS5 : St w [(bk4, 28, RC (0 : Rat)), (bk2, 28, RC (0 : Rat)), (bk3, 28, RC (0 : Rat))] ws5 := hws.list1 (by first | exact rS | exact rN (by assumption) (rS) | exact rN (by assumption) (rN (by assumption) (rS)) | exact rN (by assumption) (rN (by assumption) (rN (by assumption) (rS))) | exact rN (by assumption) (rN (by assumption) (rN (by assumption) (rN (by assumption) (rS)))))
  clear HS4 hws HPbk4
  go_wp2_with fail
  exact ret_own rfl rfl rfl HS5 (by repeat (first | exact mC | apply mT)) (n := 3) rfl (by kernel_rfl) ⟨rfl, HS5.below⟩
theorem addz_q {k : Nat} {y : Rat} {W : World} {l : List Own} (hT : Tab W) (Zy : Rz k y) (hk : k ≤ 4398046511104) (w : World) (h : St W l w) :
    Calls Tryd.prog 54 #[.agg #[.bool false, .string ⟨#[]⟩, .string ⟨#[]⟩], .agg (RC y)] w fun e w' => e = .returned (.agg (RC y)) ∧ Below w.heap.size w w' := by
  by_cases hy : y = 0
  · subst hy; exact addz0_q hT w h
  · by_cases hd : Rat.den y = 1
    · exact addz1_q hT Zy hy hd hk w h
    · exact addz2_q hT Zy hy hd hk w h
set_option maxHeartbeats 2000000 in
set_option maxRecDepth 20000 in
theorem subz_q {k : Nat} {y : Rat} {W : World} {l : List Own} (hT : Tab W) (Zy : Rz k y) (hk : k ≤ 1000000000) (w : World) (h : St W l w) :
    Calls Tryd.prog 52 #[.agg #[.bool false, .string ⟨#[]⟩, .string ⟨#[]⟩], .agg (RC y)] w fun e w' => e = .returned (.agg (RC (-y))) ∧ Below w.heap.size w w' := by
  have HT := Lib.hid (tabS hT h); clear hT h
  have Z_ny := Lib.hid Zy.neg
  have Z_y := Lib.hid Zy; clear Zy
  go_enter Tryd.func52, Tryd.ntmps52
  have HS : St w [] w := St.start
  go_upto_region 0 with (fail)
  refine wp_seq_text [] (StR.no HS) ?_
  refine Seq.box rfl rfl rfl (v := .agg (#[.bool false, .string ⟨#[]⟩, .string ⟨#[]⟩])) (cs := #[.bool false, .string ⟨#[]⟩, .string ⟨#[]⟩]) rfl rfl ?_
  intro bk2 _ _ hbk2_r
  simp only [Act.put, setIfInBounds_toArray, set_cons_zero, set_cons_succ]
  refine Seq.box rfl rfl rfl (v := .agg (RC y)) (cs := RC y) rfl rfl ?_
  intro bk3 _ _ hbk3_r
  obtain ⟨ne_bk3_bk2, hbk3_r⟩ := Reg.ne_of_put hbk3_r
  have ne_bk2_bk3 := Ne.symm ne_bk3_bk2
  simp only [Act.put, setIfInBounds_toArray, set_cons_zero, set_cons_succ]
  refine Seq.alloc rfl rfl rfl (z := .agg #[.bool false, .string ⟨#[]⟩, .string ⟨#[]⟩]) (by kernel_rfl) rfl ?_
  intro bk4 _ _ hbk4_r
  obtain ⟨ne_bk4_bk3, hbk4_r⟩ := Reg.ne_of_put hbk4_r
  have ne_bk3_bk4 := Ne.symm ne_bk4_bk3
  obtain ⟨ne_bk4_bk2, hbk4_r⟩ := Reg.ne_of_put hbk4_r
  have ne_bk2_bk4 := Ne.symm ne_bk4_bk2
  simp only [Act.put, setIfInBounds_toArray, set_cons_zero, set_cons_succ]
  refine Seq.done fun ws1 hws => ?_
  have HS1 : St w [(bk2, 28, #[.bool false, .string ⟨#[]⟩, .string ⟨#[]⟩]), (bk3, 28, RC y), (bk4, 28, #[.bool false, .string ⟨#[]⟩, .string ⟨#[]⟩])] ws1 := hws.list3 (by first | exact rS | exact rN (by assumption) (rS) | exact rN (by assumption) (rN (by assumption) (rS)) | exact rN (by assumption) (rN (by assumption) (rN (by assumption) (rS))) | exact rN (by assumption) (rN (by assumption) (rN (by assumption) (rN (by assumption) (rS))))) (by first | exact rS | exact rN (by assumption) (rS) | exact rN (by assumption) (rN (by assumption) (rS)) | exact rN (by assumption) (rN (by assumption) (rN (by assumption) (rS))) | exact rN (by assumption) (rN (by assumption) (rN (by assumption) (rN (by assumption) (rS))))) (by first | exact rS | exact rN (by assumption) (rS) | exact rN (by assumption) (rN (by assumption) (rS)) | exact rN (by assumption) (rN (by assumption) (rN (by assumption) (rS))) | exact rN (by assumption) (rN (by assumption) (rN (by assumption) (rN (by assumption) (rS))))) (by assumption) (by assumption) (by assumption)
  clear HS hws
  go_upto_region 1 with (fail)
  have HPbk4 : St w [(bk4, 28, #[.bool false, .string ⟨#[]⟩, .string ⟨#[]⟩]), (bk2, 28, #[.bool false, .string ⟨#[]⟩, .string ⟨#[]⟩]), (bk3, 28, RC y)] _ := St.perm HS1 (List.perm_middle (l₁ := ([(bk2, 28, #[.bool false, .string ⟨#[]⟩, .string ⟨#[]⟩]), (bk3, 28, RC y)] : List Own)))
  refine wp_seq [] (by kernel_rfl) (by kernel_rfl) (Reg.fin.put Reg.fin_no _ _) (StR.move (StR.no HPbk4)) ?_
  refine Seq.load rfl rfl rfl rfl (by repeat (first | exact mC | apply mT)) (n := 3) rfl (by kernel_rfl) ?_
  simp only [Act.put, setIfInBounds_toArray, set_cons_zero, set_cons_succ]
  refine Seq.load rfl rfl rfl rfl (by repeat (first | exact mC | apply mT)) (n := 3) rfl (by kernel_rfl) ?_
  simp only [Act.put, setIfInBounds_toArray, set_cons_zero, set_cons_succ]
  refine Seq.call rfl rfl rfl rfl (by kernel_rfl) (neg_q (k := (1 * k + 0)) HT.out (Z_y.out.more (by omega)) rfl (by omega)) ?_
  simp only [Act.put, setIfInBounds_toArray, set_cons_zero, set_cons_succ]
  refine Seq.call rfl rfl rfl rfl (by kernel_rfl) (addz_q (k := k) HT.out Z_ny.out (by omega)) ?_
  simp only [Act.put, setIfInBounds_toArray, set_cons_zero, set_cons_succ]
  refine Seq.store rfl rfl rfl rfl rfl (by first | exact rS | exact rN (by assumption) (rS) | exact rN (by assumption) (rN (by assumption) (rS)) | exact rN (by assumption) (rN (by assumption) (rN (by assumption) (rS))) | exact rN (by assumption) (rN (by assumption) (rN (by assumption) (rN (by assumption) (rS))))) (n := 3) rfl rfl (by kernel_rfl) (RC_one _) ?_
  simp only [Act.put, setIfInBounds_toArray, set_cons_zero, set_cons_succ]
  refine Seq.done fun ws2 hws => ?_
  have HS2 : St w [(bk4, 28, RC (-y)), (bk2, 28, #[.bool false, .string ⟨#[]⟩, .string ⟨#[]⟩]), (bk3, 28, RC y)] ws2 := hws.list1 (by first | exact rS | exact rN (by assumption) (rS) | exact rN (by assumption) (rN (by assumption) (rS)) | exact rN (by assumption) (rN (by assumption) (rN (by assumption) (rS))) | exact rN (by assumption) (rN (by assumption) (rN (by assumption) (rN (by assumption) (rS)))))
  clear HS1 hws HPbk4
  go_wp2_with fail
  exact ret_own rfl rfl rfl HS2 (by repeat (first | exact mC | apply mT)) (n := 3) rfl (by kernel_rfl) ⟨rfl, HS2.below⟩
set_option maxHeartbeats 2000000 in
set_option maxRecDepth 20000 in
theorem vsubz_q {k : Nat} {v1 v2 : Rat} {W : World} {l : List Own} (hT : Tab W) (Zv1 : Rz k v1) (Zv2 : Rz k v2) (hk : k ≤ 1000000000) (w : World) (h : St W l w) :
    Calls Tryd.prog 15 #[.agg (#[.bool false, .string ⟨#[]⟩, .string ⟨#[]⟩, .bool false, .string ⟨#[]⟩, .string ⟨#[]⟩]), .agg (VC v1 v2)] w fun e w' => e = .returned (.agg (VC (-v1) (-v2))) ∧ Below w.heap.size w w' := by
  have HT := Lib.hid (tabS hT h); clear hT h
  have Z_v1 := Lib.hid Zv1; clear Zv1
  have Z_v2 := Lib.hid Zv2; clear Zv2
  go_enter Tryd.func15, Tryd.ntmps15
  have HS : St w [] w := St.start
  go_upto_region 0 with (fail)
  refine wp_seq_text [] (StR.no HS) ?_
  refine Seq.box rfl rfl rfl (v := .agg (#[.bool false, .string ⟨#[]⟩, .string ⟨#[]⟩, .bool false, .string ⟨#[]⟩, .string ⟨#[]⟩])) (cs := #[.bool false, .string ⟨#[]⟩, .string ⟨#[]⟩, .bool false, .string ⟨#[]⟩, .string ⟨#[]⟩]) rfl rfl ?_
  intro bk2 _ _ hbk2_r
  simp only [Act.put, setIfInBounds_toArray, set_cons_zero, set_cons_succ]
  refine Seq.box rfl rfl rfl (v := .agg (VC v1 v2)) (cs := VC v1 v2) rfl rfl ?_
  intro bk3 _ _ hbk3_r
  obtain ⟨ne_bk3_bk2, hbk3_r⟩ := Reg.ne_of_put hbk3_r
  have ne_bk2_bk3 := Ne.symm ne_bk3_bk2
  simp only [Act.put, setIfInBounds_toArray, set_cons_zero, set_cons_succ]
  refine Seq.alloc rfl rfl rfl (z := .agg #[.bool false, .string ⟨#[]⟩, .string ⟨#[]⟩, .bool false, .string ⟨#[]⟩, .string ⟨#[]⟩]) (by kernel_rfl) rfl ?_
  intro bk4 _ _ hbk4_r
  obtain ⟨ne_bk4_bk3, hbk4_r⟩ := Reg.ne_of_put hbk4_r
  have ne_bk3_bk4 := Ne.symm ne_bk4_bk3
  obtain ⟨ne_bk4_bk2, hbk4_r⟩ := Reg.ne_of_put hbk4_r
  have ne_bk2_bk4 := Ne.symm ne_bk4_bk2
  simp only [Act.put, setIfInBounds_toArray, set_cons_zero, set_cons_succ]
  refine Seq.done fun ws1 hws => ?_
  have HS1 : St w [(bk2, 30, #[.bool false, .string ⟨#[]⟩, .string ⟨#[]⟩, .bool false, .string ⟨#[]⟩, .string ⟨#[]⟩]), (bk3, 30, VC v1 v2), (bk4, 30, #[.bool false, .string ⟨#[]⟩, .string ⟨#[]⟩, .bool false, .string ⟨#[]⟩, .string ⟨#[]⟩])] ws1 := hws.list3 (by first | exact rS | exact rN (by assumption) (rS) | exact rN (by assumption) (rN (by assumption) (rS)) | exact rN (by assumption) (rN (by assumption) (rN (by assumption) (rS))) | exact rN (by assumption) (rN (by assumption) (rN (by assumption) (rN (by assumption) (rS))))) (by first | exact rS | exact rN (by assumption) (rS) | exact rN (by assumption) (rN (by assumption) (rS)) | exact rN (by assumption) (rN (by assumption) (rN (by assumption) (rS))) | exact rN (by assumption) (rN (by assumption) (rN (by assumption) (rN (by assumption) (rS))))) (by first | exact rS | exact rN (by assumption) (rS) | exact rN (by assumption) (rN (by assumption) (rS)) | exact rN (by assumption) (rN (by assumption) (rN (by assumption) (rS))) | exact rN (by assumption) (rN (by assumption) (rN (by assumption) (rN (by assumption) (rS))))) (by assumption) (by assumption) (by assumption)
  clear HS hws
  go_upto_region 1 with (fail)
  have HPbk4 : St w [(bk4, 30, #[.bool false, .string ⟨#[]⟩, .string ⟨#[]⟩, .bool false, .string ⟨#[]⟩, .string ⟨#[]⟩]), (bk2, 30, #[.bool false, .string ⟨#[]⟩, .string ⟨#[]⟩, .bool false, .string ⟨#[]⟩, .string ⟨#[]⟩]), (bk3, 30, VC v1 v2)] _ := St.perm HS1 (List.perm_middle (l₁ := ([(bk2, 30, #[.bool false, .string ⟨#[]⟩, .string ⟨#[]⟩, .bool false, .string ⟨#[]⟩, .string ⟨#[]⟩]), (bk3, 30, VC v1 v2)] : List Own)))
  refine wp_seq [] (by kernel_rfl) (by kernel_rfl) (Reg.fin.put Reg.fin_no _ _) (StR.move (StR.no HPbk4)) ?_
  refine Seq.pure (v := .pointer (some ⟨bk2, 0, none⟩)) rfl rfl (by intro w; go_simp; try first | with_reducible rfl | rfl) ?_
  simp only [Act.put, setIfInBounds_toArray, set_cons_zero, set_cons_succ]
  refine Seq.loadAt rfl rfl rfl rfl (by repeat (first | exact mC | apply mT)) (n := 3) (cs' := #[.bool false, .string ⟨#[]⟩, .string ⟨#[]⟩]) (by first | decide | exact Nat.le_refl _ | (simp [VC, TC, FC, BC, RC]; done)) (by kernel_rfl) (by first | rfl | (simp [VC, TC, FC, BC, RC]; done)) ?_
  simp only [Act.put, setIfInBounds_toArray, set_cons_zero, set_cons_succ]
  refine Seq.pure (v := .pointer (some ⟨bk3, 0, none⟩)) rfl rfl (by intro w; go_simp; try first | with_reducible rfl | rfl) ?_
  simp only [Act.put, setIfInBounds_toArray, set_cons_zero, set_cons_succ]
  refine Seq.loadAt rfl rfl rfl rfl (by repeat (first | exact mC | apply mT)) (n := 3) (cs' := RC v1) (by first | decide | exact Nat.le_refl _ | (simp [VC, TC, FC, BC, RC]; done)) (by kernel_rfl) (by first | rfl | (simp [VC, TC, FC, BC, RC]; done)) ?_
  simp only [Act.put, setIfInBounds_toArray, set_cons_zero, set_cons_succ]
  refine Seq.call rfl rfl rfl rfl (by kernel_rfl) (subz_q (k := k) HT.out Z_v1.out (by omega)) ?_
  simp only [Act.put, setIfInBounds_toArray, set_cons_zero, set_cons_succ]
  refine Seq.pure (v := .pointer (some ⟨bk2, 3, none⟩)) rfl rfl (by intro w; go_simp; try first | with_reducible rfl | rfl) ?_
  simp only [Act.put, setIfInBounds_toArray, set_cons_zero, set_cons_succ]
  refine Seq.loadAt rfl rfl rfl rfl (by repeat (first | exact mC | apply mT)) (n := 3) (cs' := #[.bool false, .string ⟨#[]⟩, .string ⟨#[]⟩]) (by first | decide | exact Nat.le_refl _ | (simp [VC, TC, FC, BC, RC]; done)) (by kernel_rfl) (by first | rfl | (simp [VC, TC, FC, BC, RC]; done)) ?_
  simp only [Act.put, setIfInBounds_toArray, set_cons_zero, set_cons_succ]
  refine Seq.pure (v := .pointer (some ⟨bk3, 3, none⟩)) rfl rfl (by intro w; go_simp; try first | with_reducible rfl | rfl) ?_
  simp only [Act.put, setIfInBounds_toArray, set_cons_zero, set_cons_succ]
  refine Seq.loadAt rfl rfl rfl rfl (by repeat (first | exact mC | apply mT)) (n := 3) (cs' := RC v2) (by first | decide | exact Nat.le_refl _ | (simp [VC, TC, FC, BC, RC]; done)) (by kernel_rfl) (by first | rfl | (simp [VC, TC, FC, BC, RC]; done)) ?_
  simp only [Act.put, setIfInBounds_toArray, set_cons_zero, set_cons_succ]
  refine Seq.call rfl rfl rfl rfl (by kernel_rfl) (subz_q (k := k) HT.out Z_v2.out (by omega)) ?_
  simp only [Act.put, setIfInBounds_toArray, set_cons_zero, set_cons_succ]
  refine Seq.pure (v := .agg (VC (-v1) (-v2))) rfl rfl (fun w => bld_Vec rfl rfl rfl w) ?_
  simp only [Act.put, setIfInBounds_toArray, set_cons_zero, set_cons_succ]
  refine Seq.store rfl rfl rfl rfl rfl (by first | exact rS | exact rN (by assumption) (rS) | exact rN (by assumption) (rN (by assumption) (rS)) | exact rN (by assumption) (rN (by assumption) (rN (by assumption) (rS))) | exact rN (by assumption) (rN (by assumption) (rN (by assumption) (rN (by assumption) (rS))))) (n := 6) rfl rfl (by kernel_rfl) (VC_one _ _) ?_
  simp only [Act.put, setIfInBounds_toArray, set_cons_zero, set_cons_succ]
  refine Seq.done fun ws2 hws => ?_
  have HS2 : St w [(bk4, 30, VC (-v1) (-v2)), (bk2, 30, #[.bool false, .string ⟨#[]⟩, .string ⟨#[]⟩, .bool false, .string ⟨#[]⟩, .string ⟨#[]⟩]), (bk3, 30, VC v1 v2)] ws2 := hws.list1 (by first | exact rS | exact rN (by assumption) (rS) | exact rN (by assumption) (rN (by assumption) (rS)) | exact rN (by assumption) (rN (by assumption) (rN (by assumption) (rS))) | exact rN (by assumption) (rN (by assumption) (rN (by assumption) (rN (by assumption) (rS)))))
  clear HS1 hws HPbk4
  go_wp2_with fail
  exact ret_own rfl rfl rfl HS2 (by repeat (first | exact mC | apply mT)) (n := 6) rfl (by kernel_rfl) ⟨rfl, HS2.below⟩
end Go.Proofs.YtbgifinfflehmaaDoor
