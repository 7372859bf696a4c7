/- Walks of package rat: Div (printed by ratgen.py). -/
import Derived.Test.YtlfddhiimcophaaDoorRatF
namespace Go.Proofs.YtlfddhiimcophaaDoor
open Go.RowKit
set_option linter.unusedVariables false
set_option linter.unusedSimpArgs false

theorem div_mk (x y : Rat) (hy : y.num ≠ 0) : mkRat (sg (decide (x.num < 0) != decide (y.num < 0)) (x.num.natAbs * y.den)) (x.den * y.num.natAbs) = x / y := by
  rw [Rat.div_def, Rat.mul_def', Rat.num_inv, Rat.den_inv, if_neg hy]
  congr 1
  rw [← Int.mul_assoc, sg_mul_nat]
  congr 1
  unfold sg
  by_cases h1 : x.num < 0 <;> by_cases h2 : y.num < 0
  · rw [if_neg (by simp [h1, h2]), Int.sign_eq_neg_one_of_neg h2]; omega
  · rw [if_pos (by simp [h1, h2]), Int.sign_eq_one_of_pos (by omega)]; omega
  · rw [if_pos (by simp [h1, h2]), Int.sign_eq_neg_one_of_neg h2]; omega
  · rw [if_neg (by simp [h1, h2]), Int.sign_eq_one_of_pos (by omega)]; omega
theorem made_D (x y : Rat) (k : Nat) {s1 s2 s3 b : Bool} {a1 d1 a2 d2 a3 d3 : ByteArray} (w : World) (h1 : RIs x s1 a1 d1) (h2 : RIs y s2 a2 d2) (h3 : RIs (x / y) s3 a3 d3) (hy0 : y.num ≠ 0) (h : Sz k (x.num.natAbs * y.den)) (h' : Sz k (x.den * y.num.natAbs)) (hk : k ≤ 35184372088832) (hT : Tab w) (hb : b = (s1 != s2)) :
    Calls Tryd.prog 58 #[.bool b, .string (S (x.num.natAbs * y.den)), .string (S (x.den * y.num.natAbs))] w fun e w' => e = .returned (.agg #[.bool s3, .string a3, .string d3]) ∧ Below w.heap.size w w' := by
  rw [← h3.val, ← div_mk x y hy0, hb, h1.s, h2.s]
  exact made_R _ _ _ k w (Nat.mul_ne_zero x.den_nz (by omega)) h h' hk hT

set_option maxHeartbeats 2000000 in
theorem div_R (k : Nat) (x y : Rat) (w : World) (hx : Rz k x) (hy : Rz k y) (hy0 : y ≠ 0) (hk : k ≤ 4398046511104) (hT : Tab w) :
    Calls Tryd.prog 30 #[R x, R y] w fun e w' => e = .returned (.tuple #[R (x / y), .int .i64 0]) ∧ Below w.heap.size w w' := by
  have hyn : y.num ≠ 0 := fun h => hy0 (Rat.num_eq_zero.1 h)
  have HZ := Lib.hid (And.intro (And.intro (show Sz k x.num.natAbs from hx.1) (show Sz k x.den from hx.2)) (And.intro (show Sz k y.num.natAbs from hy.1) (show Sz k y.den from hy.2)))
  have HH := Lib.hid (And.intro hx (And.intro hy hT)); clear hx hy hT
  obtain ⟨s1, a1, d1, h1⟩ := R_parts x
  obtain ⟨s2, a2, d2, h2⟩ := R_parts y
  obtain ⟨s3, a3, d3, h3⟩ := R_parts (x / y)
  rw [h1.val, h2.val, h3.val]
  have H3 := Lib.hid h3; clear h3
  have H1 := Lib.hid h1; clear h1
  have H2 := Lib.hid h2; clear h2
  have he := S_empty_of (show y.num.natAbs ≠ 0 by omega)
  rw [← H2.out.a] at he
  obtain ⟨W0, hW0⟩ : ∃ W0, W0 = (((w.alloc (.cells #[.bool s1, .string a1, .string d1] 35)).alloc (.cells #[.bool s2, .string a2, .string d2] 35)).alloc (.cells #[.bool false, .string ⟨#[]⟩, .string ⟨#[]⟩] 35)) := ⟨_, rfl⟩
  obtain ⟨HQ0, HZ0⟩ := q2_start w s1 a1 d1 s2 a2 d2
  rw [← hW0] at HQ0 HZ0
  have HW0 := Lib.hid hW0; clear hW0
  go_enter Tryd.func30, Tryd.ntmps30
  go_wp2_with fail
  rw [← HW0.out]
  obtain ⟨c0, c1, c2, c3, c4, c5, f0, f1, f2, f3, f4, f5⟩ := Q2.all HQ0
  go_cut [] (fun wc => Hid (Q2 w s1 a1 d1 s2 a2 d2 wc) ∧ Hid (QZ w wc))
  case first =>
    go_region_held3 (fun w' => w'.cell? ⟨w.heap.size, 0, none⟩ = some (.bool s1) ∧ w'.cell? ⟨w.heap.size, 1, none⟩ = some (.string a1) ∧ w'.cell? ⟨w.heap.size, 2, none⟩ = some (.string d1) ∧ w'.cell? ⟨w.heap.size + 1, 0, none⟩ = some (.bool s2) ∧ w'.cell? ⟨w.heap.size + 1, 1, none⟩ = some (.string a2) ∧ w'.cell? ⟨w.heap.size + 1, 2, none⟩ = some (.string d2) ∧ w'.frozen? ⟨w.heap.size, 0, none⟩ = false ∧ w'.frozen? ⟨w.heap.size, 1, none⟩ = false ∧ w'.frozen? ⟨w.heap.size, 2, none⟩ = false ∧ w'.frozen? ⟨w.heap.size + 1, 0, none⟩ = false ∧ w'.frozen? ⟨w.heap.size + 1, 1, none⟩ = false ∧ w'.frozen? ⟨w.heap.size + 1, 2, none⟩ = false)
      (first | (go_keep; done) | (with_reducible exact Q2.all (Q2.put0 hS4)) | (with_reducible exact Q2.all (Q2.put1 (Q2.put0 hS4))))
      (first
        | (go_at_call_of 56 (Value.agg #[Value.bool s1, Value.string a1, Value.string d1]); (with_reducible refine (fit_O k x s1 a1 d1 _ H1.out HH.out.1 (by omega) (HH.out.2.2.next (Hid.out (p := Q2 w s1 a1 d1 s2 a2 d2 _) (by first | assumption | exact Q2.drew (by assumption) | (go_split_ands; assumption))).below)).mono ?_); rintro e w3 ⟨rfl, hb3⟩; have hS3 := Q2.next (w := w) (s1 := s1) (a1 := a1) (d1 := d1) (s2 := s2) (a2 := a2) (d2 := d2) (by first | assumption | exact Q2.drew (by assumption) | (go_split_ands; assumption)) hb3; have hZ3 := QZ.next (w := w) (by first | assumption | exact QZ.drew (by assumption) | (go_split_ands; assumption)) hb3; obtain ⟨x30, x31, x32, x33, x34, x35, xf30, xf31, xf32, xf33, xf34, xf35⟩ := Q2.all hS3)
        | (go_at_call_of 56 (Value.agg #[Value.bool s2, Value.string a2, Value.string d2]); (with_reducible refine (fit_O k y s2 a2 d2 _ H2.out HH.out.2.1 (by omega) (HH.out.2.2.next (Hid.out (p := Q2 w s1 a1 d1 s2 a2 d2 _) (by first | assumption | exact Q2.drew (by assumption) | (go_split_ands; assumption))).below)).mono ?_); rintro e w4 ⟨rfl, hb4⟩; have hS4 := Q2.next (w := w) (s1 := s1) (a1 := a1) (d1 := d1) (s2 := s2) (a2 := a2) (d2 := d2) (by first | assumption | exact Q2.drew (by assumption) | (go_split_ands; assumption)) hb4; have hZ4 := QZ.next (w := w) (by first | assumption | exact QZ.drew (by assumption) | (go_split_ands; assumption)) hb4; obtain ⟨x40, x41, x42, x43, x44, x45, xf40, xf41, xf42, xf43, xf44, xf45⟩ := Q2.all hS4)
        | fail)
    all_goals
      go_wp2_with fail
      go_meet
      exact ⟨Q2.put1 (Q2.put0 hS4), QZ.put1 (QZ.put0 hZ4)⟩
  case rest =>
    clear c0 c1 c2 c3 c4 c5 f0 f1 f2 f3 f4 f5 HQ0 HZ0
    obtain ⟨HQ1, HZ1⟩ := hcut
    obtain ⟨c0, c1, c2, c3, c4, c5, -, -, -, -, -, -⟩ := Q2.all HQ1
    obtain ⟨z0, z1, z2, zf0, zf1, zf2⟩ := QZ.cells HZ1
    go_wp2_with fail
    go_region_held3 (fun w' => w'.cell? ⟨w.heap.size, 0, none⟩ = some (.bool s1) ∧ w'.cell? ⟨w.heap.size, 1, none⟩ = some (.string a1) ∧ w'.cell? ⟨w.heap.size, 2, none⟩ = some (.string d1) ∧ w'.cell? ⟨w.heap.size + 1, 0, none⟩ = some (.bool s2) ∧ w'.cell? ⟨w.heap.size + 1, 1, none⟩ = some (.string a2) ∧ w'.cell? ⟨w.heap.size + 1, 2, none⟩ = some (.string d2))
      (first | (go_keep; done) | (with_reducible exact Q2.six (Q2.put2 hS7)))
      (first
        | (go_at_call_of 20 (Value.string a1); (with_reducible refine (mul_G x.num.natAbs y.den k _ H1.out.a H2.out.d HZ.out.1.1 HZ.out.2.2 (by omega)).mono ?_); rintro e w4 ⟨rfl, hb4⟩; have hS4 := Q2.next (w := w) (s1 := s1) (a1 := a1) (d1 := d1) (s2 := s2) (a2 := a2) (d2 := d2) (by first | assumption | exact Q2.drew (by assumption) | (go_split_ands; assumption)) hb4; have hZ4 := QZ.next (w := w) (by first | assumption | exact QZ.drew (by assumption) | (go_split_ands; assumption)) hb4; obtain ⟨x40, x41, x42, x43, x44, x45, -, -, -, -, -, -⟩ := Q2.all hS4; obtain ⟨y40, y41, y42, yf40, yf41, yf42⟩ := QZ.cells hZ4)
        | (go_at_call_of 20 (Value.string d1); (with_reducible refine (mul_G x.den y.num.natAbs k _ H1.out.d H2.out.a HZ.out.1.2 HZ.out.2.1 (by omega)).mono ?_); rintro e w5 ⟨rfl, hb5⟩; have hS5 := Q2.next (w := w) (s1 := s1) (a1 := a1) (d1 := d1) (s2 := s2) (a2 := a2) (d2 := d2) (by first | assumption | exact Q2.drew (by assumption) | (go_split_ands; assumption)) hb5; have hZ5 := QZ.next (w := w) (by first | assumption | exact QZ.drew (by assumption) | (go_split_ands; assumption)) hb5; obtain ⟨x50, x51, x52, x53, x54, x55, -, -, -, -, -, -⟩ := Q2.all hS5; obtain ⟨y50, y51, y52, yf50, yf51, yf52⟩ := QZ.cells hZ5)
        | (go_at_call 58; (with_reducible refine (made_D x y (k + k) _ H1.out H2.out H3.out hyn (HZ.out.1.1.mul HZ.out.2.2) (HZ.out.1.2.mul HZ.out.2.1) (by omega) (HH.out.2.2.next (Hid.out (p := Q2 w s1 a1 d1 s2 a2 d2 _) (by first | assumption | exact Q2.drew (by assumption) | (go_split_ands; assumption))).below) (by cases s1 <;> cases s2 <;> first | (exact (by decide)) | simp)).mono ?_); rintro e w7 ⟨rfl, hb7⟩; have hS7 := Q2.next (w := w) (s1 := s1) (a1 := a1) (d1 := d1) (s2 := s2) (a2 := a2) (d2 := d2) (by first | assumption | exact Q2.drew (by assumption) | (go_split_ands; assumption)) hb7; have hZ7 := QZ.next (w := w) (by first | assumption | exact QZ.drew (by assumption) | (go_split_ands; assumption)) hb7; obtain ⟨x70, x71, x72, x73, x74, x75, -, -, -, -, -, -⟩ := Q2.all hS7; obtain ⟨y70, y71, y72, yf70, yf71, yf72⟩ := QZ.cells hZ7)
        | fail)
    all_goals
      go_wp2_with fail
      have hW := put3 hZ7.out (.bool s3) (.string a3) (.string d3)
      have hWb := put3_below (g := w.heap.size + 2) hS7.out.below (by omega) (.bool s3) (.string a3) (.string d3)
      obtain ⟨p0, p1, p2, -, -, -⟩ := hW.three
      refine bodyPost_ret (v := .tuple #[.agg #[.bool s3, .string a3, .string d3], .int .i64 0]) (by simp [results, Tryd.results30, go_sem, p0, p1, p2]) rfl ⟨rfl, hWb⟩

set_option maxHeartbeats 2000000 in
theorem div_R0 (k : Nat) (x y : Rat) (w : World) (hx : Rz k x) (hy : Rz k y) (hy0 : y = 0) (hk : k ≤ 4398046511104) (hT : Tab w) :
    Calls Tryd.prog 30 #[R x, R y] w fun e w' => e = .returned (.tuple #[.agg #[.bool false, .string ⟨#[]⟩, .string ⟨#[]⟩], .int .i64 12]) ∧ Below w.heap.size w w' := by
  have HZ := Lib.hid (And.intro (And.intro (show Sz k x.num.natAbs from hx.1) (show Sz k x.den from hx.2)) (And.intro (show Sz k y.num.natAbs from hy.1) (show Sz k y.den from hy.2)))
  have HH := Lib.hid (And.intro hx (And.intro hy hT)); clear hx hy hT
  obtain ⟨s1, a1, d1, h1⟩ := R_parts x
  obtain ⟨s2, a2, d2, h2⟩ := R_parts y
  rw [h1.val, h2.val]
  have H1 := Lib.hid h1; clear h1
  have H2 := Lib.hid h2; clear h2
  have he : a2.toList.isEmpty = true := by rw [H2.out.a, hy0, S_list]; rfl
  clear hy0
  obtain ⟨W0, hW0⟩ : ∃ W0, W0 = (((w.alloc (.cells #[.bool s1, .string a1, .string d1] 35)).alloc (.cells #[.bool s2, .string a2, .string d2] 35)).alloc (.cells #[.bool false, .string ⟨#[]⟩, .string ⟨#[]⟩] 35)) := ⟨_, rfl⟩
  obtain ⟨HQ0, HZ0⟩ := q2_start w s1 a1 d1 s2 a2 d2
  rw [← hW0] at HQ0 HZ0
  have HW0 := Lib.hid hW0; clear hW0
  go_enter Tryd.func30, Tryd.ntmps30
  go_wp2_with fail
  rw [← HW0.out]
  obtain ⟨c0, c1, c2, c3, c4, c5, f0, f1, f2, f3, f4, f5⟩ := Q2.all HQ0
  go_cut [] (fun wc => Hid (Q2 w s1 a1 d1 s2 a2 d2 wc) ∧ Hid (QZ w wc))
  case first =>
    go_region_held3 (fun w' => w'.cell? ⟨w.heap.size, 0, none⟩ = some (.bool s1) ∧ w'.cell? ⟨w.heap.size, 1, none⟩ = some (.string a1) ∧ w'.cell? ⟨w.heap.size, 2, none⟩ = some (.string d1) ∧ w'.cell? ⟨w.heap.size + 1, 0, none⟩ = some (.bool s2) ∧ w'.cell? ⟨w.heap.size + 1, 1, none⟩ = some (.string a2) ∧ w'.cell? ⟨w.heap.size + 1, 2, none⟩ = some (.string d2) ∧ w'.frozen? ⟨w.heap.size, 0, none⟩ = false ∧ w'.frozen? ⟨w.heap.size, 1, none⟩ = false ∧ w'.frozen? ⟨w.heap.size, 2, none⟩ = false ∧ w'.frozen? ⟨w.heap.size + 1, 0, none⟩ = false ∧ w'.frozen? ⟨w.heap.size + 1, 1, none⟩ = false ∧ w'.frozen? ⟨w.heap.size + 1, 2, none⟩ = false)
      (first | (go_keep; done) | (with_reducible exact Q2.all (Q2.put0 hS4)) | (with_reducible exact Q2.all (Q2.put1 (Q2.put0 hS4))))
      (first
        | (go_at_call_of 56 (Value.agg #[Value.bool s1, Value.string a1, Value.string d1]); (with_reducible refine (fit_O k x s1 a1 d1 _ H1.out HH.out.1 (by omega) (HH.out.2.2.next (Hid.out (p := Q2 w s1 a1 d1 s2 a2 d2 _) (by first | assumption | exact Q2.drew (by assumption) | (go_split_ands; assumption))).below)).mono ?_); rintro e w3 ⟨rfl, hb3⟩; have hS3 := Q2.next (w := w) (s1 := s1) (a1 := a1) (d1 := d1) (s2 := s2) (a2 := a2) (d2 := d2) (by first | assumption | exact Q2.drew (by assumption) | (go_split_ands; assumption)) hb3; have hZ3 := QZ.next (w := w) (by first | assumption | exact QZ.drew (by assumption) | (go_split_ands; assumption)) hb3; obtain ⟨x30, x31, x32, x33, x34, x35, xf30, xf31, xf32, xf33, xf34, xf35⟩ := Q2.all hS3)
        | (go_at_call_of 56 (Value.agg #[Value.bool s2, Value.string a2, Value.string d2]); (with_reducible refine (fit_O k y s2 a2 d2 _ H2.out HH.out.2.1 (by omega) (HH.out.2.2.next (Hid.out (p := Q2 w s1 a1 d1 s2 a2 d2 _) (by first | assumption | exact Q2.drew (by assumption) | (go_split_ands; assumption))).below)).mono ?_); rintro e w4 ⟨rfl, hb4⟩; have hS4 := Q2.next (w := w) (s1 := s1) (a1 := a1) (d1 := d1) (s2 := s2) (a2 := a2) (d2 := d2) (by first | assumption | exact Q2.drew (by assumption) | (go_split_ands; assumption)) hb4; have hZ4 := QZ.next (w := w) (by first | assumption | exact QZ.drew (by assumption) | (go_split_ands; assumption)) hb4; obtain ⟨x40, x41, x42, x43, x44, x45, xf40, xf41, xf42, xf43, xf44, xf45⟩ := Q2.all hS4)
        | fail)
    all_goals
      go_wp2_with fail
      go_meet
      exact ⟨Q2.put1 (Q2.put0 hS4), QZ.put1 (QZ.put0 hZ4)⟩
  case rest =>
    clear c0 c1 c2 c3 c4 c5 f0 f1 f2 f3 f4 f5 HQ0 HZ0
    obtain ⟨HQ1, HZ1⟩ := hcut
    obtain ⟨c0, c1, c2, c3, c4, c5, -, -, -, -, -, -⟩ := Q2.all HQ1
    obtain ⟨z0, z1, z2, zf0, zf1, zf2⟩ := QZ.cells HZ1
    go_wp2_with fail
    have hW := put3 HZ1.out (.bool false) (.string ⟨#[]⟩) (.string ⟨#[]⟩)
    have hWb := put3_below (g := w.heap.size + 2) HQ1.out.below (by omega) (.bool false) (.string ⟨#[]⟩) (.string ⟨#[]⟩)
    obtain ⟨p0, p1, p2, -, -, -⟩ := hW.three
    refine bodyPost_ret (v := .tuple #[.agg #[.bool false, .string ⟨#[]⟩, .string ⟨#[]⟩], .int .i64 12]) (by simp [results, Tryd.results30, go_sem, p0, p1, p2]) rfl ⟨rfl, hWb⟩
end Go.Proofs.YtlfddhiimcophaaDoor
