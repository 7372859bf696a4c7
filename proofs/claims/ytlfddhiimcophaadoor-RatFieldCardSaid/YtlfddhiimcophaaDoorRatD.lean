/- Walks of package rat: Mul. -/
import Derived.Test.YtlfddhiimcophaaDoorRatC
namespace Go.Proofs.YtlfddhiimcophaaDoor
open Go.RowKit
set_option linter.unusedVariables false
set_option linter.unusedSimpArgs false

theorem Sz.mul' {k l m n : Nat} (h : Sz k m) (h' : Sz l n) : Sz (k + l) (m * n) := h.mul h'
theorem mul_O (k : Nat) (x y : Rat) {s1 s2 : Bool} {a1 d1 a2 d2 : ByteArray} (w : World) (h1 : RIs x s1 a1 d1) (h2 : RIs y s2 a2 d2) (hx : Rz k x) (hy : Rz k y) (hk : k ≤ 17592186044416) :
    Calls Tryd.prog 20 #[.string a1, .string a2] w fun e w' => e = .returned (.string (S (x.num.natAbs * y.num.natAbs))) ∧ Below w.heap.size w w' := by
  rw [h1.a, h2.a]; exact mul_S _ _ _ (Nat.le_trans hx.1 (by omega)) (Nat.le_trans hy.1 (by omega))
theorem mul_Od (k : Nat) (x y : Rat) {s1 s2 : Bool} {a1 d1 a2 d2 : ByteArray} (w : World) (h1 : RIs x s1 a1 d1) (h2 : RIs y s2 a2 d2) (hx : Rz k x) (hy : Rz k y) (hk : k ≤ 17592186044416) :
    Calls Tryd.prog 20 #[.string d1, .string d2] w fun e w' => e = .returned (.string (S (x.den * y.den))) ∧ Below w.heap.size w w' := by
  rw [h1.d, h2.d]; exact mul_S _ _ _ (Nat.le_trans hx.2 (by omega)) (Nat.le_trans hy.2 (by omega))
theorem int_mul_abs (a b : Int) : sg (decide (a < 0) != decide (b < 0)) (a.natAbs * b.natAbs) = a * b := by
  unfold sg
  by_cases h1 : a < 0 <;> by_cases h2 : b < 0
  · rw [if_neg (by simp [h1, h2]), Int.natCast_mul, Int.ofNat_natAbs_of_nonpos (by omega), Int.ofNat_natAbs_of_nonpos (by omega), Int.neg_mul_neg]
  · rw [if_pos (by simp [h1, h2]), Int.natCast_mul, Int.ofNat_natAbs_of_nonpos (by omega), Int.natAbs_of_nonneg (by omega), Int.neg_mul, Int.neg_neg]
  · rw [if_pos (by simp [h1, h2]), Int.natCast_mul, Int.ofNat_natAbs_of_nonpos (show b ≤ 0 by omega), Int.natAbs_of_nonneg (by omega), Int.mul_neg, Int.neg_neg]
  · rw [if_neg (by simp [h1, h2]), Int.natCast_mul, Int.natAbs_of_nonneg (by omega), Int.natAbs_of_nonneg (by omega)]
theorem sg_mul (x y : Rat) : mkRat (sg (decide (x.num < 0) != decide (y.num < 0)) (x.num.natAbs * y.num.natAbs)) (x.den * y.den) = x * y := by
  rw [Rat.mul_def', int_mul_abs]
theorem made_O (k : Nat) (x y : Rat) {s1 s2 s3 : Bool} {a1 d1 a2 d2 a3 d3 : ByteArray} (w : World) (h3 : RIs (x * y) s3 a3 d3) (h1 : RIs x s1 a1 d1) (h2 : RIs y s2 a2 d2) (hx : Rz k x) (hy : Rz k y) (hk : k ≤ 17592186044416) (hT : Tab w) {b : Bool} (hb : b = (s1 != s2)) :
    Calls Tryd.prog 58 #[.bool b, .string (S (x.num.natAbs * y.num.natAbs)), .string (S (x.den * y.den))] w fun e w' => e = .returned (.agg #[.bool s3, .string a3, .string d3]) ∧ Below w.heap.size w w' := by
  rw [← h3.val, ← sg_mul, hb, h1.s, h2.s]
  exact made_R _ _ _ (k + k) w (Nat.mul_ne_zero x.den_nz y.den_nz) (hx.1.mul hy.1) (hx.2.mul hy.2) (by omega) hT

set_option maxHeartbeats 1000000 in
theorem mul_R (k : Nat) (x y : Rat) (w : World) (hx : Rz k x) (hy : Rz k y) (hk : k ≤ 17592186044416) (hT : Tab w) :
    Calls Tryd.prog 26 #[R x, R y] w fun e w' => e = .returned (R (x * y)) ∧ Below w.heap.size w w' := by
  have HH := Lib.hid (And.intro hx (And.intro hy hT)); clear hx hy hT
  obtain ⟨s1, a1, d1, h1⟩ := R_parts x
  obtain ⟨s2, a2, d2, h2⟩ := R_parts y
  obtain ⟨s3, a3, d3, h3⟩ := R_parts (x * y)
  rw [h1.val, h2.val, h3.val]
  have H3 := Lib.hid h3; clear h3
  have H1 := Lib.hid h1; clear h1
  have H2 := Lib.hid h2; clear h2
  obtain ⟨W0, hW0⟩ : ∃ W0, W0 = (((w.alloc (.cells #[.bool s1, .string a1, .string d1] 35)).alloc (.cells #[.bool s2, .string a2, .string d2] 35)).alloc (.cells #[.bool false, .string ⟨#[]⟩, .string ⟨#[]⟩] 35)) := ⟨_, rfl⟩
  obtain ⟨HQ0, HZ0⟩ := q2_start w s1 a1 d1 s2 a2 d2
  rw [← hW0] at HQ0 HZ0
  have HW0 := Lib.hid hW0; clear hW0
  go_enter Tryd.func26, Tryd.ntmps26
  go_wp2_with fail
  rw [← HW0.out]
  obtain ⟨c0, c1, c2, c3, c4, c5, f0, f1, f2, f3, f4, f5⟩ := Q2.all HQ0
  go_cut [] (fun wc => Hid (Q2 w s1 a1 d1 s2 a2 d2 wc) ∧ Hid (QZ w wc))
  case first =>
    go_region_held3 (fun w' => w'.cell? ⟨w.heap.size, 0, none⟩ = some (.bool s1) ∧ w'.cell? ⟨w.heap.size, 1, none⟩ = some (.string a1) ∧ w'.cell? ⟨w.heap.size, 2, none⟩ = some (.string d1) ∧ w'.cell? ⟨w.heap.size + 1, 0, none⟩ = some (.bool s2) ∧ w'.cell? ⟨w.heap.size + 1, 1, none⟩ = some (.string a2) ∧ w'.cell? ⟨w.heap.size + 1, 2, none⟩ = some (.string d2) ∧ w'.frozen? ⟨w.heap.size, 0, none⟩ = false ∧ w'.frozen? ⟨w.heap.size, 1, none⟩ = false ∧ w'.frozen? ⟨w.heap.size, 2, none⟩ = false ∧ w'.frozen? ⟨w.heap.size + 1, 0, none⟩ = false ∧ w'.frozen? ⟨w.heap.size + 1, 1, none⟩ = false ∧ w'.frozen? ⟨w.heap.size + 1, 2, none⟩ = false)
      (first | (go_keep; done) | (with_reducible exact Q2.all (Q2.put0 hS4)) | (with_reducible exact Q2.all (Q2.put1 (Q2.put0 hS4))))
      (first
        | (go_at_call_of 56 (Value.agg #[Value.bool s1, Value.string a1, Value.string d1]); (with_reducible refine (fit_O k x s1 a1 d1 _ H1.out HH.out.1 (by omega) (HH.out.2.2.next (Hid.out (p := Q2 w s1 a1 d1 s2 a2 d2 _) (by first | assumption | exact Q2.drew (by assumption) | (go_split_ands; assumption))).below)).mono ?_); rintro e w3 ⟨rfl, hb3⟩; have hS3 := Q2.next (w := w) (s1 := s1) (a1 := a1) (d1 := d1) (s2 := s2) (a2 := a2) (d2 := d2) (by first | assumption | exact Q2.drew (by assumption) | (go_split_ands; assumption)) hb3; have hZ3 := QZ.next (w := w) (by first | assumption | exact QZ.drew (by assumption) | (go_split_ands; assumption)) hb3; obtain ⟨c0', c1', c2', c3', c4', c5', f0', f1', f2', f3', f4', f5'⟩ := Q2.all hS3)
        | (go_at_call_of 56 (Value.agg #[Value.bool s2, Value.string a2, Value.string d2]); (with_reducible refine (fit_O k y s2 a2 d2 _ H2.out HH.out.2.1 (by omega) (HH.out.2.2.next (Hid.out (p := Q2 w s1 a1 d1 s2 a2 d2 _) (by first | assumption | exact Q2.drew (by assumption) | (go_split_ands; assumption))).below)).mono ?_); rintro e w4 ⟨rfl, hb4⟩; have hS4 := Q2.next (w := w) (s1 := s1) (a1 := a1) (d1 := d1) (s2 := s2) (a2 := a2) (d2 := d2) (by first | assumption | exact Q2.drew (by assumption) | (go_split_ands; assumption)) hb4; have hZ4 := QZ.next (w := w) (by first | assumption | exact QZ.drew (by assumption) | (go_split_ands; assumption)) hb4; obtain ⟨b0, b1, b2, b3, b4, b5, e0, e1, e2, e3, e4, e5⟩ := Q2.all hS4)
        | fail)
    all_goals
      go_wp2_with fail
      go_meet
      exact ⟨Q2.put1 (Q2.put0 hS4), QZ.put1 (QZ.put0 hZ4)⟩
  case rest =>
    clear c0 c1 c2 c3 c4 c5 f0 f1 f2 f3 f4 f5 HQ0 HZ0
    obtain ⟨HQ1, HZ1⟩ := hcut
    go_wp2_with fail
    obtain ⟨c0, c1, c2, c3, c4, c5, f0, f1, f2, f3, f4, f5⟩ := Q2.all HQ1
    obtain ⟨z0, z1, z2, zf0, zf1, zf2⟩ := QZ.cells HZ1
    clear f0 f1 f2 f3 f4 f5
    go_region_held3 (fun w' => w'.cell? ⟨w.heap.size, 0, none⟩ = some (.bool s1) ∧ w'.cell? ⟨w.heap.size, 1, none⟩ = some (.string a1) ∧ w'.cell? ⟨w.heap.size, 2, none⟩ = some (.string d1) ∧ w'.cell? ⟨w.heap.size + 1, 0, none⟩ = some (.bool s2) ∧ w'.cell? ⟨w.heap.size + 1, 1, none⟩ = some (.string a2) ∧ w'.cell? ⟨w.heap.size + 1, 2, none⟩ = some (.string d2))
      (first | (go_keep; done) | (with_reducible exact Q2.six (Q2.put2 hS7)))
      (first
        | (go_at_call_of 20 (Value.string a1); (with_reducible refine (mul_O k x y _ H1.out H2.out HH.out.1 HH.out.2.1 hk).mono ?_); rintro e w5 ⟨rfl, hb5⟩; have hS5 := Q2.next (w := w) (s1 := s1) (a1 := a1) (d1 := d1) (s2 := s2) (a2 := a2) (d2 := d2) (by first | assumption | exact Q2.drew (by assumption)) hb5; have hZ5 := QZ.next (w := w) (by first | assumption | exact QZ.drew (by assumption)) hb5; obtain ⟨x0, x1, x2, x3, x4, x5, -, -, -, -, -, -⟩ := Q2.all hS5; obtain ⟨y0, y1, y2, yf0, yf1, yf2⟩ := QZ.cells hZ5)
        | (go_at_call_of 20 (Value.string d1); (with_reducible refine (mul_Od k x y _ H1.out H2.out HH.out.1 HH.out.2.1 hk).mono ?_); rintro e w6 ⟨rfl, hb6⟩; have hS6 := Q2.next (w := w) (s1 := s1) (a1 := a1) (d1 := d1) (s2 := s2) (a2 := a2) (d2 := d2) (by first | assumption | exact Q2.drew (by assumption)) hb6; have hZ6 := QZ.next (w := w) (by first | assumption | exact QZ.drew (by assumption)) hb6; obtain ⟨u0, u1, u2, u3, u4, u5, -, -, -, -, -, -⟩ := Q2.all hS6; obtain ⟨v0, v1, v2, vf0, vf1, vf2⟩ := QZ.cells hZ6)
        | (go_at_call 58; (with_reducible refine (made_O k x y _ H3.out H1.out H2.out HH.out.1 HH.out.2.1 hk (HH.out.2.2.next (Hid.out (p := Q2 w s1 a1 d1 s2 a2 d2 _) (by first | assumption | exact Q2.drew (by assumption))).below) (by cases s1 <;> cases s2 <;> first | (exact (by decide)) | simp)).mono ?_); rintro e w7 ⟨rfl, hb7⟩; have hS7 := Q2.next (w := w) (s1 := s1) (a1 := a1) (d1 := d1) (s2 := s2) (a2 := a2) (d2 := d2) (by first | assumption | exact Q2.drew (by assumption)) hb7; have hZ7 := QZ.next (w := w) (by first | assumption | exact QZ.drew (by assumption)) hb7; obtain ⟨t0, t1, t2, tf0, tf1, tf2⟩ := QZ.cells hZ7; obtain ⟨r0, r1, r2, r3, r4, r5, -, -, -, -, -, -⟩ := Q2.all hS7)
        | fail)
    all_goals
      go_wp2_with fail
      have hW := put3 hZ7.out (.bool s3) (.string a3) (.string d3)
      have hWb := put3_below (g := w.heap.size + 2) hS7.out.below (by omega) (.bool s3) (.string a3) (.string d3)
      obtain ⟨p0, p1, p2, -, -, -⟩ := hW.three
      refine bodyPost_ret (v := .agg #[.bool s3, .string a3, .string d3]) (by simp [results, Tryd.results26, go_sem, p0, p1, p2]) rfl ⟨rfl, hWb⟩
end Go.Proofs.YtlfddhiimcophaaDoor
