/- Walks of package rat: Cmp (printed by ratgen.py). -/
import Derived.Test.YtlfddhiimcophaaDoorRatD
namespace Go.Proofs.YtlfddhiimcophaaDoor
open Go.RowKit
set_option linter.unusedVariables false
set_option linter.unusedSimpArgs false

theorem q2_start0 (w : World) (s1 : Bool) (a1 d1 : ByteArray) (s2 : Bool) (a2 d2 : ByteArray) : Hid (Q2 w s1 a1 d1 s2 a2 d2 ((w.alloc (.cells #[.bool s1, .string a1, .string d1] 35)).alloc (.cells #[.bool s2, .string a2, .string d2] 35))) :=
  ⟨(Blk.new w _ _).alloc _, Blk.at_ (by simp), ((Below.refl _ _).alloc (Nat.le_refl _) _).alloc (by simp) _⟩
theorem mul_G (m n k : Nat) {a b : ByteArray} (w : World) (ha : a = S m) (hb : b = S n) (h : Sz k m) (h' : Sz k n) (hk : k ≤ 35184372088832) :
    Calls Tryd.prog 20 #[.string a, .string b] w fun e w' => e = .returned (.string (S (m * n))) ∧ Below w.heap.size w w' := by
  rw [ha, hb]; exact mul_S m n w (Nat.le_trans h hk) (Nat.le_trans h' hk)
theorem cmp_G (m n k : Nat) (w : World) (h : Sz (k + k) m) (h' : Sz (k + k) n) (hk : k ≤ 35184372088832) :
    Calls Tryd.prog 16 #[.string (S m), .string (S n)] w fun e w' => e = .returned (.int .i64 (cmpZ m n)) ∧ w = w' := cmp_S m n w (by unfold Sz at h; omega) (by unfold Sz at h'; omega)
/-- how two numbers compare -/
def cmpQ (x y : Rat) : Int := if x < y then -1 else if y < x then 1 else 0
theorem cmpZ_mul (x y : Rat) (hx : 0 ≤ x.num) (hy : 0 ≤ y.num) : cmpZ (x.num.natAbs * y.den) (y.num.natAbs * x.den) = cmpQ x y := by
  unfold cmpZ cmpQ
  have e1 : ((x.num.natAbs * y.den : Nat) : Int) = x.num * y.den := by rw [Int.natCast_mul, Int.natAbs_of_nonneg hx]
  have e2 : ((y.num.natAbs * x.den : Nat) : Int) = y.num * x.den := by rw [Int.natCast_mul, Int.natAbs_of_nonneg hy]
  simp only [Rat.lt_iff, ← e1, ← e2, Int.ofNat_lt]
theorem cmpZ_neg (x y : Rat) (hx : x.num < 0) (hy : y.num < 0) : -cmpZ (x.num.natAbs * y.den) (y.num.natAbs * x.den) = cmpQ x y := by
  unfold cmpZ cmpQ
  have e1 : ((x.num.natAbs * y.den : Nat) : Int) = -(x.num * y.den) := by rw [Int.natCast_mul, Int.ofNat_natAbs_of_nonpos (by omega), Int.neg_mul]
  have e2 : ((y.num.natAbs * x.den : Nat) : Int) = -(y.num * x.den) := by rw [Int.natCast_mul, Int.ofNat_natAbs_of_nonpos (by omega), Int.neg_mul]
  simp only [Rat.lt_iff]
  generalize x.num * y.den = p at *
  generalize y.num * x.den = q at *
  split <;> split <;> (try split) <;> (try split) <;> omega
theorem cmpQ_np (x y : Rat) (hx : x.num < 0) (hy : 0 ≤ y.num) : cmpQ x y = -1 := by
  unfold cmpQ; rw [if_pos]
  rw [Rat.lt_iff]
  have h1 : x.num * y.den < 0 := Int.mul_neg_of_neg_of_pos hx (by have := y.den_pos; omega)
  have h2 : 0 ≤ y.num * x.den := Int.mul_nonneg hy (by omega)
  omega
theorem cmpQ_pn (x y : Rat) (hx : 0 ≤ x.num) (hy : y.num < 0) : cmpQ x y = 1 := by
  have h1 : y.num * x.den < 0 := Int.mul_neg_of_neg_of_pos hy (by have := x.den_pos; omega)
  have h2 : 0 ≤ x.num * y.den := Int.mul_nonneg hx (by omega)
  unfold cmpQ; rw [if_neg (by rw [Rat.lt_iff]; omega), if_pos (by rw [Rat.lt_iff]; omega)]

set_option maxHeartbeats 1000000 in
theorem cmp_R (k : Nat) (x y : Rat) (w : World) (hx : Rz k x) (hy : Rz k y) (hk : k ≤ 8796093022208) (hT : Tab w) :
    Calls Tryd.prog 33 #[R x, R y] w fun e w' => e = .returned (.int .i64 (cmpQ x y)) ∧ Below w.heap.size w w' := by
  have HZ := Lib.hid (And.intro (And.intro (show Sz k x.num.natAbs from hx.1) (show Sz k x.den from hx.2)) (And.intro (show Sz k y.num.natAbs from hy.1) (show Sz k y.den from hy.2)))
  have HH := Lib.hid (And.intro hx (And.intro hy hT)); clear hx hy hT
  obtain ⟨s1, a1, d1, h1⟩ := R_parts x
  obtain ⟨s2, a2, d2, h2⟩ := R_parts y
  rw [h1.val, h2.val]
  have H1 := Lib.hid h1; clear h1
  have H2 := Lib.hid h2; clear h2
  obtain ⟨W0, hW0⟩ : ∃ W0, W0 = ((w.alloc (.cells #[.bool s1, .string a1, .string d1] 35)).alloc (.cells #[.bool s2, .string a2, .string d2] 35)) := ⟨_, rfl⟩
  have HQ0 := q2_start0 w s1 a1 d1 s2 a2 d2
  rw [← hW0] at HQ0
  have HW0 := Lib.hid hW0; clear hW0
  go_enter Tryd.func33, Tryd.ntmps33
  go_wp2_with fail
  rw [← HW0.out]
  obtain ⟨c0, c1, c2, c3, c4, c5, f0, f1, f2, f3, f4, f5⟩ := Q2.all HQ0
  go_cut [] (fun wc => Hid (Q2 w s1 a1 d1 s2 a2 d2 wc))
  case first =>
    go_region_held3 (fun w' => w'.cell? ⟨w.heap.size, 0, none⟩ = some (.bool s1) ∧ w'.cell? ⟨w.heap.size, 1, none⟩ = some (.string a1) ∧ w'.cell? ⟨w.heap.size, 2, none⟩ = some (.string d1) ∧ w'.cell? ⟨w.heap.size + 1, 0, none⟩ = some (.bool s2) ∧ w'.cell? ⟨w.heap.size + 1, 1, none⟩ = some (.string a2) ∧ w'.cell? ⟨w.heap.size + 1, 2, none⟩ = some (.string d2) ∧ w'.frozen? ⟨w.heap.size, 0, none⟩ = false ∧ w'.frozen? ⟨w.heap.size, 1, none⟩ = false ∧ w'.frozen? ⟨w.heap.size, 2, none⟩ = false ∧ w'.frozen? ⟨w.heap.size + 1, 0, none⟩ = false ∧ w'.frozen? ⟨w.heap.size + 1, 1, none⟩ = false ∧ w'.frozen? ⟨w.heap.size + 1, 2, none⟩ = false)
      (first | (go_keep; done) | (with_reducible exact Q2.all (Q2.put0 hS4)) | (with_reducible exact Q2.all (Q2.put1 (Q2.put0 hS4))))
      (first
        | (go_at_call_of 56 (Value.agg #[Value.bool s1, Value.string a1, Value.string d1]); (with_reducible refine (fit_O k x s1 a1 d1 _ H1.out HH.out.1 (by omega) (HH.out.2.2.next (Hid.out (p := Q2 w s1 a1 d1 s2 a2 d2 _) (by first | assumption | exact Q2.drew (by assumption) | (go_split_ands; assumption))).below)).mono ?_); rintro e w3 ⟨rfl, hb3⟩; have hS3 := Q2.next (w := w) (s1 := s1) (a1 := a1) (d1 := d1) (s2 := s2) (a2 := a2) (d2 := d2) (by first | assumption | exact Q2.drew (by assumption) | (go_split_ands; assumption)) hb3; obtain ⟨x30, x31, x32, x33, x34, x35, xf30, xf31, xf32, xf33, xf34, xf35⟩ := Q2.all hS3)
        | (go_at_call_of 56 (Value.agg #[Value.bool s2, Value.string a2, Value.string d2]); (with_reducible refine (fit_O k y s2 a2 d2 _ H2.out HH.out.2.1 (by omega) (HH.out.2.2.next (Hid.out (p := Q2 w s1 a1 d1 s2 a2 d2 _) (by first | assumption | exact Q2.drew (by assumption) | (go_split_ands; assumption))).below)).mono ?_); rintro e w4 ⟨rfl, hb4⟩; have hS4 := Q2.next (w := w) (s1 := s1) (a1 := a1) (d1 := d1) (s2 := s2) (a2 := a2) (d2 := d2) (by first | assumption | exact Q2.drew (by assumption) | (go_split_ands; assumption)) hb4; obtain ⟨x40, x41, x42, x43, x44, x45, xf40, xf41, xf42, xf43, xf44, xf45⟩ := Q2.all hS4)
        | fail)
    all_goals
      go_wp2_with fail
      go_meet
      exact Q2.put1 (Q2.put0 hS4)
  case rest =>
    clear c0 c1 c2 c3 c4 c5 f0 f1 f2 f3 f4 f5 HQ0
    have HQ1 := hcut; clear hcut
    obtain ⟨c0, c1, c2, c3, c4, c5, -, -, -, -, -, -⟩ := Q2.all HQ1
    have hs1 := H1.out.s
    have hs2 := H2.out.s
    by_cases hn1 : x.num < 0
    · have t1 : s1 = true := by rw [hs1]; exact decide_eq_true hn1
      by_cases hn2 : y.num < 0
      · have t2 : s2 = true := by rw [hs2]; exact decide_eq_true hn2
        have HQ := Lib.hid (cmpZ_neg x y hn1 hn2)
        clear hs1 hs2
        subst t1; subst t2
        go_wp2_with fail
        go_cut [5] (fun s5 wc => Hid (Q2 w true a1 d1 true a2 d2 wc) ∧ s5 = .int .i64 (cmpZ (x.num.natAbs * y.den) (y.num.natAbs * x.den)))
        case first =>
          go_region_held3 (fun w' => w'.cell? ⟨w.heap.size, 0, none⟩ = some (.bool true) ∧ w'.cell? ⟨w.heap.size, 1, none⟩ = some (.string a1) ∧ w'.cell? ⟨w.heap.size, 2, none⟩ = some (.string d1) ∧ w'.cell? ⟨w.heap.size + 1, 0, none⟩ = some (.bool true) ∧ w'.cell? ⟨w.heap.size + 1, 1, none⟩ = some (.string a2) ∧ w'.cell? ⟨w.heap.size + 1, 2, none⟩ = some (.string d2))
            (first | (go_keep; done))
            (first
              | (go_at_call_of 20 (Value.string a1); (with_reducible refine (mul_G x.num.natAbs y.den k _ H1.out.a H2.out.d HZ.out.1.1 HZ.out.2.2 (by omega)).mono ?_); rintro e w4 ⟨rfl, hb4⟩; have hS4 := Q2.next (w := w) (s1 := true) (a1 := a1) (d1 := d1) (s2 := true) (a2 := a2) (d2 := d2) (by first | assumption | exact Q2.drew (by assumption) | (go_split_ands; assumption)) hb4; obtain ⟨x40, x41, x42, x43, x44, x45, -, -, -, -, -, -⟩ := Q2.all hS4)
              | (go_at_call_of 20 (Value.string a2); (with_reducible refine (mul_G y.num.natAbs x.den k _ H2.out.a H1.out.d HZ.out.2.1 HZ.out.1.2 (by omega)).mono ?_); rintro e w5 ⟨rfl, hb5⟩; have hS5 := Q2.next (w := w) (s1 := true) (a1 := a1) (d1 := d1) (s2 := true) (a2 := a2) (d2 := d2) (by first | assumption | exact Q2.drew (by assumption) | (go_split_ands; assumption)) hb5; obtain ⟨x50, x51, x52, x53, x54, x55, -, -, -, -, -, -⟩ := Q2.all hS5)
              | (go_at_call 16; (with_reducible refine (cmp_G _ _ k _ (HZ.out.1.1.mul HZ.out.2.2) (HZ.out.2.1.mul HZ.out.1.2) (by omega)).mono ?_); rintro e w' ⟨rfl, rfl⟩; have hS6 : Hid (Q2 w true a1 d1 true a2 d2 _) := hS5)
              | fail)
          all_goals
            go_wp2_with fail
            go_meet
            exact ⟨hS6, rfl⟩
        case rest =>
          obtain ⟨HQ2, rfl⟩ := hcut
          obtain ⟨k0, k1, k2, k3, k4, k5, -, -, -, -, -, -⟩ := Q2.all HQ2
          obtain ⟨cz, hcz⟩ : ∃ cz, cz = cmpZ (x.num.natAbs * y.den) (y.num.natAbs * x.den) := ⟨_, rfl⟩
          have hcl : -1 ≤ cz ∧ cz ≤ 1 := by rw [hcz]; unfold cmpZ; split <;> (try split) <;> omega
          obtain ⟨l1, l2⟩ := hcl
          rw [← hcz]
          have HCZ := Lib.hid hcz; clear hcz
          go_wp2_with fail
          go_ret
          exact ⟨by rw [← HQ.out, ← HCZ.out]; rfl, HQ2.out.below⟩
      · have t2 : s2 = false := by rw [hs2]; exact decide_eq_false hn2
        have HQ := Lib.hid (cmpQ_np x y hn1 (by omega))
        clear hs1 hs2
        subst t1; subst t2
        go_wp2_with fail
        go_ret
        exact ⟨by rw [HQ.out]; rfl, HQ1.out.below⟩
    · have t1 : s1 = false := by rw [hs1]; exact decide_eq_false hn1
      by_cases hn2 : y.num < 0
      · have t2 : s2 = true := by rw [hs2]; exact decide_eq_true hn2
        have HQ := Lib.hid (cmpQ_pn x y (by omega) hn2)
        clear hs1 hs2
        subst t1; subst t2
        go_wp2_with fail
        go_ret
        exact ⟨by rw [HQ.out]; rfl, HQ1.out.below⟩
      · have t2 : s2 = false := by rw [hs2]; exact decide_eq_false hn2
        have HQ := Lib.hid (cmpZ_mul x y (by omega) (by omega))
        clear hs1 hs2
        subst t1; subst t2
        go_wp2_with fail
        go_cut [5] (fun s5 wc => Hid (Q2 w false a1 d1 false a2 d2 wc) ∧ s5 = .int .i64 (cmpZ (x.num.natAbs * y.den) (y.num.natAbs * x.den)))
        case first =>
          go_region_held3 (fun w' => w'.cell? ⟨w.heap.size, 0, none⟩ = some (.bool false) ∧ w'.cell? ⟨w.heap.size, 1, none⟩ = some (.string a1) ∧ w'.cell? ⟨w.heap.size, 2, none⟩ = some (.string d1) ∧ w'.cell? ⟨w.heap.size + 1, 0, none⟩ = some (.bool false) ∧ w'.cell? ⟨w.heap.size + 1, 1, none⟩ = some (.string a2) ∧ w'.cell? ⟨w.heap.size + 1, 2, none⟩ = some (.string d2))
            (first | (go_keep; done))
            (first
              | (go_at_call_of 20 (Value.string a1); (with_reducible refine (mul_G x.num.natAbs y.den k _ H1.out.a H2.out.d HZ.out.1.1 HZ.out.2.2 (by omega)).mono ?_); rintro e w4 ⟨rfl, hb4⟩; have hS4 := Q2.next (w := w) (s1 := false) (a1 := a1) (d1 := d1) (s2 := false) (a2 := a2) (d2 := d2) (by first | assumption | exact Q2.drew (by assumption) | (go_split_ands; assumption)) hb4; obtain ⟨x40, x41, x42, x43, x44, x45, -, -, -, -, -, -⟩ := Q2.all hS4)
              | (go_at_call_of 20 (Value.string a2); (with_reducible refine (mul_G y.num.natAbs x.den k _ H2.out.a H1.out.d HZ.out.2.1 HZ.out.1.2 (by omega)).mono ?_); rintro e w5 ⟨rfl, hb5⟩; have hS5 := Q2.next (w := w) (s1 := false) (a1 := a1) (d1 := d1) (s2 := false) (a2 := a2) (d2 := d2) (by first | assumption | exact Q2.drew (by assumption) | (go_split_ands; assumption)) hb5; obtain ⟨x50, x51, x52, x53, x54, x55, -, -, -, -, -, -⟩ := Q2.all hS5)
              | (go_at_call 16; (with_reducible refine (cmp_G _ _ k _ (HZ.out.1.1.mul HZ.out.2.2) (HZ.out.2.1.mul HZ.out.1.2) (by omega)).mono ?_); rintro e w' ⟨rfl, rfl⟩; have hS6 : Hid (Q2 w false a1 d1 false a2 d2 _) := hS5)
              | fail)
          all_goals
            go_wp2_with fail
            go_meet
            exact ⟨hS6, rfl⟩
        case rest =>
          obtain ⟨HQ2, rfl⟩ := hcut
          obtain ⟨k0, k1, k2, k3, k4, k5, -, -, -, -, -, -⟩ := Q2.all HQ2
          obtain ⟨cz, hcz⟩ : ∃ cz, cz = cmpZ (x.num.natAbs * y.den) (y.num.natAbs * x.den) := ⟨_, rfl⟩
          have hcl : -1 ≤ cz ∧ cz ≤ 1 := by rw [hcz]; unfold cmpZ; split <;> (try split) <;> omega
          obtain ⟨l1, l2⟩ := hcl
          rw [← hcz]
          have HCZ := Lib.hid hcz; clear hcz
          go_wp2_with fail
          go_ret
          exact ⟨by rw [← HQ.out, ← HCZ.out]; rfl, HQ2.out.below⟩
end Go.Proofs.YtlfddhiimcophaaDoor
