/- Walks of package rat: Add (printed by ratgen.py). -/
import Derived.Test.YtlfddhiimcophaaDoorRatE
namespace Go.Proofs.YtlfddhiimcophaaDoor
open Go.RowKit
set_option linter.unusedVariables false
set_option linter.unusedSimpArgs false

theorem sg_mul_nat (s : Bool) (m n : Nat) : sg s (m * n) = sg s m * n := by
  unfold sg; split
  · rw [Int.natCast_mul, Int.neg_mul]
  · rw [Int.natCast_mul]
theorem RIs.sg {q : Rat} {s : Bool} {a d : ByteArray} (h : RIs q s a d) : Go.Proofs.YtlfddhiimcophaaDoor.sg s q.num.natAbs = q.num := by rw [h.s]; exact sg_num q
theorem signed_G (s t : Bool) (m n k : Nat) (z : Int) {a b : ByteArray} (w : World) (ha : a = S m) (hb : b = S n) (h : Sz k m) (h' : Sz k n) (hk : k ≤ 35184372088832) (hz : sg s m + sg t n = z) :
    Calls Tryd.prog 57 #[.bool s, .string a, .bool t, .string b] w fun e w' => (∃ (u : Bool) (n : Nat), e = .returned (.tuple #[.bool u, .string (S n)]) ∧ sg u n = z) ∧ Below w.heap.size w w' := by
  rw [ha, hb, ← hz]; exact signed_R s t m n k k w h h' hk hk
theorem sz_abs {k : Nat} {a b : Int} {u : Bool} {n : Nat} (h : sg u n = a + b) (ha : Sz k a.natAbs) (hb : Sz k b.natAbs) : Sz (k + k + 1) n := by
  have h1 : n = (a + b).natAbs := by rw [← h, sg_natAbs]
  exact (ha.add hb).le (by omega)
theorem made_G (u : Bool) (n k : Nat) (m : Nat) (q : Rat) {s3 : Bool} {a3 d3 d : ByteArray} (w : World) (h3 : RIs q s3 a3 d3) (hd : d = S m) (hm : m ≠ 0) (hq : mkRat (sg u n) m = q) (h : Sz k n) (h' : Sz k m) (hk : k ≤ 35184372088832) (hT : Tab w) :
    Calls Tryd.prog 58 #[.bool u, .string (S n), .string d] w fun e w' => e = .returned (.agg #[.bool s3, .string a3, .string d3]) ∧ Below w.heap.size w w' := by
  rw [hd, ← h3.val, ← hq]; exact made_R u n m k w hm h h' hk hT
theorem add_same {x y : Rat} (h : x.den = y.den) : mkRat (x.num + y.num) x.den = x + y := by
  rw [Rat.add_def', ← h, ← Int.add_mul]
  exact (Rat.mkRat_mul_right x.den_nz).symm
theorem S_inj' {m n : Nat} (h : S m = S n) : m = n := bstr_inj (by rw [← toL_S, h]; rfl)
theorem S_eq_iff (m n : Nat) : ((S m).toList == (S n).toList) = decide (m = n) := by
  rw [S_list, S_list]
  by_cases h : m = n
  · subst h; simp
  · rw [decide_eq_false h, beq_eq_false_iff_ne]; intro e; exact h (bstr_inj e)

set_option maxHeartbeats 2000000 in
theorem add_R (k : Nat) (x y : Rat) (w : World) (hx : Rz k x) (hy : Rz k y) (hk : k ≤ 4398046511104) (hT : Tab w) :
    Calls Tryd.prog 24 #[R x, R y] w fun e w' => e = .returned (R (x + y)) ∧ Below w.heap.size w w' := by
  have HZ := Lib.hid (And.intro (And.intro (show Sz k x.num.natAbs from hx.1) (show Sz k x.den from hx.2)) (And.intro (show Sz k y.num.natAbs from hy.1) (show Sz k y.den from hy.2)))
  have HH := Lib.hid (And.intro hx (And.intro hy hT)); clear hx hy hT
  obtain ⟨s1, a1, d1, h1⟩ := R_parts x
  obtain ⟨s2, a2, d2, h2⟩ := R_parts y
  obtain ⟨s3, a3, d3, h3⟩ := R_parts (x + y)
  rw [h1.val, h2.val, h3.val]
  have H3 := Lib.hid h3; clear h3
  have H1 := Lib.hid h1; clear h1
  have H2 := Lib.hid h2; clear h2
  obtain ⟨W0, hW0⟩ : ∃ W0, W0 = (((w.alloc (.cells #[.bool s1, .string a1, .string d1] 35)).alloc (.cells #[.bool s2, .string a2, .string d2] 35)).alloc (.cells #[.bool false, .string ⟨#[]⟩, .string ⟨#[]⟩] 35)) := ⟨_, rfl⟩
  obtain ⟨HQ0, HZ0⟩ := q2_start w s1 a1 d1 s2 a2 d2
  rw [← hW0] at HQ0 HZ0
  have HW0 := Lib.hid hW0; clear hW0
  go_enter Tryd.func24, Tryd.ntmps24
  go_wp2_with fail
  rw [← HW0.out]
  obtain ⟨c0, c1, c2, c3, c4, c5, f0, f1, f2, f3, f4, f5⟩ := Q2.all HQ0
  go_cut [] (fun wc => Hid (Q2 w s1 a1 d1 s2 a2 d2 wc) ∧ Hid (QZ w wc))
  case first =>
    go_region_held3 (fun w' => w'.cell? ⟨w.heap.size, 0, none⟩ = some (.bool s1) ∧ w'.cell? ⟨w.heap.size, 1, none⟩ = some (.string a1) ∧ w'.cell? ⟨w.heap.size, 2, none⟩ = some (.string d1) ∧ w'.cell? ⟨w.heap.size + 1, 0, none⟩ = some (.bool s2) ∧ w'.cell? ⟨w.heap.size + 1, 1, none⟩ = some (.string a2) ∧ w'.cell? ⟨w.heap.size + 1, 2, none⟩ = some (.string d2) ∧ w'.frozen? ⟨w.heap.size, 0, none⟩ = false ∧ w'.frozen? ⟨w.heap.size, 1, none⟩ = false ∧ w'.frozen? ⟨w.heap.size, 2, none⟩ = false ∧ w'.frozen? ⟨w.heap.size + 1, 0, none⟩ = false ∧ w'.frozen? ⟨w.heap.size + 1, 1, none⟩ = false ∧ w'.frozen? ⟨w.heap.size + 1, 2, none⟩ = false)
      (first | (go_keep; done) | (with_reducible exact Q2.all (Q2.put0 hS4)) | (with_reducible exact Q2.all (Q2.put1 (Q2.put0 hS4))))
      (first
        | (go_at_call_of 56 (Value.agg #[Value.bool s1, Value.string a1, Value.string d1]); (with_reducible refine (fit_O k x s1 a1 d1 _ H1.out HH.out.1 (by omega) (HH.out.2.2.next (Hid.out (p := Q2 w s1 a1 d1 s2 a2 d2 _) (by first | assumption | exact Q2.drew (by assumption) | (go_split_ands; assumption))).below)).mono ?_); rintro e w3 ⟨rfl, hb3⟩; have hS3 := Q2.next (w := w) (s1 := s1) (a1 := a1) (d1 := d1) (s2 := s2) (a2 := a2) (d2 := d2) (by first | assumption | exact Q2.drew (by assumption) | (go_split_ands; assumption)) hb3; have hZ3 := QZ.next (w := w) (by first | assumption | exact QZ.drew (by assumption) | (go_split_ands; assumption)) hb3; obtain ⟨x30, x31, x32, x33, x34, x35, xf30, xf31, xf32, xf33, xf34, xf35⟩ := Q2.all hS3)
        | (go_at_call_of 56 (Value.agg #[Value.bool s2, Value.string a2, Value.string d2]); (with_reducible refine (fit_O k y s2 a2 d2 _ H2.out HH.out.2.1 (by omega) (HH.out.2.2.next (Hid.out (p := Q2 w s1 a1 d1 s2 a2 d2 _) (by first | assumption | exact Q2.drew (by assumption) | (go_split_ands; assumption))).below)).mono ?_); rintro e w4 ⟨rfl, hb4⟩; have hS4 := Q2.next (w := w) (s1 := s1) (a1 := a1) (d1 := d1) (s2 := s2) (a2 := a2) (d2 := d2) (by first | assumption | exact Q2.drew (by assumption) | (go_split_ands; assumption)) hb4; have hZ4 := QZ.next (w := w) (by first | assumption | exact QZ.drew (by assumption) | (go_split_ands; assumption)) hb4; obtain ⟨x40, x41, x42, x43, x44, x45, xf40, xf41, xf42, xf43, xf44, xf45⟩ := Q2.all hS4)
        | fail)
    all_goals
      go_wp2_with fail
      go_meet
      exact ⟨Q2.put1 (Q2.put0 hS4), QZ.put1 (QZ.put0 hZ4)⟩
  case rest =>
    clear c0 c1 c2 c3 c4 c5 f0 f1 f2 f3 f4 f5 HQ0 HZ0
    obtain ⟨HQ1, HZ1⟩ := hcut
    obtain ⟨c0, c1, c2, c3, c4, c5, -, -, -, -, -, -⟩ := Q2.all HQ1
    obtain ⟨z0, z1, z2, zf0, zf1, zf2⟩ := QZ.cells HZ1
    by_cases hde : x.den = y.den
    · have hdd : (d1.toList == d2.toList) = true := by rw [H1.out.d, H2.out.d, S_eq_iff]; exact decide_eq_true hde
      have hde2 : d1.toList = d2.toList := by simpa using hdd
      have HD := Lib.hid hde; clear hde
      go_wp2_with fail
      refine (signed_G s1 s2 x.num.natAbs y.num.natAbs k (x.num + y.num) _ H1.out.a H2.out.a HZ.out.1.1 HZ.out.2.1 (by omega) (by rw [H1.out.sg, H2.out.sg])).mono ?_
      rintro e w5 ⟨⟨u, n, rfl, hun⟩, hb5⟩
      have HUN := Lib.hid hun; clear hun
      have hS5 := Q2.next (w := w) (s1 := s1) (a1 := a1) (d1 := d1) (s2 := s2) (a2 := a2) (d2 := d2) HQ1 hb5
      have hZ5 := QZ.next (w := w) HZ1 hb5
      obtain ⟨x50, x51, x52, x53, x54, x55, -, -, -, -, -, -⟩ := Q2.all hS5
      obtain ⟨y50, y51, y52, yf50, yf51, yf52⟩ := QZ.cells hZ5
      go_wp2_with fail
      refine (made_G u n (k + k + 1) x.den (x + y) _ H3.out H1.out.d x.den_nz (by rw [HUN.out]; exact add_same HD.out) (sz_abs HUN.out HZ.out.1.1 HZ.out.2.1) (HZ.out.1.2.more (by omega)) (by omega) (HH.out.2.2.next hS5.out.below)).mono ?_
      rintro e w7 ⟨rfl, hb7⟩
      have hS7 := Q2.next (w := w) (s1 := s1) (a1 := a1) (d1 := d1) (s2 := s2) (a2 := a2) (d2 := d2) hS5 hb7
      have hZ7 := QZ.next (w := w) hZ5 hb7
      obtain ⟨y70, y71, y72, yf70, yf71, yf72⟩ := QZ.cells hZ7
      go_wp2_with fail
      have hW := put3 hZ7.out (.bool s3) (.string a3) (.string d3)
      have hWb := put3_below (g := w.heap.size + 2) hS7.out.below (by omega) (.bool s3) (.string a3) (.string d3)
      obtain ⟨p0, p1, p2, -, -, -⟩ := hW.three
      refine bodyPost_ret (v := .agg #[.bool s3, .string a3, .string d3]) (by simp [results, Tryd.results24, go_sem, p0, p1, p2]) rfl ⟨rfl, hWb⟩
    · have hdd : (d1.toList == d2.toList) = false := by rw [H1.out.d, H2.out.d, S_eq_iff]; exact decide_eq_false hde
      have hde2 : ¬ d1.toList = d2.toList := by simpa using hdd
      go_wp2_with fail
      go_cut [7, 8] (fun s7 s8 wc => ∃ (u : Bool) (n : Nat), s7 = .bool u ∧ s8 = .string (S n) ∧ Hid (sg u n = x.num * y.den + y.num * x.den) ∧ Hid (Q2 w s1 a1 d1 s2 a2 d2 wc) ∧ Hid (QZ w wc))
      case first =>
        go_region_held3 (fun w' => w'.cell? ⟨w.heap.size, 0, none⟩ = some (.bool s1) ∧ w'.cell? ⟨w.heap.size, 1, none⟩ = some (.string a1) ∧ w'.cell? ⟨w.heap.size, 2, none⟩ = some (.string d1) ∧ w'.cell? ⟨w.heap.size + 1, 0, none⟩ = some (.bool s2) ∧ w'.cell? ⟨w.heap.size + 1, 1, none⟩ = some (.string a2) ∧ w'.cell? ⟨w.heap.size + 1, 2, none⟩ = some (.string d2))
          (first | (go_keep; done))
          (first
            | (go_at_call_of 20 (Value.string a1); (with_reducible refine (mul_G x.num.natAbs y.den k _ H1.out.a H2.out.d HZ.out.1.1 HZ.out.2.2 (by omega)).mono ?_); rintro e w4 ⟨rfl, hb4⟩; have hS4 := Q2.next (w := w) (s1 := s1) (a1 := a1) (d1 := d1) (s2 := s2) (a2 := a2) (d2 := d2) (by first | assumption | exact Q2.drew (by assumption) | (go_split_ands; assumption)) hb4; have hZ4 := QZ.next (w := w) (by first | assumption | exact QZ.drew (by assumption) | (go_split_ands; assumption)) hb4; obtain ⟨x40, x41, x42, x43, x44, x45, -, -, -, -, -, -⟩ := Q2.all hS4; obtain ⟨y40, y41, y42, yf40, yf41, yf42⟩ := QZ.cells hZ4)
            | (go_at_call_of 20 (Value.string a2); (with_reducible refine (mul_G y.num.natAbs x.den k _ H2.out.a H1.out.d HZ.out.2.1 HZ.out.1.2 (by omega)).mono ?_); rintro e w5 ⟨rfl, hb5⟩; have hS5 := Q2.next (w := w) (s1 := s1) (a1 := a1) (d1 := d1) (s2 := s2) (a2 := a2) (d2 := d2) (by first | assumption | exact Q2.drew (by assumption) | (go_split_ands; assumption)) hb5; have hZ5 := QZ.next (w := w) (by first | assumption | exact QZ.drew (by assumption) | (go_split_ands; assumption)) hb5; obtain ⟨x50, x51, x52, x53, x54, x55, -, -, -, -, -, -⟩ := Q2.all hS5; obtain ⟨y50, y51, y52, yf50, yf51, yf52⟩ := QZ.cells hZ5)
            | (go_at_call 57; (with_reducible refine (signed_G s1 s2 (x.num.natAbs * y.den) (y.num.natAbs * x.den) (k + k) (x.num * y.den + y.num * x.den) _ rfl rfl (HZ.out.1.1.mul HZ.out.2.2) (HZ.out.2.1.mul HZ.out.1.2) (by omega) (by rw [sg_mul_nat, sg_mul_nat, H1.out.sg, H2.out.sg])).mono ?_); rintro e w6 ⟨⟨u, n, rfl, hun⟩, hb6⟩; have HUN := Lib.hid hun; clear hun; have hS6 := Q2.next (w := w) (s1 := s1) (a1 := a1) (d1 := d1) (s2 := s2) (a2 := a2) (d2 := d2) (by first | assumption | exact Q2.drew (by assumption) | (go_split_ands; assumption)) hb6; have hZ6 := QZ.next (w := w) (by first | assumption | exact QZ.drew (by assumption) | (go_split_ands; assumption)) hb6; obtain ⟨x60, x61, x62, x63, x64, x65, -, -, -, -, -, -⟩ := Q2.all hS6; obtain ⟨y60, y61, y62, yf60, yf61, yf62⟩ := QZ.cells hZ6)
            | fail)
        all_goals
          go_wp2_with fail
          go_meet
          exact ⟨u, n, rfl, rfl, HUN.out, hS6, hZ6⟩
      case rest =>
        obtain ⟨u, n, rfl, rfl, HUN, HQ2, HZ2⟩ := hcut
        clear c0 c1 c2 c3 c4 c5 z0 z1 z2 zf0 zf1 zf2
        obtain ⟨c0, c1, c2, c3, c4, c5, -, -, -, -, -, -⟩ := Q2.all HQ2
        obtain ⟨z0, z1, z2, zf0, zf1, zf2⟩ := QZ.cells HZ2
        go_wp2_with fail
        refine (mul_G x.den y.den k _ H1.out.d H2.out.d HZ.out.1.2 HZ.out.2.2 (by omega)).mono ?_
        rintro e w5 ⟨rfl, hb5⟩
        have hS5 := Q2.next (w := w) (s1 := s1) (a1 := a1) (d1 := d1) (s2 := s2) (a2 := a2) (d2 := d2) HQ2 hb5
        have hZ5 := QZ.next (w := w) HZ2 hb5
        go_wp2_with fail
        refine (made_G u n (k + k + k + k + 1) (x.den * y.den) (x + y) _ H3.out rfl (Nat.mul_ne_zero x.den_nz y.den_nz) (by rw [HUN.out, Rat.add_def']) ((sz_abs (k := k + k) HUN.out (by rw [Int.natAbs_mul]; exact HZ.out.1.1.mul HZ.out.2.2) (by rw [Int.natAbs_mul]; exact HZ.out.2.1.mul HZ.out.1.2)).more (by omega)) ((HZ.out.1.2.mul HZ.out.2.2).more (by omega)) (by omega) (HH.out.2.2.next hS5.out.below)).mono ?_
        rintro e w7 ⟨rfl, hb7⟩
        have hS7 := Q2.next (w := w) (s1 := s1) (a1 := a1) (d1 := d1) (s2 := s2) (a2 := a2) (d2 := d2) hS5 hb7
        have hZ7 := QZ.next (w := w) hZ5 hb7
        obtain ⟨y70, y71, y72, yf70, yf71, yf72⟩ := QZ.cells hZ7
        go_wp2_with fail
        have hW := put3 hZ7.out (.bool s3) (.string a3) (.string d3)
        have hWb := put3_below (g := w.heap.size + 2) hS7.out.below (by omega) (.bool s3) (.string a3) (.string d3)
        obtain ⟨p0, p1, p2, -, -, -⟩ := hW.three
        refine bodyPost_ret (v := .agg #[.bool s3, .string a3, .string d3]) (by simp [results, Tryd.results24, go_sem, p0, p1, p2]) rfl ⟨rfl, hWb⟩
end Go.Proofs.YtlfddhiimcophaaDoor
