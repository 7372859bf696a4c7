/- Walks of package rat: Sub, Min, Max (printed by ratgen.py). -/
import Derived.Test.YtlfddhiimcophaaDoorRatH
namespace Go.Proofs.YtlfddhiimcophaaDoor
open Go.RowKit
set_option linter.unusedVariables false
set_option linter.unusedSimpArgs false

set_option maxHeartbeats 2000000 in
theorem sub_R (k : Nat) (x y : Rat) (w : World) (hx : Rz k x) (hy : Rz k y) (hk : k ≤ 4398046511104) (hT : Tab w) :
    Calls Tryd.prog 25 #[R x, R y] w fun e w' => e = .returned (R (x - y)) ∧ Below w.heap.size w w' := by
  obtain ⟨s4, a4, d4, h4⟩ := R_parts (-y)
  have H4 := Lib.hid (And.intro h4 hy.neg); clear h4
  have HZ := Lib.hid (And.intro (And.intro (show Sz k x.num.natAbs from hx.1) (show Sz k x.den from hx.2)) (And.intro (show Sz k y.num.natAbs from hy.1) (show Sz k y.den from hy.2)))
  have HH := Lib.hid (And.intro hx (And.intro hy hT)); clear hx hy hT
  obtain ⟨s1, a1, d1, h1⟩ := R_parts x
  obtain ⟨s2, a2, d2, h2⟩ := R_parts y
  obtain ⟨s3, a3, d3, h3⟩ := R_parts (x - y)
  rw [h1.val, h2.val, h3.val]
  have H3 := Lib.hid h3; clear h3
  have H1 := Lib.hid h1; clear h1
  have H2 := Lib.hid h2; clear h2
  obtain ⟨W0, hW0⟩ : ∃ W0, W0 = (((w.alloc (.cells #[.bool s1, .string a1, .string d1] 35)).alloc (.cells #[.bool s2, .string a2, .string d2] 35)).alloc (.cells #[.bool false, .string ⟨#[]⟩, .string ⟨#[]⟩] 35)) := ⟨_, rfl⟩
  obtain ⟨HQ0, HZ0⟩ := q2_start w s1 a1 d1 s2 a2 d2
  rw [← hW0] at HQ0 HZ0
  have HW0 := Lib.hid hW0; clear hW0
  go_enter Tryd.func25, Tryd.ntmps25
  go_wp2_with fail
  rw [← HW0.out]
  obtain ⟨c0, c1, c2, c3, c4, c5, f0, f1, f2, f3, f4, f5⟩ := Q2.all HQ0
  obtain ⟨z0, z1, z2, zf0, zf1, zf2⟩ := QZ.cells HZ0
  go_region_held3 (fun w' => w'.cell? ⟨w.heap.size, 0, none⟩ = some (.bool s1) ∧ w'.cell? ⟨w.heap.size, 1, none⟩ = some (.string a1) ∧ w'.cell? ⟨w.heap.size, 2, none⟩ = some (.string d1) ∧ w'.cell? ⟨w.heap.size + 1, 0, none⟩ = some (.bool s2) ∧ w'.cell? ⟨w.heap.size + 1, 1, none⟩ = some (.string a2) ∧ w'.cell? ⟨w.heap.size + 1, 2, none⟩ = some (.string d2))
    (first | (go_keep; done) | (with_reducible exact Q2.six (Q2.put2 hS7)))
    (first
      | (go_at_call 27; (with_reducible refine (neg_O k y _ H2.out H4.out.1 HH.out.2.1 (by omega) (HH.out.2.2.next (Hid.out (p := Q2 w s1 a1 d1 s2 a2 d2 _) (by first | assumption | exact Q2.drew (by assumption) | (go_split_ands; assumption))).below)).mono ?_); rintro e w5 ⟨rfl, hb5⟩; have hS5 := Q2.next (w := w) (s1 := s1) (a1 := a1) (d1 := d1) (s2 := s2) (a2 := a2) (d2 := d2) (by first | assumption | exact Q2.drew (by assumption) | (go_split_ands; assumption)) hb5; have hZ5 := QZ.next (w := w) (by first | assumption | exact QZ.drew (by assumption) | (go_split_ands; assumption)) hb5; obtain ⟨x50, x51, x52, x53, x54, x55, -, -, -, -, -, -⟩ := Q2.all hS5; obtain ⟨y50, y51, y52, yf50, yf51, yf52⟩ := QZ.cells hZ5)
      | (go_at_call 24; (with_reducible refine (add_O k x (-y) (x - y) _ H1.out H4.out.1 H3.out (Rat.sub_eq_add_neg x y).symm HH.out.1 H4.out.2 hk (HH.out.2.2.next (Hid.out (p := Q2 w s1 a1 d1 s2 a2 d2 _) (by first | assumption | exact Q2.drew (by assumption) | (go_split_ands; assumption))).below)).mono ?_); rintro e w7 ⟨rfl, hb7⟩; have hS7 := Q2.next (w := w) (s1 := s1) (a1 := a1) (d1 := d1) (s2 := s2) (a2 := a2) (d2 := d2) (by first | assumption | exact Q2.drew (by assumption) | (go_split_ands; assumption)) hb7; have hZ7 := QZ.next (w := w) (by first | assumption | exact QZ.drew (by assumption) | (go_split_ands; assumption)) hb7; obtain ⟨x70, x71, x72, x73, x74, x75, -, -, -, -, -, -⟩ := Q2.all hS7; obtain ⟨y70, y71, y72, yf70, yf71, yf72⟩ := QZ.cells hZ7)
      | fail)
  all_goals
    go_wp2_with fail
    have hW := put3 hZ7.out (.bool s3) (.string a3) (.string d3)
    have hWb := put3_below (g := w.heap.size + 2) hS7.out.below (by omega) (.bool s3) (.string a3) (.string d3)
    obtain ⟨p0, p1, p2, -, -, -⟩ := hW.three
    refine bodyPost_ret (v := .agg #[.bool s3, .string a3, .string d3]) (by simp [results, Tryd.results25, go_sem, p0, p1, p2]) rfl ⟨rfl, hWb⟩
def minQ (x y : Rat) : Rat := if cmpQ x y ≤ 0 then x else y
def maxQ (x y : Rat) : Rat := if 0 ≤ cmpQ x y then x else y

set_option maxHeartbeats 2000000 in
theorem min_R (k : Nat) (x y : Rat) (w : World) (hx : Rz k x) (hy : Rz k y) (hk : k ≤ 4398046511104) (hT : Tab w) :
    Calls Tryd.prog 34 #[R x, R y] w fun e w' => e = .returned (R (minQ x y)) ∧ Below w.heap.size w w' := by
  have hcm : -1 ≤ cmpQ x y ∧ cmpQ x y ≤ 1 := by unfold cmpQ; split <;> (try split) <;> omega
  have HZ := Lib.hid (And.intro (And.intro (show Sz k x.num.natAbs from hx.1) (show Sz k x.den from hx.2)) (And.intro (show Sz k y.num.natAbs from hy.1) (show Sz k y.den from hy.2)))
  have HH := Lib.hid (And.intro hx (And.intro hy hT)); clear hx hy hT
  obtain ⟨s1, a1, d1, h1⟩ := R_parts x
  obtain ⟨s2, a2, d2, h2⟩ := R_parts y
  unfold minQ
  rw [h1.val, h2.val]
  have H1 := Lib.hid h1; clear h1
  have H2 := Lib.hid h2; clear h2
  by_cases hc : cmpQ x y ≤ 0
  · have hc' := hc
    rw [if_pos hc]
    rw [H1.out.val]
    have HC := Lib.hid hc; clear hc
    obtain ⟨W0, hW0⟩ : ∃ W0, W0 = (((w.alloc (.cells #[.bool s1, .string a1, .string d1] 35)).alloc (.cells #[.bool s2, .string a2, .string d2] 35)).alloc (.cells #[.bool false, .string ⟨#[]⟩, .string ⟨#[]⟩] 35)) := ⟨_, rfl⟩
    obtain ⟨HQ0, HZ0⟩ := q2_start w s1 a1 d1 s2 a2 d2
    rw [← hW0] at HQ0 HZ0
    have HW0 := Lib.hid hW0; clear hW0
    go_enter Tryd.func34, Tryd.ntmps34
    go_wp2_with fail
    rw [← HW0.out]
    obtain ⟨c0, c1, c2, c3, c4, c5, f0, f1, f2, f3, f4, f5⟩ := Q2.all HQ0
    obtain ⟨z0, z1, z2, zf0, zf1, zf2⟩ := QZ.cells HZ0
    go_wp2_with fail
    refine (cmp_O k x y _ H1.out H2.out HH.out.1 HH.out.2.1 (by omega) (HH.out.2.2.next HQ0.out.below)).mono ?_
    obtain ⟨cz, hcz⟩ : ∃ cz, cz = cmpQ x y := ⟨_, rfl⟩
    rw [← hcz] at hc' hcm ⊢
    have HCZ := Lib.hid hcz; clear hcz
    obtain ⟨l1, l2⟩ := hcm
    rintro e w5 ⟨rfl, hb5⟩
    have hS5 := Q2.next (w := w) (s1 := s1) (a1 := a1) (d1 := d1) (s2 := s2) (a2 := a2) (d2 := d2) HQ0 hb5
    have hZ5 := QZ.next (w := w) HZ0 hb5
    obtain ⟨x50, x51, x52, x53, x54, x55, -, -, -, -, -, -⟩ := Q2.all hS5
    go_wp2_with fail
    refine (fit_O k x s1 a1 d1 _ H1.out HH.out.1 (by omega) (HH.out.2.2.next hS5.out.below)).mono ?_
    rintro e w7 ⟨rfl, hb7⟩
    have hS7 := Q2.next (w := w) (s1 := s1) (a1 := a1) (d1 := d1) (s2 := s2) (a2 := a2) (d2 := d2) hS5 hb7
    have hZ7 := QZ.next (w := w) hZ5 hb7
    obtain ⟨y70, y71, y72, yf70, yf71, yf72⟩ := QZ.cells hZ7
    go_wp2_with fail
    have hW := put3 hZ7.out (.bool s1) (.string a1) (.string d1)
    have hWb := put3_below (g := w.heap.size + 2) hS7.out.below (by omega) (.bool s1) (.string a1) (.string d1)
    obtain ⟨p0, p1, p2, -, -, -⟩ := hW.three
    refine bodyPost_ret (v := .agg #[.bool s1, .string a1, .string d1]) (by simp [results, Tryd.results34, go_sem, p0, p1, p2]) rfl ⟨rfl, hWb⟩
  · have hc' := hc
    rw [if_neg hc]
    rw [H2.out.val]
    have HC := Lib.hid hc; clear hc
    obtain ⟨W0, hW0⟩ : ∃ W0, W0 = (((w.alloc (.cells #[.bool s1, .string a1, .string d1] 35)).alloc (.cells #[.bool s2, .string a2, .string d2] 35)).alloc (.cells #[.bool false, .string ⟨#[]⟩, .string ⟨#[]⟩] 35)) := ⟨_, rfl⟩
    obtain ⟨HQ0, HZ0⟩ := q2_start w s1 a1 d1 s2 a2 d2
    rw [← hW0] at HQ0 HZ0
    have HW0 := Lib.hid hW0; clear hW0
    go_enter Tryd.func34, Tryd.ntmps34
    go_wp2_with fail
    rw [← HW0.out]
    obtain ⟨c0, c1, c2, c3, c4, c5, f0, f1, f2, f3, f4, f5⟩ := Q2.all HQ0
    obtain ⟨z0, z1, z2, zf0, zf1, zf2⟩ := QZ.cells HZ0
    go_wp2_with fail
    refine (cmp_O k x y _ H1.out H2.out HH.out.1 HH.out.2.1 (by omega) (HH.out.2.2.next HQ0.out.below)).mono ?_
    obtain ⟨cz, hcz⟩ : ∃ cz, cz = cmpQ x y := ⟨_, rfl⟩
    rw [← hcz] at hc' hcm ⊢
    have HCZ := Lib.hid hcz; clear hcz
    obtain ⟨l1, l2⟩ := hcm
    rintro e w5 ⟨rfl, hb5⟩
    have hS5 := Q2.next (w := w) (s1 := s1) (a1 := a1) (d1 := d1) (s2 := s2) (a2 := a2) (d2 := d2) HQ0 hb5
    have hZ5 := QZ.next (w := w) HZ0 hb5
    obtain ⟨x50, x51, x52, x53, x54, x55, -, -, -, -, -, -⟩ := Q2.all hS5
    go_wp2_with fail
    refine (fit_O k y s2 a2 d2 _ H2.out HH.out.2.1 (by omega) (HH.out.2.2.next hS5.out.below)).mono ?_
    rintro e w7 ⟨rfl, hb7⟩
    have hS7 := Q2.next (w := w) (s1 := s1) (a1 := a1) (d1 := d1) (s2 := s2) (a2 := a2) (d2 := d2) hS5 hb7
    have hZ7 := QZ.next (w := w) hZ5 hb7
    obtain ⟨y70, y71, y72, yf70, yf71, yf72⟩ := QZ.cells hZ7
    go_wp2_with fail
    have hW := put3 hZ7.out (.bool s2) (.string a2) (.string d2)
    have hWb := put3_below (g := w.heap.size + 2) hS7.out.below (by omega) (.bool s2) (.string a2) (.string d2)
    obtain ⟨p0, p1, p2, -, -, -⟩ := hW.three
    refine bodyPost_ret (v := .agg #[.bool s2, .string a2, .string d2]) (by simp [results, Tryd.results34, go_sem, p0, p1, p2]) rfl ⟨rfl, hWb⟩

set_option maxHeartbeats 2000000 in
theorem max_R (k : Nat) (x y : Rat) (w : World) (hx : Rz k x) (hy : Rz k y) (hk : k ≤ 4398046511104) (hT : Tab w) :
    Calls Tryd.prog 35 #[R x, R y] w fun e w' => e = .returned (R (maxQ x y)) ∧ Below w.heap.size w w' := by
  have hcm : -1 ≤ cmpQ x y ∧ cmpQ x y ≤ 1 := by unfold cmpQ; split <;> (try split) <;> omega
  have HZ := Lib.hid (And.intro (And.intro (show Sz k x.num.natAbs from hx.1) (show Sz k x.den from hx.2)) (And.intro (show Sz k y.num.natAbs from hy.1) (show Sz k y.den from hy.2)))
  have HH := Lib.hid (And.intro hx (And.intro hy hT)); clear hx hy hT
  obtain ⟨s1, a1, d1, h1⟩ := R_parts x
  obtain ⟨s2, a2, d2, h2⟩ := R_parts y
  unfold maxQ
  rw [h1.val, h2.val]
  have H1 := Lib.hid h1; clear h1
  have H2 := Lib.hid h2; clear h2
  by_cases hc : 0 ≤ cmpQ x y
  · have hc' := hc
    rw [if_pos hc]
    rw [H1.out.val]
    have HC := Lib.hid hc; clear hc
    obtain ⟨W0, hW0⟩ : ∃ W0, W0 = (((w.alloc (.cells #[.bool s1, .string a1, .string d1] 35)).alloc (.cells #[.bool s2, .string a2, .string d2] 35)).alloc (.cells #[.bool false, .string ⟨#[]⟩, .string ⟨#[]⟩] 35)) := ⟨_, rfl⟩
    obtain ⟨HQ0, HZ0⟩ := q2_start w s1 a1 d1 s2 a2 d2
    rw [← hW0] at HQ0 HZ0
    have HW0 := Lib.hid hW0; clear hW0
    go_enter Tryd.func35, Tryd.ntmps35
    go_wp2_with fail
    rw [← HW0.out]
    obtain ⟨c0, c1, c2, c3, c4, c5, f0, f1, f2, f3, f4, f5⟩ := Q2.all HQ0
    obtain ⟨z0, z1, z2, zf0, zf1, zf2⟩ := QZ.cells HZ0
    go_wp2_with fail
    refine (cmp_O k x y _ H1.out H2.out HH.out.1 HH.out.2.1 (by omega) (HH.out.2.2.next HQ0.out.below)).mono ?_
    obtain ⟨cz, hcz⟩ : ∃ cz, cz = cmpQ x y := ⟨_, rfl⟩
    rw [← hcz] at hc' hcm ⊢
    have HCZ := Lib.hid hcz; clear hcz
    obtain ⟨l1, l2⟩ := hcm
    rintro e w5 ⟨rfl, hb5⟩
    have hS5 := Q2.next (w := w) (s1 := s1) (a1 := a1) (d1 := d1) (s2 := s2) (a2 := a2) (d2 := d2) HQ0 hb5
    have hZ5 := QZ.next (w := w) HZ0 hb5
    obtain ⟨x50, x51, x52, x53, x54, x55, -, -, -, -, -, -⟩ := Q2.all hS5
    go_wp2_with fail
    refine (fit_O k x s1 a1 d1 _ H1.out HH.out.1 (by omega) (HH.out.2.2.next hS5.out.below)).mono ?_
    rintro e w7 ⟨rfl, hb7⟩
    have hS7 := Q2.next (w := w) (s1 := s1) (a1 := a1) (d1 := d1) (s2 := s2) (a2 := a2) (d2 := d2) hS5 hb7
    have hZ7 := QZ.next (w := w) hZ5 hb7
    obtain ⟨y70, y71, y72, yf70, yf71, yf72⟩ := QZ.cells hZ7
    go_wp2_with fail
    have hW := put3 hZ7.out (.bool s1) (.string a1) (.string d1)
    have hWb := put3_below (g := w.heap.size + 2) hS7.out.below (by omega) (.bool s1) (.string a1) (.string d1)
    obtain ⟨p0, p1, p2, -, -, -⟩ := hW.three
    refine bodyPost_ret (v := .agg #[.bool s1, .string a1, .string d1]) (by simp [results, Tryd.results35, go_sem, p0, p1, p2]) rfl ⟨rfl, hWb⟩
  · have hc' := hc
    rw [if_neg hc]
    rw [H2.out.val]
    have HC := Lib.hid hc; clear hc
    obtain ⟨W0, hW0⟩ : ∃ W0, W0 = (((w.alloc (.cells #[.bool s1, .string a1, .string d1] 35)).alloc (.cells #[.bool s2, .string a2, .string d2] 35)).alloc (.cells #[.bool false, .string ⟨#[]⟩, .string ⟨#[]⟩] 35)) := ⟨_, rfl⟩
    obtain ⟨HQ0, HZ0⟩ := q2_start w s1 a1 d1 s2 a2 d2
    rw [← hW0] at HQ0 HZ0
    have HW0 := Lib.hid hW0; clear hW0
    go_enter Tryd.func35, Tryd.ntmps35
    go_wp2_with fail
    rw [← HW0.out]
    obtain ⟨c0, c1, c2, c3, c4, c5, f0, f1, f2, f3, f4, f5⟩ := Q2.all HQ0
    obtain ⟨z0, z1, z2, zf0, zf1, zf2⟩ := QZ.cells HZ0
    go_wp2_with fail
    refine (cmp_O k x y _ H1.out H2.out HH.out.1 HH.out.2.1 (by omega) (HH.out.2.2.next HQ0.out.below)).mono ?_
    obtain ⟨cz, hcz⟩ : ∃ cz, cz = cmpQ x y := ⟨_, rfl⟩
    rw [← hcz] at hc' hcm ⊢
    have HCZ := Lib.hid hcz; clear hcz
    obtain ⟨l1, l2⟩ := hcm
    rintro e w5 ⟨rfl, hb5⟩
    have hS5 := Q2.next (w := w) (s1 := s1) (a1 := a1) (d1 := d1) (s2 := s2) (a2 := a2) (d2 := d2) HQ0 hb5
    have hZ5 := QZ.next (w := w) HZ0 hb5
    obtain ⟨x50, x51, x52, x53, x54, x55, -, -, -, -, -, -⟩ := Q2.all hS5
    go_wp2_with fail
    refine (fit_O k y s2 a2 d2 _ H2.out HH.out.2.1 (by omega) (HH.out.2.2.next hS5.out.below)).mono ?_
    rintro e w7 ⟨rfl, hb7⟩
    have hS7 := Q2.next (w := w) (s1 := s1) (a1 := a1) (d1 := d1) (s2 := s2) (a2 := a2) (d2 := d2) hS5 hb7
    have hZ7 := QZ.next (w := w) hZ5 hb7
    obtain ⟨y70, y71, y72, yf70, yf71, yf72⟩ := QZ.cells hZ7
    go_wp2_with fail
    have hW := put3 hZ7.out (.bool s2) (.string a2) (.string d2)
    have hWb := put3_below (g := w.heap.size + 2) hS7.out.below (by omega) (.bool s2) (.string a2) (.string d2)
    obtain ⟨p0, p1, p2, -, -, -⟩ := hW.three
    refine bodyPost_ret (v := .agg #[.bool s2, .string a2, .string d2]) (by simp [results, Tryd.results35, go_sem, p0, p1, p2]) rfl ⟨rfl, hWb⟩
end Go.Proofs.YtlfddhiimcophaaDoor
