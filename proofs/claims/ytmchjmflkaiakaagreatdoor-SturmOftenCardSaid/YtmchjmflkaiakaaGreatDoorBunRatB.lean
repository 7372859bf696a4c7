import Derived.Test.YtmchjmflkaiakaaGreatDoorBunRatA
/- Walks of package rat: Neg, Abs, Sign, Sub, Min, Max. -/
set_option maxHeartbeats 2000000
set_option maxRecDepth 20000
namespace Go.Proofs.YtmchjmflkaiakaaGreatDoor
open Go.RowKit
set_option linter.unusedVariables false
set_option linter.unusedSimpArgs false
theorem put1 {w : World} {g : Nat} {t : TypeId} {a b c : Value} (h : Blk w g t #[a, b, c]) (x : Value) : Blk (w.setCell ⟨g, 0, none⟩ x) g t #[x, b, c] := h.set_ 0 x
theorem neg_parts {q : Rat} {s : Bool} {a d : ByteArray} (h : RIs q s a d) : (q.num < 0 ∧ s = true ∧ a.toList.isEmpty = false ∧ RIs (-q) false a d) ∨ (q.num = 0 ∧ s = false ∧ a.toList.isEmpty = true ∧ RIs (-q) false a d) ∨ (0 < q.num ∧ s = false ∧ a.toList.isEmpty = false ∧ RIs (-q) true a d) := by
 have hd : d = S (-q).den := h.d
 have ha : a = S (-q).num.natAbs := by rw [Rat.neg_num, Int.natAbs_neg]; exact h.a
 rcases Int.lt_trichotomy q.num 0 with h0 | h0 | h0
 ·exact .inl ⟨h0, by rw [h.s]; exact decide_eq_true h0, by rw [h.a]; exact S_empty_of (by omega), by rw [Rat.neg_num]; exact (decide_eq_false (by omega)).symm, ha, hd⟩
 ·exact .inr (.inl ⟨h0, by rw [h.s]; exact decide_eq_false (by omega), by rw [h.a, h0, S_list]; rfl, by rw [Rat.neg_num]; exact (decide_eq_false (by omega)).symm, ha, hd⟩)
 ·exact .inr (.inr ⟨h0, by rw [h.s]; exact decide_eq_false (by omega), by rw [h.a]; exact S_empty_of (by omega), by rw [Rat.neg_num]; exact (decide_eq_true (by omega)).symm, ha, hd⟩)
theorem Rz.neg {k : Nat} {q : Rat} (h : Rz k q) : Rz k (-q) := ⟨by rw [Rat.neg_num, Int.natAbs_neg]; exact h.1, h.2⟩
def absQ (q : Rat) : Rat := if q < 0 then -q else q
theorem abs_parts {q : Rat} {s : Bool} {a d : ByteArray} (h : RIs q s a d) : RIs (absQ q) false a d := by
 unfold absQ
 by_cases h0 : q.num < 0
 ·have h1 : q < 0 := by rw [Rat.lt_iff]; simpa using h0
  rw [if_pos h1]
  exact ⟨by rw [Rat.neg_num]; exact (decide_eq_false (by omega)).symm, by rw [Rat.neg_num, Int.natAbs_neg]; exact h.a, h.d⟩
 ·have h1 : ¬ q < 0 := by rw [Rat.lt_iff]; simpa using h0
  rw [if_neg h1]
  exact ⟨(decide_eq_false h0).symm, h.a, h.d⟩
theorem q1_fin {w w1 : World} (hb : Below w.heap.size w w1) (h : Blk w1 (w.heap.size + 1) 27 #[.bool false, .string ⟨#[]⟩, .string ⟨#[]⟩]) (v0 v1 v2 v3 x y z : Value) :
  Blk (((((((w1.setCell ⟨w.heap.size, 0, none⟩ v0).setCell ⟨w.heap.size, 1, none⟩ v1).setCell ⟨w.heap.size, 2, none⟩ v2).setCell ⟨w.heap.size, 0, none⟩ v3).setCell ⟨w.heap.size + 1, 0, none⟩ x).setCell ⟨w.heap.size + 1, 1, none⟩ y).setCell ⟨w.heap.size + 1, 2, none⟩ z) (w.heap.size + 1) 27 #[x, y, z] ∧
   Below w.heap.size w (((((((w1.setCell ⟨w.heap.size, 0, none⟩ v0).setCell ⟨w.heap.size, 1, none⟩ v1).setCell ⟨w.heap.size, 2, none⟩ v2).setCell ⟨w.heap.size, 0, none⟩ v3).setCell ⟨w.heap.size + 1, 0, none⟩ x).setCell ⟨w.heap.size + 1, 1, none⟩ y).setCell ⟨w.heap.size + 1, 2, none⟩ z) :=
 ⟨put3 ((((h.far (by simp) _).far (by simp) _).far (by simp) _).far (by simp) _) x y z, put3_below ((put3_below hb (Nat.le_refl _) v0 v1 v2).setCell (Nat.le_refl _) v3) (Nat.le_succ _) x y z⟩
theorem neg_R (k : Nat) (x : Rat) (w : World) (hx : Rz k x) (hk : k ≤ 35184372088832) (hT : Tab w) :
  Calls Tryz.prog 32 #[R x] w fun e w' => e = .returned (R (-x)) ∧ Below w.heap.size w w' := by
 have HH := yh (And.intro hx hT); clear hx hT
 obtain ⟨s1, a1, d1, h1⟩ := R_parts x
 rw [h1.val]
 have hb0 : Below w.heap.size w ((w.alloc (.cells #[.bool s1, .string a1, .string d1] 27)).alloc (.cells #[.bool false, .string ⟨#[]⟩, .string ⟨#[]⟩] 27)) := ((Below.refl _ _).alloc (Nat.le_refl _) _).alloc (by simp) _
 have HB0 := yh hb0; clear hb0
 rcases neg_parts h1 with ⟨hn, rfl, he, h3⟩ | ⟨hn, rfl, he, h3⟩ | ⟨hn, rfl, he, h3⟩
 ·rw [h3.val]
  have H1 := yh h1; clear h1 h3 hn
  go_enter Tryz.func32, Tryz.ntmps32
  go_wp2_with fail
  refine (fit_O k x _ a1 d1 _ H1.out HH.out.1 hk (HH.out.2.next HB0.out)).mono ?_
  rintro e w1 ⟨rfl, hb1⟩
  have k0 : Blk w1 w.heap.size 27 _ := ((Blk.new w _ _).alloc _).belowB hb1
  have k1 : Blk w1 (w.heap.size + 1) 27 #[.bool false, .string ⟨#[]⟩, .string ⟨#[]⟩] := (Blk.at_ (by simp)).belowB hb1
  obtain ⟨c0, c1, c2, g0, g1, g2⟩ := Blk.three k0
  obtain ⟨z0, z1, z2, f0, f1, f2⟩ := k1.three
  have HB1 := yh (And.intro (below_next HB0.out hb1) (And.intro k0 k1)); clear hb1 k0 k1
  go_wp2_with fail
  obtain ⟨hW, hWb⟩ := q1_fin (w := w) HB1.out.1 HB1.out.2.2 (.bool true) (.string a1) (.string d1) (.bool false) (.bool false) (.string a1) (.string d1)
  obtain ⟨p0, p1, p2, -, -, -⟩ := hW.three
  refine bodyPost_ret (v := .agg #[.bool false, .string a1, .string d1]) (by simp [results, Tryz.results32, go_sem, p0, p1, p2]) rfl ⟨rfl, hWb⟩
 ·rw [h3.val]
  have H1 := yh h1; clear h1 h3 hn
  go_enter Tryz.func32, Tryz.ntmps32
  go_wp2_with fail
  refine (fit_O k x _ a1 d1 _ H1.out HH.out.1 hk (HH.out.2.next HB0.out)).mono ?_
  rintro e w1 ⟨rfl, hb1⟩
  have k0 : Blk w1 w.heap.size 27 _ := ((Blk.new w _ _).alloc _).belowB hb1
  have k1 : Blk w1 (w.heap.size + 1) 27 #[.bool false, .string ⟨#[]⟩, .string ⟨#[]⟩] := (Blk.at_ (by simp)).belowB hb1
  obtain ⟨c0, c1, c2, g0, g1, g2⟩ := Blk.three k0
  obtain ⟨z0, z1, z2, f0, f1, f2⟩ := k1.three
  have HB1 := yh (And.intro (below_next HB0.out hb1) (And.intro k0 k1)); clear hb1 k0 k1
  go_wp2_with fail
  obtain ⟨hW, hWb⟩ := q1_fin (w := w) HB1.out.1 HB1.out.2.2 (.bool false) (.string a1) (.string d1) (.bool false) (.bool false) (.string a1) (.string d1)
  obtain ⟨p0, p1, p2, -, -, -⟩ := hW.three
  refine bodyPost_ret (v := .agg #[.bool false, .string a1, .string d1]) (by simp [results, Tryz.results32, go_sem, p0, p1, p2]) rfl ⟨rfl, hWb⟩
 ·rw [h3.val]
  have H1 := yh h1; clear h1 h3 hn
  go_enter Tryz.func32, Tryz.ntmps32
  go_wp2_with fail
  refine (fit_O k x _ a1 d1 _ H1.out HH.out.1 hk (HH.out.2.next HB0.out)).mono ?_
  rintro e w1 ⟨rfl, hb1⟩
  have k0 : Blk w1 w.heap.size 27 _ := ((Blk.new w _ _).alloc _).belowB hb1
  have k1 : Blk w1 (w.heap.size + 1) 27 #[.bool false, .string ⟨#[]⟩, .string ⟨#[]⟩] := (Blk.at_ (by simp)).belowB hb1
  obtain ⟨c0, c1, c2, g0, g1, g2⟩ := Blk.three k0
  obtain ⟨z0, z1, z2, f0, f1, f2⟩ := k1.three
  have HB1 := yh (And.intro (below_next HB0.out hb1) (And.intro k0 k1)); clear hb1 k0 k1
  go_wp2_with fail
  obtain ⟨hW, hWb⟩ := q1_fin (w := w) HB1.out.1 HB1.out.2.2 (.bool false) (.string a1) (.string d1) (.bool true) (.bool true) (.string a1) (.string d1)
  obtain ⟨p0, p1, p2, -, -, -⟩ := hW.three
  refine bodyPost_ret (v := .agg #[.bool true, .string a1, .string d1]) (by simp [results, Tryz.results32, go_sem, p0, p1, p2]) rfl ⟨rfl, hWb⟩
theorem abs_R (k : Nat) (x : Rat) (w : World) (hx : Rz k x) (hk : k ≤ 35184372088832) (hT : Tab w) :
  Calls Tryz.prog 74 #[R x] w fun e w' => e = .returned (R (absQ x)) ∧ Below w.heap.size w w' := by
 have HH := yh (And.intro hx hT); clear hx hT
 obtain ⟨s1, a1, d1, h1⟩ := R_parts x
 rw [h1.val, (abs_parts h1).val]
 have H1 := yh h1; clear h1
 have hb0 : Below w.heap.size w ((w.alloc (.cells #[.bool s1, .string a1, .string d1] 27)).alloc (.cells #[.bool false, .string ⟨#[]⟩, .string ⟨#[]⟩] 27)) := ((Below.refl _ _).alloc (Nat.le_refl _) _).alloc (by simp) _
 have HB0 := yh hb0; clear hb0
 go_enter Tryz.func74, Tryz.ntmps74
 go_wp2_with fail
 refine (fit_O k x _ a1 d1 _ H1.out HH.out.1 hk (HH.out.2.next HB0.out)).mono ?_
 rintro e w1 ⟨rfl, hb1⟩
 have k0 : Blk w1 w.heap.size 27 _ := ((Blk.new w _ _).alloc _).belowB hb1
 have k1 : Blk w1 (w.heap.size + 1) 27 #[.bool false, .string ⟨#[]⟩, .string ⟨#[]⟩] := (Blk.at_ (by simp)).belowB hb1
 obtain ⟨c0, c1, c2, g0, g1, g2⟩ := Blk.three k0
 obtain ⟨z0, z1, z2, f0, f1, f2⟩ := k1.three
 have HB1 := yh (And.intro (below_next HB0.out hb1) (And.intro k0 k1)); clear hb1 k0 k1
 go_wp2_with fail
 obtain ⟨hW, hWb⟩ := q1_fin (w := w) HB1.out.1 HB1.out.2.2 (.bool s1) (.string a1) (.string d1) (.bool false) (.bool false) (.string a1) (.string d1)
 obtain ⟨p0, p1, p2, -, -, -⟩ := hW.three
 refine bodyPost_ret (v := .agg #[.bool false, .string a1, .string d1]) (by simp [results, Tryz.results74, go_sem, p0, p1, p2]) rfl ⟨rfl, hWb⟩
def sgnQ (x : Rat) : Int := cmpQ x 0
theorem sgn_parts {q : Rat} {s : Bool} {a d : ByteArray} (h : RIs q s a d) : (q.num < 0 ∧ s = true ∧ a.toList.isEmpty = false ∧ sgnQ q = -1) ∨ (q.num = 0 ∧ s = false ∧ a.toList.isEmpty = true ∧ sgnQ q = 0) ∨ (0 < q.num ∧ s = false ∧ a.toList.isEmpty = false ∧ sgnQ q = 1) := by
 have l1 : q < 0 ↔ q.num < 0 := by rw [Rat.lt_iff]; simp
 have l2 : 0 < q ↔ 0 < q.num := by rw [Rat.lt_iff]; simp
 rcases neg_parts h with ⟨hn, h1, h2, -⟩ | ⟨hn, h1, h2, -⟩ | ⟨hn, h1, h2, -⟩
 ·exact .inl ⟨hn, h1, h2, by unfold sgnQ cmpQ; rw [if_pos (l1.2 hn)]⟩
 ·exact .inr (.inl ⟨hn, h1, h2, by unfold sgnQ cmpQ; rw [if_neg (fun h => by have := l1.1 h; omega), if_neg (fun h => by have := l2.1 h; omega)]⟩)
 ·exact .inr (.inr ⟨hn, h1, h2, by unfold sgnQ cmpQ; rw [if_neg (fun h => by have := l1.1 h; omega), if_pos (l2.2 hn)]⟩)
theorem sign_R (k : Nat) (x : Rat) (w : World) (hx : Rz k x) (hk : k ≤ 35184372088832) (hT : Tab w) :
  Calls Tryz.prog 27 #[R x] w fun e w' => e = .returned (.int .i64 (sgnQ x)) ∧ Below w.heap.size w w' := by
 have HH := yh (And.intro hx hT); clear hx hT
 obtain ⟨s1, a1, d1, h1⟩ := R_parts x
 rw [h1.val]
 have hb0 : Below w.heap.size w (w.alloc (.cells #[.bool s1, .string a1, .string d1] 27)) := (Below.refl _ _).alloc (Nat.le_refl _) _
 have HB0 := yh hb0; clear hb0
 rcases sgn_parts h1 with ⟨hn, rfl, he, h3⟩ | ⟨hn, rfl, he, h3⟩ | ⟨hn, rfl, he, h3⟩
 all_goals
  rw [h3]
  have H1 := yh h1; clear h1 h3 hn
  go_enter Tryz.func27, Tryz.ntmps27
  go_wp2_with fail
  refine (fit_O k x _ a1 d1 _ H1.out HH.out.1 hk (HH.out.2.next HB0.out)).mono ?_
  rintro e w1 ⟨rfl, hb1⟩
  have k0 : Blk w1 w.heap.size 27 _ := (Blk.new w _ _).belowB hb1
  obtain ⟨c0, c1, c2, g0, g1, g2⟩ := Blk.three k0
  have HB1 := yh (below_next HB0.out hb1); clear hb1 k0
  go_wp2_with fail
  go_ret
  exact ⟨rfl, put3_below HB1.out (Nat.le_refl _) _ _ _⟩
theorem cmp_O (k : Nat) (x y : Rat) {s1 s2 : Bool} {a1 d1 a2 d2 : ByteArray} (w : World) (h1 : RIs x s1 a1 d1) (h2 : RIs y s2 a2 d2) (hx : Rz k x) (hy : Rz k y) (hk : k ≤ 8796093022208) (hT : Tab w) :
  Calls Tryz.prog 29 #[.agg #[.bool s1, .string a1, .string d1], .agg #[.bool s2, .string a2, .string d2]] w fun e w' => e = .returned (.int .i64 (cmpQ x y)) ∧ Below w.heap.size w w' := by
 rw [← h1.val, ← h2.val]; exact cmp_R k x y w hx hy hk hT
theorem neg_O (k : Nat) (x : Rat) {s1 s3 : Bool} {a1 d1 a3 d3 : ByteArray} (w : World) (h1 : RIs x s1 a1 d1) (h3 : RIs (-x) s3 a3 d3) (hx : Rz k x) (hk : k ≤ 35184372088832) (hT : Tab w) :
  Calls Tryz.prog 32 #[.agg #[.bool s1, .string a1, .string d1]] w fun e w' => e = .returned (.agg #[.bool s3, .string a3, .string d3]) ∧ Below w.heap.size w w' := by
 rw [← h1.val, ← h3.val]; exact neg_R k x w hx hk hT
theorem add_O (k : Nat) (x y z : Rat) {s1 s2 s3 : Bool} {a1 d1 a2 d2 a3 d3 : ByteArray} (w : World) (h1 : RIs x s1 a1 d1) (h2 : RIs y s2 a2 d2) (h3 : RIs z s3 a3 d3) (hz : x + y = z) (hx : Rz k x) (hy : Rz k y) (hk : k ≤ 4398046511104) (hT : Tab w) :
  Calls Tryz.prog 49 #[.agg #[.bool s1, .string a1, .string d1], .agg #[.bool s2, .string a2, .string d2]] w fun e w' => e = .returned (.agg #[.bool s3, .string a3, .string d3]) ∧ Below w.heap.size w w' := by
 rw [← h1.val, ← h2.val, ← h3.val, ← hz]; exact add_R k x y w hx hy hk hT
end Go.Proofs.YtmchjmflkaiakaaGreatDoor
/- Walks of package rat: Sub, Min, Max (printed by ratgen.py). -/
namespace Go.Proofs.YtmchjmflkaiakaaGreatDoor
open Go.RowKit
set_option linter.unusedVariables false
set_option linter.unusedSimpArgs false
theorem sub_R (k : Nat) (x y : Rat) (w : World) (hx : Rz k x) (hy : Rz k y) (hk : k ≤ 4398046511104) (hT : Tab w) :
  Calls Tryz.prog 36 #[R x, R y] w fun e w' => e = .returned (R (x - y)) ∧ Below w.heap.size w w' := by
 obtain ⟨s4, a4, d4, h4⟩ := R_parts (-y)
 have H4 := yh (And.intro h4 hy.neg); clear h4
 have HZ := yh (And.intro (And.intro (show Sz k x.num.natAbs from hx.1) (show Sz k x.den from hx.2)) (And.intro (show Sz k y.num.natAbs from hy.1) (show Sz k y.den from hy.2)))
 have HH := yh (And.intro hx (And.intro hy hT)); clear hx hy hT
 obtain ⟨s1, a1, d1, h1⟩ := R_parts x
 obtain ⟨s2, a2, d2, h2⟩ := R_parts y
 obtain ⟨s3, a3, d3, h3⟩ := R_parts (x - y)
 rw [h1.val, h2.val, h3.val]
 have H3 := yh h3; clear h3
 have H1 := yh h1; clear h1
 have H2 := yh h2; clear h2
 obtain ⟨W0, hW0⟩ : ∃ W0, W0 = (((w.alloc (.cells #[.bool s1, .string a1, .string d1] 27)).alloc (.cells #[.bool s2, .string a2, .string d2] 27)).alloc (.cells #[.bool false, .string ⟨#[]⟩, .string ⟨#[]⟩] 27)) := ⟨_, rfl⟩
 obtain ⟨HQ0, HZ0⟩ := q2_start w s1 a1 d1 s2 a2 d2
 rw [← hW0] at HQ0 HZ0
 have HW0 := yh hW0; clear hW0
 go_enter Tryz.func36, Tryz.ntmps36
 go_wp2_with fail
 rw [← HW0.out]
 obtain ⟨c0, c1, c2, c3, c4, c5, f0, f1, f2, f3, f4, f5⟩ := Q2.all HQ0
 obtain ⟨z0, z1, z2, zf0, zf1, zf2⟩ := QZ.cells HZ0
 go_region_held3 (fun w' => w'.cell? ⟨w.heap.size, 0, none⟩ = some (.bool s1) ∧ w'.cell? ⟨w.heap.size, 1, none⟩ = some (.string a1) ∧ w'.cell? ⟨w.heap.size, 2, none⟩ = some (.string d1) ∧ w'.cell? ⟨w.heap.size + 1, 0, none⟩ = some (.bool s2) ∧ w'.cell? ⟨w.heap.size + 1, 1, none⟩ = some (.string a2) ∧ w'.cell? ⟨w.heap.size + 1, 2, none⟩ = some (.string d2))
  (first | (go_keep; done) | (with_reducible exact Q2.six (Q2.put2 hS7)))
  (first
   | (go_at_call 32; (with_reducible refine (neg_O k y _ H2.out H4.out.1 HH.out.2.1 (by omega) (HH.out.2.2.next (Hid.out (p := Q2 w s1 a1 d1 s2 a2 d2 _) (by first | assumption | exact Q2.drew (by assumption) | (go_split_ands; assumption))).below)).mono ?_); rintro e w5 ⟨rfl, hb5⟩; have hS5 := Q2.next (w := w) (s1 := s1) (a1 := a1) (d1 := d1) (s2 := s2) (a2 := a2) (d2 := d2) (by first | assumption | exact Q2.drew (by assumption) | (go_split_ands; assumption)) hb5; have hZ5 := QZ.next (w := w) (by first | assumption | exact QZ.drew (by assumption) | (go_split_ands; assumption)) hb5; obtain ⟨x50, x51, x52, x53, x54, x55, -, -, -, -, -, -⟩ := Q2.all hS5; obtain ⟨y50, y51, y52, yf50, yf51, yf52⟩ := QZ.cells hZ5)
   | (go_at_call 49; (with_reducible refine (add_O k x (-y) (x - y) _ H1.out H4.out.1 H3.out (Rat.sub_eq_add_neg x y).symm HH.out.1 H4.out.2 hk (HH.out.2.2.next (Hid.out (p := Q2 w s1 a1 d1 s2 a2 d2 _) (by first | assumption | exact Q2.drew (by assumption) | (go_split_ands; assumption))).below)).mono ?_); rintro e w7 ⟨rfl, hb7⟩; have hS7 := Q2.next (w := w) (s1 := s1) (a1 := a1) (d1 := d1) (s2 := s2) (a2 := a2) (d2 := d2) (by first | assumption | exact Q2.drew (by assumption) | (go_split_ands; assumption)) hb7; have hZ7 := QZ.next (w := w) (by first | assumption | exact QZ.drew (by assumption) | (go_split_ands; assumption)) hb7; obtain ⟨x70, x71, x72, x73, x74, x75, -, -, -, -, -, -⟩ := Q2.all hS7; obtain ⟨y70, y71, y72, yf70, yf71, yf72⟩ := QZ.cells hZ7)
   | fail)
 all_goals
  go_wp2_with fail
  have hW := put3 hZ7.out (.bool s3) (.string a3) (.string d3)
  have hWb := put3_below (g := w.heap.size + 2) hS7.out.below (by omega) (.bool s3) (.string a3) (.string d3)
  obtain ⟨p0, p1, p2, -, -, -⟩ := hW.three
  refine bodyPost_ret (v := .agg #[.bool s3, .string a3, .string d3]) (by simp [results, Tryz.results36, go_sem, p0, p1, p2]) rfl ⟨rfl, hWb⟩
def minQ (x y : Rat) : Rat := if cmpQ x y ≤ 0 then x else y
def maxQ (x y : Rat) : Rat := if 0 ≤ cmpQ x y then x else y
theorem min_R (k : Nat) (x y : Rat) (w : World) (hx : Rz k x) (hy : Rz k y) (hk : k ≤ 4398046511104) (hT : Tab w) :
  Calls Tryz.prog 63 #[R x, R y] w fun e w' => e = .returned (R (minQ x y)) ∧ Below w.heap.size w w' := by
 have hcm : -1 ≤ cmpQ x y ∧ cmpQ x y ≤ 1 := by unfold cmpQ; split <;> (try split) <;> omega
 have HZ := yh (And.intro (And.intro (show Sz k x.num.natAbs from hx.1) (show Sz k x.den from hx.2)) (And.intro (show Sz k y.num.natAbs from hy.1) (show Sz k y.den from hy.2)))
 have HH := yh (And.intro hx (And.intro hy hT)); clear hx hy hT
 obtain ⟨s1, a1, d1, h1⟩ := R_parts x
 obtain ⟨s2, a2, d2, h2⟩ := R_parts y
 unfold minQ
 rw [h1.val, h2.val]
 have H1 := yh h1; clear h1
 have H2 := yh h2; clear h2
 by_cases hc : cmpQ x y ≤ 0
 ·have hc' := hc
  rw [if_pos hc]
  rw [H1.out.val]
  have HC := yh hc; clear hc
  obtain ⟨W0, hW0⟩ : ∃ W0, W0 = (((w.alloc (.cells #[.bool s1, .string a1, .string d1] 27)).alloc (.cells #[.bool s2, .string a2, .string d2] 27)).alloc (.cells #[.bool false, .string ⟨#[]⟩, .string ⟨#[]⟩] 27)) := ⟨_, rfl⟩
  obtain ⟨HQ0, HZ0⟩ := q2_start w s1 a1 d1 s2 a2 d2
  rw [← hW0] at HQ0 HZ0
  have HW0 := yh hW0; clear hW0
  go_enter Tryz.func63, Tryz.ntmps63
  go_wp2_with fail
  rw [← HW0.out]
  obtain ⟨c0, c1, c2, c3, c4, c5, f0, f1, f2, f3, f4, f5⟩ := Q2.all HQ0
  obtain ⟨z0, z1, z2, zf0, zf1, zf2⟩ := QZ.cells HZ0
  go_wp2_with fail
  refine (cmp_O k x y _ H1.out H2.out HH.out.1 HH.out.2.1 (by omega) (HH.out.2.2.next HQ0.out.below)).mono ?_
  obtain ⟨cz, hcz⟩ : ∃ cz, cz = cmpQ x y := ⟨_, rfl⟩
  rw [← hcz] at hc' hcm ⊢
  have HCZ := yh hcz; clear hcz
  obtain ⟨l1, l2⟩ := hcm
  rintro e w5 ⟨rfl, hb5⟩
  have hS5 := Q2.next (w := w) (s1 := s1) (a1 := a1) (d1 := d1) (s2 := s2) (a2 := a2) (d2 := d2) HQ0 hb5
  have hZ5 := QZ.next (w := w) HZ0 hb5
  obtain ⟨x50, x51, x52, x53, x54, x55, -, -, -, -, -, -⟩ := Q2.all hS5
  go_wp2_with fail
  refine (fit_O k x s1 a1 d1 _ H1.out HH.out.1 (by omega) (HH.out.2.2.next hS5.out.below)).mono ?_
  rintro e w7 ⟨rfl, hb7⟩
  have hS7 := Q2.next (w := w) (s1 := s1) (a1 := a1) (d1 := d1) (s2 := s2) (a2 := a2) (d2 := d2) hS5 hb7
  have hZ7 := QZ.next (w := w) hZ5 hb7
  obtain ⟨y70, y71, y72, yf70, yf71, yf72⟩ := QZ.cells hZ7
  go_wp2_with fail
  have hW := put3 hZ7.out (.bool s1) (.string a1) (.string d1)
  have hWb := put3_below (g := w.heap.size + 2) hS7.out.below (by omega) (.bool s1) (.string a1) (.string d1)
  obtain ⟨p0, p1, p2, -, -, -⟩ := hW.three
  refine bodyPost_ret (v := .agg #[.bool s1, .string a1, .string d1]) (by simp [results, Tryz.results63, go_sem, p0, p1, p2]) rfl ⟨rfl, hWb⟩
 ·have hc' := hc
  rw [if_neg hc]
  rw [H2.out.val]
  have HC := yh hc; clear hc
  obtain ⟨W0, hW0⟩ : ∃ W0, W0 = (((w.alloc (.cells #[.bool s1, .string a1, .string d1] 27)).alloc (.cells #[.bool s2, .string a2, .string d2] 27)).alloc (.cells #[.bool false, .string ⟨#[]⟩, .string ⟨#[]⟩] 27)) := ⟨_, rfl⟩
  obtain ⟨HQ0, HZ0⟩ := q2_start w s1 a1 d1 s2 a2 d2
  rw [← hW0] at HQ0 HZ0
  have HW0 := yh hW0; clear hW0
  go_enter Tryz.func63, Tryz.ntmps63
  go_wp2_with fail
  rw [← HW0.out]
  obtain ⟨c0, c1, c2, c3, c4, c5, f0, f1, f2, f3, f4, f5⟩ := Q2.all HQ0
  obtain ⟨z0, z1, z2, zf0, zf1, zf2⟩ := QZ.cells HZ0
  go_wp2_with fail
  refine (cmp_O k x y _ H1.out H2.out HH.out.1 HH.out.2.1 (by omega) (HH.out.2.2.next HQ0.out.below)).mono ?_
  obtain ⟨cz, hcz⟩ : ∃ cz, cz = cmpQ x y := ⟨_, rfl⟩
  rw [← hcz] at hc' hcm ⊢
  have HCZ := yh hcz; clear hcz
  obtain ⟨l1, l2⟩ := hcm
  rintro e w5 ⟨rfl, hb5⟩
  have hS5 := Q2.next (w := w) (s1 := s1) (a1 := a1) (d1 := d1) (s2 := s2) (a2 := a2) (d2 := d2) HQ0 hb5
  have hZ5 := QZ.next (w := w) HZ0 hb5
  obtain ⟨x50, x51, x52, x53, x54, x55, -, -, -, -, -, -⟩ := Q2.all hS5
  go_wp2_with fail
  refine (fit_O k y s2 a2 d2 _ H2.out HH.out.2.1 (by omega) (HH.out.2.2.next hS5.out.below)).mono ?_
  rintro e w7 ⟨rfl, hb7⟩
  have hS7 := Q2.next (w := w) (s1 := s1) (a1 := a1) (d1 := d1) (s2 := s2) (a2 := a2) (d2 := d2) hS5 hb7
  have hZ7 := QZ.next (w := w) hZ5 hb7
  obtain ⟨y70, y71, y72, yf70, yf71, yf72⟩ := QZ.cells hZ7
  go_wp2_with fail
  have hW := put3 hZ7.out (.bool s2) (.string a2) (.string d2)
  have hWb := put3_below (g := w.heap.size + 2) hS7.out.below (by omega) (.bool s2) (.string a2) (.string d2)
  obtain ⟨p0, p1, p2, -, -, -⟩ := hW.three
  refine bodyPost_ret (v := .agg #[.bool s2, .string a2, .string d2]) (by simp [results, Tryz.results63, go_sem, p0, p1, p2]) rfl ⟨rfl, hWb⟩
theorem max_R (k : Nat) (x y : Rat) (w : World) (hx : Rz k x) (hy : Rz k y) (hk : k ≤ 4398046511104) (hT : Tab w) :
  Calls Tryz.prog 64 #[R x, R y] w fun e w' => e = .returned (R (maxQ x y)) ∧ Below w.heap.size w w' := by
 have hcm : -1 ≤ cmpQ x y ∧ cmpQ x y ≤ 1 := by unfold cmpQ; split <;> (try split) <;> omega
 have HZ := yh (And.intro (And.intro (show Sz k x.num.natAbs from hx.1) (show Sz k x.den from hx.2)) (And.intro (show Sz k y.num.natAbs from hy.1) (show Sz k y.den from hy.2)))
 have HH := yh (And.intro hx (And.intro hy hT)); clear hx hy hT
 obtain ⟨s1, a1, d1, h1⟩ := R_parts x
 obtain ⟨s2, a2, d2, h2⟩ := R_parts y
 unfold maxQ
 rw [h1.val, h2.val]
 have H1 := yh h1; clear h1
 have H2 := yh h2; clear h2
 by_cases hc : 0 ≤ cmpQ x y
 ·have hc' := hc
  rw [if_pos hc]
  rw [H1.out.val]
  have HC := yh hc; clear hc
  obtain ⟨W0, hW0⟩ : ∃ W0, W0 = (((w.alloc (.cells #[.bool s1, .string a1, .string d1] 27)).alloc (.cells #[.bool s2, .string a2, .string d2] 27)).alloc (.cells #[.bool false, .string ⟨#[]⟩, .string ⟨#[]⟩] 27)) := ⟨_, rfl⟩
  obtain ⟨HQ0, HZ0⟩ := q2_start w s1 a1 d1 s2 a2 d2
  rw [← hW0] at HQ0 HZ0
  have HW0 := yh hW0; clear hW0
  go_enter Tryz.func64, Tryz.ntmps64
  go_wp2_with fail
  rw [← HW0.out]
  obtain ⟨c0, c1, c2, c3, c4, c5, f0, f1, f2, f3, f4, f5⟩ := Q2.all HQ0
  obtain ⟨z0, z1, z2, zf0, zf1, zf2⟩ := QZ.cells HZ0
  go_wp2_with fail
  refine (cmp_O k x y _ H1.out H2.out HH.out.1 HH.out.2.1 (by omega) (HH.out.2.2.next HQ0.out.below)).mono ?_
  obtain ⟨cz, hcz⟩ : ∃ cz, cz = cmpQ x y := ⟨_, rfl⟩
  rw [← hcz] at hc' hcm ⊢
  have HCZ := yh hcz; clear hcz
  obtain ⟨l1, l2⟩ := hcm
  rintro e w5 ⟨rfl, hb5⟩
  have hS5 := Q2.next (w := w) (s1 := s1) (a1 := a1) (d1 := d1) (s2 := s2) (a2 := a2) (d2 := d2) HQ0 hb5
  have hZ5 := QZ.next (w := w) HZ0 hb5
  obtain ⟨x50, x51, x52, x53, x54, x55, -, -, -, -, -, -⟩ := Q2.all hS5
  go_wp2_with fail
  refine (fit_O k x s1 a1 d1 _ H1.out HH.out.1 (by omega) (HH.out.2.2.next hS5.out.below)).mono ?_
  rintro e w7 ⟨rfl, hb7⟩
  have hS7 := Q2.next (w := w) (s1 := s1) (a1 := a1) (d1 := d1) (s2 := s2) (a2 := a2) (d2 := d2) hS5 hb7
  have hZ7 := QZ.next (w := w) hZ5 hb7
  obtain ⟨y70, y71, y72, yf70, yf71, yf72⟩ := QZ.cells hZ7
  go_wp2_with fail
  have hW := put3 hZ7.out (.bool s1) (.string a1) (.string d1)
  have hWb := put3_below (g := w.heap.size + 2) hS7.out.below (by omega) (.bool s1) (.string a1) (.string d1)
  obtain ⟨p0, p1, p2, -, -, -⟩ := hW.three
  refine bodyPost_ret (v := .agg #[.bool s1, .string a1, .string d1]) (by simp [results, Tryz.results64, go_sem, p0, p1, p2]) rfl ⟨rfl, hWb⟩
 ·have hc' := hc
  rw [if_neg hc]
  rw [H2.out.val]
  have HC := yh hc; clear hc
  obtain ⟨W0, hW0⟩ : ∃ W0, W0 = (((w.alloc (.cells #[.bool s1, .string a1, .string d1] 27)).alloc (.cells #[.bool s2, .string a2, .string d2] 27)).alloc (.cells #[.bool false, .string ⟨#[]⟩, .string ⟨#[]⟩] 27)) := ⟨_, rfl⟩
  obtain ⟨HQ0, HZ0⟩ := q2_start w s1 a1 d1 s2 a2 d2
  rw [← hW0] at HQ0 HZ0
  have HW0 := yh hW0; clear hW0
  go_enter Tryz.func64, Tryz.ntmps64
  go_wp2_with fail
  rw [← HW0.out]
  obtain ⟨c0, c1, c2, c3, c4, c5, f0, f1, f2, f3, f4, f5⟩ := Q2.all HQ0
  obtain ⟨z0, z1, z2, zf0, zf1, zf2⟩ := QZ.cells HZ0
  go_wp2_with fail
  refine (cmp_O k x y _ H1.out H2.out HH.out.1 HH.out.2.1 (by omega) (HH.out.2.2.next HQ0.out.below)).mono ?_
  obtain ⟨cz, hcz⟩ : ∃ cz, cz = cmpQ x y := ⟨_, rfl⟩
  rw [← hcz] at hc' hcm ⊢
  have HCZ := yh hcz; clear hcz
  obtain ⟨l1, l2⟩ := hcm
  rintro e w5 ⟨rfl, hb5⟩
  have hS5 := Q2.next (w := w) (s1 := s1) (a1 := a1) (d1 := d1) (s2 := s2) (a2 := a2) (d2 := d2) HQ0 hb5
  have hZ5 := QZ.next (w := w) HZ0 hb5
  obtain ⟨x50, x51, x52, x53, x54, x55, -, -, -, -, -, -⟩ := Q2.all hS5
  go_wp2_with fail
  refine (fit_O k y s2 a2 d2 _ H2.out HH.out.2.1 (by omega) (HH.out.2.2.next hS5.out.below)).mono ?_
  rintro e w7 ⟨rfl, hb7⟩
  have hS7 := Q2.next (w := w) (s1 := s1) (a1 := a1) (d1 := d1) (s2 := s2) (a2 := a2) (d2 := d2) hS5 hb7
  have hZ7 := QZ.next (w := w) hZ5 hb7
  obtain ⟨y70, y71, y72, yf70, yf71, yf72⟩ := QZ.cells hZ7
  go_wp2_with fail
  have hW := put3 hZ7.out (.bool s2) (.string a2) (.string d2)
  have hWb := put3_below (g := w.heap.size + 2) hS7.out.below (by omega) (.bool s2) (.string a2) (.string d2)
  obtain ⟨p0, p1, p2, -, -, -⟩ := hW.three
  refine bodyPost_ret (v := .agg #[.bool s2, .string a2, .string d2]) (by simp [results, Tryz.results64, go_sem, p0, p1, p2]) rfl ⟨rfl, hWb⟩
end Go.Proofs.YtmchjmflkaiakaaGreatDoor
/- Walks of packages nat and rat: Of, Make. -/
namespace Go.Proofs.YtmchjmflkaiakaaGreatDoor
open Go.RowKit
set_option linter.unusedVariables false
set_option linter.unusedSimpArgs false
theorem natOf_any (n : Int) (w : World) (h0 : -9223372036854775808 ≤ n) (h1 : n ≤ 9223372036854775807) :
  Calls Tryz.prog 81 #[.int .i64 n] w fun e w' => e = .returned (.string (S n.toNat)) ∧ Below w.heap.size w w' := by
 by_cases h : n < 1
 ·have e0 : n.toNat = 0 := by omega
  rw [e0]
  go_enter Tryz.func81, Tryz.ntmps81
  go_wp2_with fail
  go_ret
  exact ⟨rfl, Below.refl _ _⟩
 ·obtain ⟨m, rfl⟩ : ∃ m : Nat, n = m := ⟨n.toNat, by omega⟩
  rw [Int.toNat_natCast]
  have ew : IntKind.u64.wrap (m : Int) = (m : Int) := u64_wrap_nat (by omega)
  have hm : m < 256 ^ 8 := by omega
  have HM := yh hm; clear hm
  go_enter Tryz.func81, Tryz.ntmps81
  go_wp2_with fail
  refine (fromShort_any m _ HM.out).mono ?_
  rintro e w1 ⟨rfl, hb⟩
  have HB := yh hb; clear hb
  go_wp2_with fail
  go_ret
  exact ⟨rfl, HB.out⟩
theorem mkRat_one (z : Int) : mkRat z 1 = (z : Rat) := by
 apply Rat.ext
 ·rw [Rat.num_mkRat]; simp
 ·rw [Rat.den_mkRat]; simp
theorem Sz.small {n : Nat} (h : n < 256 ^ 8) : Sz 8 n := bstr_length_le.2 h
theorem Sz.one : Sz 1 1 := by unfold Sz; decide
theorem add_G (m n k : Nat) {a b : ByteArray} (w : World) (ha : a = S m) (hb : b = S n) (h : Sz k m) (h' : Sz k n) (hk : k ≤ 35184372088832) :
  Calls Tryz.prog 82 #[.string a, .string b] w fun e w' => e = .returned (.string (S (m + n))) ∧ Below w.heap.size w w' := by
 rw [ha, hb]; exact add_S m n w (Nat.le_trans h hk) (Nat.le_trans h' hk)
theorem RIs.int {z : Int} {q : Rat} (h : q = (z : Rat)) : q.num = z ∧ q.den = 1 := by subst h; exact ⟨rfl, rfl⟩
theorem Rz.int {z : Int} {k : Nat} (h : z.natAbs < 256 ^ k) (hk : 1 ≤ k) : Rz k (z : Rat) := ⟨bstr_length_le.2 h, Sz.one.more hk⟩
theorem of_R (n : Int) (w : World) (h0 : -9223372036854775808 ≤ n) (h1 : n ≤ 9223372036854775807) (hT : Tab w) :
  Calls Tryz.prog 31 #[.int .i64 n] w fun e w' => e = .returned (R (n : Rat)) ∧ Below w.heap.size w w' := by
 obtain ⟨s3, a3, d3, h3⟩ := R_parts (n : Rat)
 rw [h3.val]
 have H3 := yh h3; clear h3
 have hb0 : Below w.heap.size w (w.alloc (.cells #[.bool false, .string ⟨#[]⟩, .string ⟨#[]⟩] 27)) := (Below.refl _ _).alloc (Nat.le_refl _) _
 have HB0 := yh (And.intro hb0 hT); clear hb0 hT
 by_cases hn : 0 ≤ n
 ·have hr : mkRat (sg false n.toNat) 1 = (n : Rat) := by
   have : sg false n.toNat = n := by unfold sg; simp; omega
   rw [this, mkRat_one]
  have HR := yh hr; clear hr
  go_enter Tryz.func31, Tryz.ntmps31
  go_wp2_with fail
  refine (natOf_any n _ h0 h1).mono ?_
  rintro e w1 ⟨rfl, hb1⟩
  have HB1 := yh (below_next HB0.out.1 hb1)
  have k1 : Blk w1 w.heap.size 27 #[.bool false, .string ⟨#[]⟩, .string ⟨#[]⟩] := (Blk.new w _ _).belowB hb1
  have K1 := yh k1; clear k1 hb1
  go_wp2_with fail
  refine (made_G false n.toNat 8 1 (n : Rat) _ H3.out S_one.symm (by omega) HR.out (Sz.small (by omega)) (Sz.one.more (by omega)) (by omega) (HB0.out.2.next HB1.out)).mono ?_
  rintro e w2 ⟨rfl, hb2⟩
  have k2 : Blk w2 w.heap.size 27 #[.bool false, .string ⟨#[]⟩, .string ⟨#[]⟩] := Blk.belowB K1.out hb2
  obtain ⟨z0, z1, z2, f0, f1, f2⟩ := k2.three
  have HB2 := yh (And.intro (below_next HB1.out hb2) k2); clear hb2 k2
  go_wp2_with fail
  have hW := put3 HB2.out.2 (.bool s3) (.string a3) (.string d3)
  have hWb := put3_below (g := w.heap.size) HB2.out.1 (Nat.le_refl _) (.bool s3) (.string a3) (.string d3)
  obtain ⟨p0, p1, p2, -, -, -⟩ := hW.three
  refine bodyPost_ret (v := .agg #[.bool s3, .string a3, .string d3]) (by simp [results, Tryz.results31, go_sem, p0, p1, p2]) rfl ⟨rfl, hWb⟩
 ·have hr : mkRat (sg true ((-(n + 1)).toNat + 1)) 1 = (n : Rat) := by
   have : sg true ((-(n + 1)).toNat + 1) = n := by unfold sg; simp; omega
   rw [this, mkRat_one]
  have HR := yh hr; clear hr
  obtain ⟨z, hz⟩ : ∃ z, z = -(n + 1) := ⟨_, rfl⟩
  have hz0 : 0 ≤ z := by omega
  have hz1 : z ≤ 9223372036854775807 := by omega
  rw [← hz] at HR
  have e1 : -(n + 1) = z := hz.symm
  have HZ := yh hz; clear hz
  go_enter Tryz.func31, Tryz.ntmps31
  go_wp2_with fail
  refine (natOf_any z _ (by omega) hz1).mono ?_
  rintro e w1 ⟨rfl, hb1⟩
  have HB1 := yh (below_next HB0.out.1 hb1)
  have k1 : Blk w1 w.heap.size 27 #[.bool false, .string ⟨#[]⟩, .string ⟨#[]⟩] := (Blk.new w _ _).belowB hb1
  have K1 := yh k1; clear k1 hb1
  go_wp2_with fail
  refine (add_G z.toNat 1 8 _ rfl S_one.symm (Sz.small (by omega)) (Sz.one.more (by omega)) (by omega)).mono ?_
  rintro e w2 ⟨rfl, hb2⟩
  have HB2 := yh (below_next HB1.out hb2)
  have k2 : Blk w2 w.heap.size 27 #[.bool false, .string ⟨#[]⟩, .string ⟨#[]⟩] := Blk.belowB K1.out hb2
  have K2 := yh k2; clear k2 hb2
  go_wp2_with fail
  refine (made_G true (z.toNat + 1) 8 1 (n : Rat) _ H3.out S_one.symm (by omega) HR.out (Sz.small (by omega)) (Sz.one.more (by omega)) (by omega) (HB0.out.2.next HB2.out)).mono ?_
  rintro e w3 ⟨rfl, hb3⟩
  have k3 : Blk w3 w.heap.size 27 #[.bool false, .string ⟨#[]⟩, .string ⟨#[]⟩] := Blk.belowB K2.out hb3
  obtain ⟨z0, z1, z2, f0, f1, f2⟩ := k3.three
  have HB3 := yh (And.intro (below_next HB2.out hb3) k3); clear hb3 k3
  go_wp2_with fail
  have hW := put3 HB3.out.2 (.bool s3) (.string a3) (.string d3)
  have hWb := put3_below (g := w.heap.size) HB3.out.1 (Nat.le_refl _) (.bool s3) (.string a3) (.string d3)
  obtain ⟨p0, p1, p2, -, -, -⟩ := hW.three
  refine bodyPost_ret (v := .agg #[.bool s3, .string a3, .string d3]) (by simp [results, Tryz.results31, go_sem, p0, p1, p2]) rfl ⟨rfl, hWb⟩
theorem of_O (n : Int) {s a d} (w : World) (h : RIs (n : Rat) s a d) (h0 : -9223372036854775808 ≤ n) (h1 : n ≤ 9223372036854775807) (hT : Tab w) :
  Calls Tryz.prog 31 #[.int .i64 n] w fun e w' => e = .returned (.agg #[.bool s, .string a, .string d]) ∧ Below w.heap.size w w' := by
 rw [← h.val]; exact of_R n w h0 h1 hT
theorem div_O (k : Nat) (x y z : Rat) {s1 s2 s3 : Bool} {a1 d1 a2 d2 a3 d3 : ByteArray} (w : World) (h1 : RIs x s1 a1 d1) (h2 : RIs y s2 a2 d2) (h3 : RIs z s3 a3 d3) (hz : x / y = z) (hy0 : y ≠ 0) (hx : Rz k x) (hy : Rz k y) (hk : k ≤ 4398046511104) (hT : Tab w) :
  Calls Tryz.prog 47 #[.agg #[.bool s1, .string a1, .string d1], .agg #[.bool s2, .string a2, .string d2]] w fun e w' => e = .returned (.tuple #[.agg #[.bool s3, .string a3, .string d3], .int .i64 0]) ∧ Below w.heap.size w w' := by
 rw [← h1.val, ← h2.val, ← h3.val, ← hz]; exact div_R k x y w hx hy hy0 hk hT
theorem ofI_ne {n : Int} (h : n ≠ 0) : (n : Rat) ≠ 0 := fun e => h (by have := congrArg Rat.num e; simpa using this)
theorem make_R (m n : Int) (w : World) (h0 : -9223372036854775808 ≤ m) (h1 : m ≤ 9223372036854775807) (h2 : -9223372036854775808 ≤ n) (h3 : n ≤ 9223372036854775807) (hn : n ≠ 0) (hT : Tab w) :
  Calls Tryz.prog 52 #[.int .i64 m, .int .i64 n] w fun e w' => e = .returned (.tuple #[R ((m : Rat) / (n : Rat)), .int .i64 0]) ∧ Below w.heap.size w w' := by
 obtain ⟨s1, a1, d1, q1⟩ := R_parts (m : Rat)
 obtain ⟨s2, a2, d2, q2⟩ := R_parts (n : Rat)
 obtain ⟨s3, a3, d3, q3⟩ := R_parts ((m : Rat) / (n : Rat))
 rw [q3.val]
 have HQ := yh (And.intro (And.intro q1 q2) (And.intro q3 (And.intro (ofI_ne hn) hT))); clear q1 q2 q3 hn hT
 have HI := yh (And.intro (And.intro h0 h1) (And.intro h2 h3))
 have HRz := yh (And.intro (Rz.int (z := m) (k := 8) (by omega) (by omega)) (Rz.int (z := n) (k := 8) (by omega) (by omega)))
 have hb0 : Below w.heap.size w (w.alloc (.cells #[.bool false, .string ⟨#[]⟩, .string ⟨#[]⟩] 27)) := (Below.refl _ _).alloc (Nat.le_refl _) _
 have HB0 := yh hb0; clear hb0 h0 h1 h2 h3
 go_enter Tryz.func52, Tryz.ntmps52
 go_wp2_with fail
 refine (of_O m _ HQ.out.1.1 HI.out.1.1 HI.out.1.2 (HQ.out.2.2.2.next HB0.out)).mono ?_
 rintro e w1 ⟨rfl, hb1⟩
 have HB1 := yh (below_next HB0.out hb1)
 have k1 : Blk w1 w.heap.size 27 #[.bool false, .string ⟨#[]⟩, .string ⟨#[]⟩] := (Blk.new w _ _).belowB hb1
 have K1 := yh k1; clear k1 hb1
 go_wp2_with fail
 refine (of_O n _ HQ.out.1.2 HI.out.2.1 HI.out.2.2 (HQ.out.2.2.2.next HB1.out)).mono ?_
 rintro e w2 ⟨rfl, hb2⟩
 have HB2 := yh (below_next HB1.out hb2)
 have k2 : Blk w2 w.heap.size 27 #[.bool false, .string ⟨#[]⟩, .string ⟨#[]⟩] := Blk.belowB K1.out hb2
 have K2 := yh k2; clear k2 hb2
 go_wp2_with fail
 refine (div_O 8 _ _ _ _ HQ.out.1.1 HQ.out.1.2 HQ.out.2.1 rfl HQ.out.2.2.1 HRz.out.1 HRz.out.2 (by omega) (HQ.out.2.2.2.next HB2.out)).mono ?_
 rintro e w3 ⟨rfl, hb3⟩
 have k3 : Blk w3 w.heap.size 27 #[.bool false, .string ⟨#[]⟩, .string ⟨#[]⟩] := Blk.belowB K2.out hb3
 obtain ⟨z0, z1, z2, f0, f1, f2⟩ := k3.three
 have HB3 := yh (And.intro (below_next HB2.out hb3) k3); clear hb3 k3
 go_wp2_with fail
 have hW := put3 HB3.out.2 (.bool s3) (.string a3) (.string d3)
 have hWb := put3_below (g := w.heap.size) HB3.out.1 (Nat.le_refl _) (.bool s3) (.string a3) (.string d3)
 obtain ⟨p0, p1, p2, -, -, -⟩ := hW.three
 refine bodyPost_ret (v := .tuple #[.agg #[.bool s3, .string a3, .string d3], .int .i64 0]) (by simp [results, Tryz.results52, go_sem, p0, p1, p2]) rfl ⟨rfl, hWb⟩
end Go.Proofs.YtmchjmflkaiakaaGreatDoor
/- Walks of package gantmake: Below, digits, Of, Rat. -/
namespace Go.Proofs.YtmchjmflkaiakaaGreatDoor
open Go.RowKit
set_option linter.unusedVariables false
set_option linter.unusedSimpArgs false
theorem reverse_nil (c : Nat) (w : World) : Calls Tryz.prog 167 #[.slice none 0 c] w fun e w' => e = .returned (.tuple #[]) ∧ w = w' := by
 go_enter Tryz.func167, Tryz.ntmps167
 go_wp2_with fail
 go_loopg [2, 3] 0 (fun kk i j wv => kk = 0 ∧ i = .int .i64 0 ∧ j = .int .i64 (-1) ∧ w = wv)
 case atStart => exact ⟨rfl, rfl, rfl, rfl⟩
 case round =>
  obtain ⟨-, rfl, rfl, rfl⟩ := hrel
  go_wp2_with fail
  go_end0
  exact ⟨rfl, rfl⟩
theorem reverse_any (ds : List UInt8) (g k c B : Nat) (w : World) (hk : k = ds.length) (hk2 : k ≤ 4611686018427387904) (hB : B ≤ g) (hrow : RowB w g ds) :
  Calls Tryz.prog 167 #[.slice (some ⟨g, 0, none⟩) k c] w fun e w' => e = .returned (.tuple #[]) ∧ Below B w w' ∧ RowB w' g ds.reverse := by
 have HK := yh (And.intro hk hrow); clear hk hrow
 go_enter Tryz.func167, Tryz.ntmps167
 go_wp2_with fail
 go_loopg [2, 3] k (fun kk i j wv => ∃ (a : Nat) (bs : List UInt8), kk = k - a ∧ a ≤ k ∧ i = .int .i64 a ∧ j = .int .i64 ((k : Int) - 1 - (a : Int)) ∧ Hid (RowB wv g bs) ∧ Hid (Below B w wv) ∧ Hid (Swp ds a bs))
 case atStart => exact ⟨0, ds, rfl, Nat.zero_le _, rfl, by go_num, HK.out.2, Below.refl _ _, Swp.zero _⟩
 case round =>
  obtain ⟨a, bs, hgk, ha, rfl, rfl, hrow, hbel2, hswp⟩ := hrel
  have HGK := yh hgk; clear hgk
  by_cases hlt : a + a + 1 < k
  ·have hbl : k = bs.length := by rw [hswp.out.1]; exact HK.out.1
   obtain ⟨x, hx⟩ := get_of_lt hbl (show a < k by omega)
   obtain ⟨y, hy⟩ := get_of_lt hbl (show k - 1 - a < k by omega)
   have c0 := hrow.out.2.2 _ _ hx
   have c1 := hrow.out.2.2 _ _ hy
   have f0 := hrow.out.2.1 a
   have f1 := hrow.out.2.1 (k - 1 - a)
   have HX := yh (And.intro hx hy); clear hx hy hbl
   have q0 : (0 : Int) ≤ (k : Int) - 1 - (a : Int) := by omega
   have q1 : (k : Int) - 1 - (a : Int) < (k : Int) := by omega
   have q2 : ((k : Int) - 1 - (a : Int)).toNat = k - 1 - a := by omega
   have q3 : (a : Int) < (k : Int) := by omega
   have q4 : (a : Int) < (k : Int) - 1 - (a : Int) := by omega
   go_wp2_with fail
   go_region
   all_goals go_wp2_with fail
   go_roundg (k - (a + 1))
   case measure => rw [HGK.out]; omega
   case rel =>
    refine ⟨a + 1, (bs.set a y).set (k - 1 - a) x, rfl, by omega, by go_num, by go_num, ?_, ((hbel2.out.setCell hB _).setCell hB _).drew, ?_⟩
    ·have hx2 : (bs.set a y)[k - 1 - a]? = some y := by rw [List.getElem?_set_ne (by omega)]; exact HX.out.2
     exact ((hrow.out.set_ HX.out.1 y).set_ hx2 x).drew
    ·have h1 := hswp.out.step (x := x) (y := y) (by rw [← HK.out.1]; omega) HX.out.1 (by rw [← HK.out.1]; exact HX.out.2)
     rw [← HK.out.1] at h1
     exact h1
  ·have hdone := hswp.out.done (by rw [← HK.out.1]; omega)
   have q4 : ¬ (a : Int) < (k : Int) - 1 - (a : Int) := by omega
   have HD := yh hdone; clear hdone
   go_wp2_with fail
   go_end0
   exact ⟨rfl, hbel2.out, by rw [← HD.out]; exact hrow.out⟩
theorem digits_any (n : Nat) (w : World) (hn : n ≤ 9223372036854775807) :
  Calls Tryz.prog 139 #[.int .i64 n] w fun e w' => e = .returned (.string (S n)) ∧ Below w.heap.size w w' := by
 obtain ⟨i0, hi0, hz0, hz1, hz2⟩ := info_parts infoU8
 have hlen : (bstr n).length ≤ 8 := bstr_length_le.2 (by omega)
 have HLEN := yh hlen; clear hlen
 go_enter Tryz.func139, Tryz.ntmps139
 go_wp2_with fail
 go_loopg [0, 3] n (fun k s0 o wr => ∃ (m : Nat) (ds : List UInt8), k = m ∧ m ≤ n ∧ s0 = .int .i64 (m : Nat) ∧ Hid (wr.ownsRow w.heap.size 5 1 o ds.length (bcells ds).toList) ∧ Hid (Below w.heap.size w wr) ∧ Hid (ds ++ (bstr m).reverse = (bstr n).reverse) ∧ Hid (ds.length = 0 → o = .slice none 0 0))
 case atStart => exact ⟨n, [], rfl, Nat.le_refl _, rfl, World.ownsRow_nil _ _ _ _, Below.refl _ _, rfl, fun _ => rfl⟩
 case round =>
  obtain ⟨m, ds, hgk, hmn, rfl, hown, hbel, hds, hnl⟩ := hrel
  have HGK := yh hgk; clear hgk
  have hdl : ds.length ≤ 8 := by
   have := congrArg List.length hds.out
   rw [List.length_append, List.length_reverse, List.length_reverse] at this
   have h2 := HLEN.out; omega
  by_cases hlt : 0 < m
  ·have hsz := hbel.out.size
   have eb : ((m : Int) % 256) = ((UInt8.ofNat (m % 256)).toNat : Int) := by rw [ofNat_toNat]; omega
   have HEB := yh eb; clear eb
   go_wp2_with (at_builtin; (refine wpList_append_any _ rfl (.tmp 8) (.tmp 12) _ rfl w.heap.size 5 i0 _ 1 1 Tryz.underlying185 hi0 hz0 hz1 hz2 rfl (by omega) _ ds.length (bcells ds).toList rfl (hown.out.alloc _) _ (some ⟨wr.heap.size, 0, none⟩) 1 1 [.int .u8 ((m : Int) % 256)] rfl (Blk.reads (t := 5) (cs := #[.int .u8 ((m : Int) % 256)]) (Blk.new _ _ _) rfl rfl) (by simp [Value.oneCell']) (by unfold maxLen; omega) (by omega) (by simp; omega) ?_; intro v2 w2 hown2 hg2 hat2))
   have hbel2 : Below w.heap.size w w2 := (hbel.out.alloc hbel.out.size _).grown hg2 (by have := hbel.out.size; simp; omega) (fun k hk => (hown.out.lt k hk).1)
   have hown3 : w2.ownsRow w.heap.size 5 1 v2 (ds ++ [UInt8.ofNat (m % 256)]).length (bcells (ds ++ [UInt8.ofNat (m % 256)])).toList := by
    have h1 : (bcells (ds ++ [UInt8.ofNat (m % 256)])).toList = (bcells ds).toList ++ [.int .u8 ((m : Int) % 256)] := by rw [HEB.out]; simp [bcells]
    rw [h1, List.length_append]; exact hown2
   have HO := yh (And.intro hown3 hbel2); clear hown2 hown3 hbel2 hg2 hat2
   go_wp2_with fail
   go_roundg (m / 256)
   case measure => rw [HGK.out]; omega
   case rel =>
    refine ⟨m / 256, ds ++ [UInt8.ofNat (m % 256)], rfl, by omega, by go_num, HO.out.1, HO.out.2, ?_, (fun h => by rw [List.length_append] at h; simp at h)⟩
    show _ = _
    rw [← hds.out, bstr_succ (show m ≠ 0 by omega), List.reverse_append, List.append_assoc]; rfl
  ·obtain rfl : m = 0 := by omega
   have hd : ds = (bstr n).reverse := by have := hds.out; rw [bstr_zero, List.reverse_nil, List.append_nil] at this; exact this
   rcases Nat.eq_zero_or_pos ds.length with hd0 | hd0
   ·have hn0 : n = 0 := by
     have h1 : (bstr n).reverse.length = 0 := by rw [← hd]; exact hd0
     rw [List.length_reverse] at h1
     exact bstr_eq_nil.1 (List.eq_nil_of_length_eq_zero h1)
    have hv := hnl.out hd0
    subst hv
    have hcv : ∀ w, (convert 185 9 (.slice none 0 0)).run Tryz.prog w = .ok (.string ⟨#[]⟩) w := fun _ => by kernel_rfl
    have HN0 := yh hn0; clear hn0 hd hd0
    go_wp2_with fail
    refine (reverse_nil 0 _).mono ?_
    rintro e w' ⟨rfl, rfl⟩
    go_wp2_with fail
    go_ret
    exact ⟨by rw [HN0.out]; rfl, hbel.out⟩
   ·obtain ⟨A, cc, ho, hcc⟩ := own_slice hown.out
    subst ho
    obtain ⟨g2, hA, hg2, hrow, hl⟩ := rowB_of_own hown.out hd0
    subst hA
    have HD := yh (And.intro hd hrow); clear hd hrow hd0 hl
    generalize hk : ds.length = k at *
    have HKK := yh hk; clear hk
    go_wp2_with fail
    refine (reverse_any ds g2 k cc w.heap.size _ HKK.out.symm (by omega) hg2 HD.out.2).mono ?_
    rintro e w2 ⟨rfl, hb2, hrow2⟩
    rw [HD.out.1, List.reverse_reverse] at hrow2
    have hkl : k = (bstr n).length := by rw [← HKK.out, HD.out.1, List.length_reverse]
    have hst : (convert 185 9 (.slice (some ⟨g2, 0, none⟩) k cc)).run Tryz.prog w2 = .ok (.string ⟨(bstr n).toArray⟩) w2 := by
     rw [hkl]
     exact run_convert_bytes_back (P := Tryz.prog) w2 185 9 5 ⟨g2, 0, none⟩ cc (bstr n) Tryz.underlying185 Tryz.underlying5 Tryz.underlying9 (fun j hj => by
      rw [Addr.add_lit, Nat.zero_add]; exact hrow2.2.2 _ _ (List.getElem?_eq_getElem hj))
    have HB2 := yh hb2; clear hb2 hrow2 hkl
    go_wp2_with fail
    go_ret
    exact ⟨rfl, hbel.out.trans HB2.out⟩
theorem of_num (z : Int) (d : Nat) (hd : 0 < d) : (mkRat z d).num = z.tdiv (Nat.gcd z.natAbs d : Nat) ∧ (mkRat z d).den = d / Nat.gcd z.natAbs d := by
 rw [Rat.num_mkRat, Rat.den_mkRat, if_neg (by omega), if_neg (by omega), Nat.gcd_comm]
 refine ⟨(Int.tdiv_eq_ediv_of_dvd ?_).symm, rfl⟩
 exact Int.dvd_natAbs.1 (Int.natCast_dvd_natCast.2 (Nat.gcd_dvd_left _ _))
theorem ofM_R (z : Int) (d : Nat) (w : World) (hz0 : -1048576 ≤ z) (hz1 : z ≤ 1048576) (hd : 0 < d) (hd2 : d ≤ 1048576) :
  Calls Tryz.prog 95 #[.int .i64 z, .int .i64 d] w fun e w' => e = .returned (R (mkRat z d)) ∧ Below w.heap.size w w' := by
 obtain ⟨s3, a3, d3, h3⟩ := R_parts (mkRat z d)
 rw [h3.val]
 obtain ⟨o1, o2⟩ := of_num z d hd
 have H3 := yh (And.intro h3 (And.intro o1 o2)); clear h3 o1 o2
 have em : max z (-z) = ((z.natAbs : Nat) : Int) := by omega
 have hna : z.natAbs ≤ 1048576 := by omega
 have hb0 : Below w.heap.size w (w.alloc (.cells #[.bool false, .string ⟨#[]⟩, .string ⟨#[]⟩] 27)) := (Below.refl _ _).alloc (Nat.le_refl _) _
 have HB0 := yh hb0; clear hb0
 obtain ⟨na, hnae⟩ : ∃ na, na = z.natAbs := ⟨_, rfl⟩
 rw [← hnae] at em hna
 have HNA := yh hnae; clear hnae
 go_enter Tryz.func95, Tryz.ntmps95
 go_wp2_with fail
 go_loopg [5, 6] d (fun kk x y wr => ∃ (m n p : Nat), kk = n ∧ x = .int .i64 (m : Nat) ∧ y = .int .i64 (n : Nat) ∧ m ≤ 1048576 ∧ n ≤ 1048576 ∧ Hid (Nat.gcd m n = Nat.gcd na d) ∧ (w.alloc (.cells #[.bool false, .string ⟨#[]⟩, .string ⟨#[]⟩] 27)).drewN p = wr)
 case atStart => exact ⟨na, d, 0, rfl, rfl, rfl, hna, hd2, rfl, rfl⟩
 case round =>
  obtain ⟨m, n, p, hgk, rfl, rfl, hm, hn, hg, rfl⟩ := hrel
  have HGK := yh hgk; clear hgk
  by_cases hlt : 0 < n
  ·have h1 : (1 : Int) ≤ (n : Int) := by omega
   have HL := yh hlt
   go_wp2_with fail
   go_quiet (fail)
   go_wp2_with fail
   go_roundg (m % n)
   case measure => rw [HGK.out]; have := Nat.mod_lt m HL.out; omega
   case rel => exact ⟨n, m % n, _, rfl, rfl, by rw [Int.natCast_emod], hn, Nat.le_trans (Nat.mod_le _ _) hm, by show Nat.gcd n (m % n) = _; rw [← hg.out, Nat.gcd_comm n, ← Nat.gcd_rec, Nat.gcd_comm], by first | rfl | exact (World.drewN_drewN _ _ _).symm⟩
  ·obtain rfl : n = 0 := by omega
   have hmg : m = Nat.gcd na d := by rw [← hg.out, Nat.gcd_zero_right]
   have hm0 : 0 < m := by rw [hmg]; exact Nat.gcd_pos_of_pos_right _ hd
   obtain ⟨Q, hQ⟩ : ∃ Q, Q = (mkRat z d).num := ⟨_, rfl⟩
   obtain ⟨D, hD⟩ : ∃ D, D = (mkRat z d).den := ⟨_, rfl⟩
   have eQ : z.tdiv (m : Int) = Q := by rw [hQ, H3.out.2.1, hmg, HNA.out]
   have eD : (d : Int) / (m : Int) = (D : Int) := by rw [hD, H3.out.2.2, hmg, HNA.out, Int.natCast_ediv]
   have eD2 : (d : Int).tdiv (m : Int) = (D : Int) := by rw [← eD]; rfl
   have hQl : Q.natAbs ≤ 1048576 := by
    rw [← eQ, Int.natAbs_tdiv]
    exact Nat.le_trans (Nat.div_le_self _ _) (by rw [← HNA.out]; exact hna)
   have hDl : D ≤ 1048576 := by
    rw [hD, H3.out.2.2]; exact Nat.le_trans (Nat.div_le_self _ _) hd2
   have q1 : -1048576 ≤ Q := by omega
   have q2 : Q ≤ 1048576 := by omega
   have eM : max Q (-Q) = ((Q.natAbs : Nat) : Int) := by omega
   have i1 : (1 : Int) ≤ (m : Int) := by omega
   have HM := yh (And.intro hmg (And.intro hQ hD)); clear hmg hQ hD
   go_wp2_with fail
   go_quiet (fail)
   clear eD eD2
   go_wp2_with fail
   refine (digits_any Q.natAbs _ (by omega)).mono ?_
   rintro e w1 ⟨rfl, hb1⟩
   have HB1 := yh (below_next (below_drewN HB0.out _) hb1)
   have k1 : Blk w1 w.heap.size 27 #[.bool false, .string ⟨#[]⟩, .string ⟨#[]⟩] := ((Blk.new w _ _).drewN _).belowB hb1
   have K1 := yh k1; clear k1 hb1
   go_wp2_with fail
   refine (digits_any D _ (by omega)).mono ?_
   rintro e w2 ⟨rfl, hb2⟩
   have k2 : Blk w2 w.heap.size 27 #[.bool false, .string ⟨#[]⟩, .string ⟨#[]⟩] := Blk.belowB K1.out hb2
   obtain ⟨z0, z1, z2, f0, f1, f2⟩ := k2.three
   have HB2 := yh (And.intro (below_next HB1.out hb2) k2); clear hb2 k2
   go_wp2_with fail
   have hW := put3 HB2.out.2 (.bool (decide (Q < 0))) (.string (S Q.natAbs)) (.string (S D))
   have hWb := put3_below (g := w.heap.size) HB2.out.1 (Nat.le_refl _) (.bool (decide (Q < 0))) (.string (S Q.natAbs)) (.string (S D))
   obtain ⟨p0, p1, p2, -, -, -⟩ := hW.three
   refine bodyPost_ret (v := .agg #[.bool (decide (Q < 0)), .string (S Q.natAbs), .string (S D)]) (by simp [results, Tryz.results95, go_sem, p0, p1, p2]) rfl ⟨?_, hWb⟩
   rw [H3.out.1.s, H3.out.1.a, H3.out.1.d, HM.out.2.1, HM.out.2.2]
theorem ofM_O (z : Int) (d : Nat) {s3 a3 d3} (w : World) (h3 : RIs (mkRat z d) s3 a3 d3) (hz0 : -1048576 ≤ z) (hz1 : z ≤ 1048576) (hd : 0 < d) (hd2 : d ≤ 1048576) :
  Calls Tryz.prog 95 #[.int .i64 z, .int .i64 d] w fun e w' => e = .returned (.agg #[.bool s3, .string a3, .string d3]) ∧ Below w.heap.size w w' := by
 rw [← h3.val]; exact ofM_R z d w hz0 hz1 hd hd2
def SmallQ (q : Rat) : Prop := ∃ (z : Int) (d : Nat), q = mkRat z d ∧ 0 < d ∧ d ≤ 8 ∧ -(8 * (d : Int)) ≤ z ∧ z ≤ 8 * d
end Go.Proofs.YtmchjmflkaiakaaGreatDoor
/- ratBegun; what gantmake.Rat makes is small. -/
namespace Go.Proofs.YtmchjmflkaiakaaGreatDoor
open Go.RowKit
set_option linter.unusedVariables false
set_option linter.unusedSimpArgs false
theorem half_eq : (((2 : Int) : Rat) / ((-4 : Int) : Rat)) = mkRat (-1) 2 := by decide +kernel
theorem half_num : (mkRat (-1) 2).num = -1 := by decide +kernel
theorem half_den : (mkRat (-1) 2).den = 2 := by decide +kernel
theorem half_parts : RIs (((2 : Int) : Rat) / ((-4 : Int) : Rat)) true (S 1) (S 2) := by
 rw [half_eq]
 exact ⟨by rw [half_num]; rfl, by rw [half_num]; rfl, by rw [half_den]⟩
theorem text_half (w : World) (hT : Tab w) :
  Calls Tryz.prog 143 #[.agg #[.bool true, .string (S 1), .string (S 2)]] w fun e w' => e = .returned (.string ⟨#[45, 49, 47, 50]⟩) ∧ Below w.heap.size w w' := by
 have hR : Rz 1 (((2 : Int) : Rat) / ((-4 : Int) : Rat)) := ⟨by rw [half_eq, half_num]; exact Sz.one, by rw [half_eq, half_den]; unfold Sz; decide⟩
 have HR := yh (And.intro hR hT); clear hR hT
 have t1 : T 1 = ⟨#[49]⟩ := by decide
 have t2 : T 2 = ⟨#[50]⟩ := by decide
 have l1 : (bstr 1).length ≤ 35184372088832 := by decide
 have l2 : (bstr 2).length ≤ 35184372088832 := by decide
 have HT1 := yh (And.intro (And.intro t1 l1) (And.intro t2 l2)); clear t1 t2 l1 l2
 have h1 : (S 2).toList = [2] := by rw [S_list]; decide
 have hb0 : Below w.heap.size w (w.alloc (.cells #[.bool true, .string (S 1), .string (S 2)] 27)) := (Below.refl _ _).alloc (Nat.le_refl _) _
 have HB0 := yh hb0; clear hb0
 go_enter Tryz.func143, Tryz.ntmps143
 go_wp2_with fail
 refine (fit_O 1 _ true (S 1) (S 2) _ half_parts HR.out.1 (by omega) (HR.out.2.next HB0.out)).mono ?_
 rintro e w1 ⟨rfl, hb1⟩
 have k0 : Blk w1 w.heap.size 27 #[.bool true, .string (S 1), .string (S 2)] := (Blk.new w _ _).belowB hb1
 obtain ⟨c0, c1, c2, g0, g1, g2⟩ := k0.three
 have HB1 := yh (And.intro (below_next HB0.out hb1) k0); clear hb1 k0
 go_wp2_with fail
 refine (Text_S 1 _ HT1.out.1.2).mono ?_
 rw [HT1.out.1.1]
 rintro e w2 ⟨rfl, hb2⟩
 have k2 := Blk.belowB (put3 HB1.out.2 (.bool true) (.string (S 1)) (.string (S 2))) hb2
 obtain ⟨c0', c1', c2', -, -, -⟩ := k2.three
 have HB2 := yh (below_next (put3_below (g := w.heap.size) HB1.out.1 (Nat.le_refl _) (.bool true) (.string (S 1)) (.string (S 2))) hb2); clear hb2 k2
 go_wp2_with fail
 refine (Text_S 2 _ HT1.out.2.2).mono ?_
 rw [HT1.out.2.1]
 rintro e w3 ⟨rfl, hb3⟩
 have HB3 := yh (below_next HB2.out hb3); clear hb3
 go_wp2_with fail
 go_ret
 exact ⟨by first | rfl | decide, HB3.out⟩
theorem make_O (m n : Int) {s a d} (w : World) (h : RIs ((m : Rat) / (n : Rat)) s a d) (h0 : -9223372036854775808 ≤ m) (h1 : m ≤ 9223372036854775807) (h2 : -9223372036854775808 ≤ n) (h3 : n ≤ 9223372036854775807) (hn : n ≠ 0) (hT : Tab w) :
  Calls Tryz.prog 52 #[.int .i64 m, .int .i64 n] w fun e w' => e = .returned (.tuple #[.agg #[.bool s, .string a, .string d], .int .i64 0]) ∧ Below w.heap.size w w' := by
 rw [← h.val]; exact make_R m n w h0 h1 h2 h3 hn hT
theorem ratBegun_any (w : World) (hT : Tab w) :
  Calls Tryz.prog 104 #[] w fun e w' => e = .returned (.bool true) ∧ Below w.heap.size w w' := by
 have HT := yh hT; clear hT
 go_enter Tryz.func104, Tryz.ntmps104
 go_wp2_with fail
 refine (make_O 2 (-4) _ half_parts (by omega) (by omega) (by omega) (by omega) (by omega) HT.out).mono ?_
 rintro e w1 ⟨rfl, hb1⟩
 have hb1' : Below w.heap.size w (w1.alloc (.cells #[.bool true, .string (S 1), .string (S 2)] 27)) := hb1.alloc hb1.size _
 have HB1 := yh hb1'; clear hb1 hb1'
 go_wp2_with fail
 refine (text_half _ (HT.out.next HB1.out)).mono ?_
 rintro e w2 ⟨rfl, hb2⟩
 have k2 : Blk w2 w1.heap.size 27 #[.bool true, .string (S 1), .string (S 2)] := (Blk.new w1 _ _).belowB hb2
 obtain ⟨c0, c1, c2, -, -, -⟩ := k2.three
 have HB2 := yh (below_next HB1.out hb2); clear hb2 k2
 go_wp2_with fail
 refine (good_yes true 1 2 1 _ (by decide) (by decide) (by decide) Sz.one (by unfold Sz; decide) (by omega) (HT.out.next HB2.out)).mono ?_
 rintro e w3 ⟨rfl, hb3⟩
 have HB3 := yh (below_next HB2.out hb3); clear hb3
 go_wp2_with fail
 go_ret
 exact ⟨rfl, HB3.out⟩
theorem SmallQ.rz {q : Rat} (h : SmallQ q) : Rz 1 q := by
 obtain ⟨z, d, rfl, hd, hd8, h1, h2⟩ := h
 obtain ⟨e1, e2⟩ := of_num z d hd
 have l1 : (mkRat z d).num.natAbs ≤ 64 := by
  rw [e1, Int.natAbs_tdiv]; exact Nat.le_trans (Nat.div_le_self _ _) (by omega)
 have l2 : (mkRat z d).den ≤ 8 := by rw [e2]; exact Nat.le_trans (Nat.div_le_self _ _) hd8
 exact ⟨bstr_length_le.2 (by omega), bstr_length_le.2 (by omega)⟩
end Go.Proofs.YtmchjmflkaiakaaGreatDoor
/- Frames of boxed numbers, for the walks of laws over rational numbers. -/
namespace Go.Proofs.YtmchjmflkaiakaaGreatDoor
open Go.RowKit
set_option linter.unusedVariables false
set_option linter.unusedSimpArgs false
section
variable {w w' w3 : World} {n : Nat} {l : List (Bool × ByteArray × ByteArray)}
end
theorem den_dvd (z : Int) (d : Nat) (hd : 0 < d) : (mkRat z d).num.natAbs ≤ z.natAbs ∧ (mkRat z d).den ≤ d := by
 obtain ⟨e1, e2⟩ := of_num z d hd
 exact ⟨by rw [e1, Int.natAbs_tdiv]; exact Nat.div_le_self _ _, by rw [e2]; exact Nat.div_le_self _ _⟩
theorem Rz.mul {k l : Nat} {x y : Rat} (hx : Rz k x) (hy : Rz l y) : Rz (k + l) (x * y) := by
 rw [Rat.mul_def']
 obtain ⟨h1, h2⟩ := den_dvd (x.num * y.num) (x.den * y.den) (Nat.mul_pos x.den_pos y.den_pos)
 exact ⟨(hx.1.mul hy.1).le (by rw [← Int.natAbs_mul]; exact h1), (hx.2.mul hy.2).le h2⟩
theorem Rz.add {k l : Nat} {x y : Rat} (hx : Rz k x) (hy : Rz l y) : Rz (k + l + k + l + 1) (x + y) := by
 rw [Rat.add_def']
 obtain ⟨h1, h2⟩ := den_dvd (x.num * y.den + y.num * x.den) (x.den * y.den) (Nat.mul_pos x.den_pos y.den_pos)
 refine ⟨?_, (hx.2.mul hy.2).le h2 |>.more (by omega)⟩
 have h3 : Sz (k + l) (x.num * y.den).natAbs := by rw [Int.natAbs_mul]; exact hx.1.mul hy.2
 have h4 : Sz (l + k) (y.num * x.den).natAbs := by rw [Int.natAbs_mul]; exact hy.1.mul hx.2
 exact ((h3.add h4).more (by omega)).le (Nat.le_trans h1 (by omega))
theorem Rz.sub {k l : Nat} {x y : Rat} (hx : Rz k x) (hy : Rz l y) : Rz (k + l + k + l + 1) (x - y) := by
 rw [Rat.sub_eq_add_neg]; exact hx.add hy.neg
theorem Rz.abs {k : Nat} {x : Rat} (hx : Rz k x) : Rz k (absQ x) := by unfold absQ; split; exact hx.neg; exact hx
theorem Rz.div {k l : Nat} {x y : Rat} (hx : Rz k x) (hy : Rz l y) (h0 : y ≠ 0) : Rz (k + l) (x / y) := by
 have hyn : y.num ≠ 0 := fun h => h0 (Rat.num_eq_zero.1 h)
 rw [← div_mk x y hyn]
 obtain ⟨h1, h2⟩ := den_dvd (sg (decide (x.num < 0) != decide (y.num < 0)) (x.num.natAbs * y.den)) (x.den * y.num.natAbs) (Nat.mul_pos x.den_pos (by omega))
 rw [sg_natAbs] at h1
 exact ⟨(hx.1.mul hy.2).le h1, (hx.2.mul hy.1).le h2⟩
theorem Rz.zero : Rz 1 (0 : Rat) := ⟨by unfold Sz; decide, by unfold Sz; decide⟩
theorem Rz.one : Rz 1 (1 : Rat) := ⟨by unfold Sz; decide, by unfold Sz; decide⟩
end Go.Proofs.YtmchjmflkaiakaaGreatDoor
/- Plain laws of the order of rational numbers, for RatOrder. -/
namespace Go.Proofs.YtmchjmflkaiakaaGreatDoor
open Go.RowKit
set_option linter.unusedVariables false
set_option linter.unusedSimpArgs false
theorem RIs.inj {x y : Rat} {s t : Bool} {a d b e : ByteArray} (h : RIs x s a d) (h' : RIs y t b e) (h1 : s = t) (h2 : a = b) (h3 : d = e) : x = y := by
 subst h1 h2 h3
 have ha : x.num.natAbs = y.num.natAbs := S_inj' (h.a.symm.trans h'.a)
 have hd : x.den = y.den := S_inj' (h.d.symm.trans h'.d)
 have hs : decide (x.num < 0) = decide (y.num < 0) := h.s.symm.trans h'.s
 apply Rat.ext
 ·have h4 : (x.num < 0) = (y.num < 0) := by simpa using hs
  by_cases h5 : x.num < 0
  ·have h6 : y.num < 0 := h4 ▸ h5
   omega
  ·have h6 : ¬ y.num < 0 := h4 ▸ h5
   omega
 ·exact hd
theorem S_injL {m n : Nat} (h : (S m).toList = (S n).toList) : m = n := bstr_inj (by rw [← toL_S, ← toL_S]; unfold toL; rw [← ByteArray.toList_eq, ← ByteArray.toList_eq]; exact h)
theorem RIs.injL {x y : Rat} {s t : Bool} {a d b e : ByteArray} (h : RIs x s a d) (h' : RIs y t b e) (h1 : s = t) (h2 : a.toList = b.toList) (h3 : d.toList = e.toList) : x = y := by
 rw [h.a, h'.a] at h2
 rw [h.d, h'.d] at h3
 exact RIs.inj h h' h1 (by rw [h.a, h'.a, S_injL h2]) (by rw [h.d, h'.d, S_injL h3])
section
variable {w w' : World} {n : Nat} {s_a s_b s_c : Bool} {a_a d_a a_b d_b a_c d_c : ByteArray}
end
theorem Rz.min {k : Nat} {x y : Rat} (hx : Rz k x) (hy : Rz k y) : Rz k (minQ x y) := by unfold minQ; split; exact hx; exact hy
theorem Rz.max {k : Nat} {x y : Rat} (hx : Rz k x) (hy : Rz k y) : Rz k (maxQ x y) := by unfold maxQ; split; exact hx; exact hy
end Go.Proofs.YtmchjmflkaiakaaGreatDoor
