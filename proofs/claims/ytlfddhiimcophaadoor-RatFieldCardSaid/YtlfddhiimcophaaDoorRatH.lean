/- Walks of package rat: Neg, Abs, Sign, Sub, Min, Max. -/
import Derived.Test.YtlfddhiimcophaaDoorRatG
namespace Go.Proofs.YtlfddhiimcophaaDoor
open Go.RowKit
set_option linter.unusedVariables false
set_option linter.unusedSimpArgs false

structure Q1 (w : World) (s : Bool) (a d : ByteArray) (w' : World) : Prop where
  b0 : Blk w' w.heap.size 35 #[.bool s, .string a, .string d]
  below : Below w.heap.size w w'
def QY (w w' : World) : Prop := Blk w' (w.heap.size + 1) 35 #[.bool false, .string ⟨#[]⟩, .string ⟨#[]⟩]
theorem put1 {w : World} {g : Nat} {t : TypeId} {a b c : Value} (h : Blk w g t #[a, b, c]) (x : Value) : Blk (w.setCell ⟨g, 0, none⟩ x) g t #[x, b, c] := h.set_ 0 x
theorem neg_parts {q : Rat} {s : Bool} {a d : ByteArray} (h : RIs q s a d) : (q.num < 0 ∧ s = true ∧ a.toList.isEmpty = false ∧ RIs (-q) false a d) ∨ (q.num = 0 ∧ s = false ∧ a.toList.isEmpty = true ∧ RIs (-q) false a d) ∨ (0 < q.num ∧ s = false ∧ a.toList.isEmpty = false ∧ RIs (-q) true a d) := by
  have hd : d = S (-q).den := h.d
  have ha : a = S (-q).num.natAbs := by rw [Rat.neg_num, Int.natAbs_neg]; exact h.a
  rcases Int.lt_trichotomy q.num 0 with h0 | h0 | h0
  · exact .inl ⟨h0, by rw [h.s]; exact decide_eq_true h0, by rw [h.a]; exact S_empty_of (by omega), by rw [Rat.neg_num]; exact (decide_eq_false (by omega)).symm, ha, hd⟩
  · exact .inr (.inl ⟨h0, by rw [h.s]; exact decide_eq_false (by omega), by rw [h.a, h0, S_list]; rfl, by rw [Rat.neg_num]; exact (decide_eq_false (by omega)).symm, ha, hd⟩)
  · exact .inr (.inr ⟨h0, by rw [h.s]; exact decide_eq_false (by omega), by rw [h.a]; exact S_empty_of (by omega), by rw [Rat.neg_num]; exact (decide_eq_true (by omega)).symm, ha, hd⟩)
theorem Rz.neg {k : Nat} {q : Rat} (h : Rz k q) : Rz k (-q) := ⟨by rw [Rat.neg_num, Int.natAbs_neg]; exact h.1, h.2⟩
def absQ (q : Rat) : Rat := if q < 0 then -q else q
theorem abs_parts {q : Rat} {s : Bool} {a d : ByteArray} (h : RIs q s a d) : RIs (absQ q) false a d := by
  unfold absQ
  by_cases h0 : q.num < 0
  · have h1 : q < 0 := by rw [Rat.lt_iff]; simpa using h0
    rw [if_pos h1]
    exact ⟨by rw [Rat.neg_num]; exact (decide_eq_false (by omega)).symm, by rw [Rat.neg_num, Int.natAbs_neg]; exact h.a, h.d⟩
  · have h1 : ¬ q < 0 := by rw [Rat.lt_iff]; simpa using h0
    rw [if_neg h1]
    exact ⟨(decide_eq_false h0).symm, h.a, h.d⟩

theorem q1_fin {w w1 : World} (hb : Below w.heap.size w w1) (h : Blk w1 (w.heap.size + 1) 35 #[.bool false, .string ⟨#[]⟩, .string ⟨#[]⟩]) (v0 v1 v2 v3 x y z : Value) :
    Blk (((((((w1.setCell ⟨w.heap.size, 0, none⟩ v0).setCell ⟨w.heap.size, 1, none⟩ v1).setCell ⟨w.heap.size, 2, none⟩ v2).setCell ⟨w.heap.size, 0, none⟩ v3).setCell ⟨w.heap.size + 1, 0, none⟩ x).setCell ⟨w.heap.size + 1, 1, none⟩ y).setCell ⟨w.heap.size + 1, 2, none⟩ z) (w.heap.size + 1) 35 #[x, y, z] ∧
      Below w.heap.size w (((((((w1.setCell ⟨w.heap.size, 0, none⟩ v0).setCell ⟨w.heap.size, 1, none⟩ v1).setCell ⟨w.heap.size, 2, none⟩ v2).setCell ⟨w.heap.size, 0, none⟩ v3).setCell ⟨w.heap.size + 1, 0, none⟩ x).setCell ⟨w.heap.size + 1, 1, none⟩ y).setCell ⟨w.heap.size + 1, 2, none⟩ z) :=
  ⟨put3 ((((h.far (by simp) _).far (by simp) _).far (by simp) _).far (by simp) _) x y z, put3_below ((put3_below hb (Nat.le_refl _) v0 v1 v2).setCell (Nat.le_refl _) v3) (Nat.le_succ _) x y z⟩

set_option maxHeartbeats 1000000 in
theorem neg_R (k : Nat) (x : Rat) (w : World) (hx : Rz k x) (hk : k ≤ 35184372088832) (hT : Tab w) :
    Calls Tryd.prog 27 #[R x] w fun e w' => e = .returned (R (-x)) ∧ Below w.heap.size w w' := by
  have HH := Lib.hid (And.intro hx hT); clear hx hT
  obtain ⟨s1, a1, d1, h1⟩ := R_parts x
  rw [h1.val]
  have hb0 : Below w.heap.size w ((w.alloc (.cells #[.bool s1, .string a1, .string d1] 35)).alloc (.cells #[.bool false, .string ⟨#[]⟩, .string ⟨#[]⟩] 35)) := ((Below.refl _ _).alloc (Nat.le_refl _) _).alloc (by simp) _
  have HB0 := Lib.hid hb0; clear hb0
  rcases neg_parts h1 with ⟨hn, rfl, he, h3⟩ | ⟨hn, rfl, he, h3⟩ | ⟨hn, rfl, he, h3⟩
  · rw [h3.val]
    have H1 := Lib.hid h1; clear h1 h3 hn
    go_enter Tryd.func27, Tryd.ntmps27
    go_wp2_with fail
    refine (fit_O k x _ a1 d1 _ H1.out HH.out.1 hk (HH.out.2.next HB0.out)).mono ?_
    rintro e w1 ⟨rfl, hb1⟩
    have k0 : Blk w1 w.heap.size 35 _ := ((Blk.new w _ _).alloc _).belowB hb1
    have k1 : Blk w1 (w.heap.size + 1) 35 #[.bool false, .string ⟨#[]⟩, .string ⟨#[]⟩] := (Blk.at_ (by simp)).belowB hb1
    obtain ⟨c0, c1, c2, g0, g1, g2⟩ := Blk.three k0
    obtain ⟨z0, z1, z2, f0, f1, f2⟩ := k1.three
    have HB1 := Lib.hid (And.intro (below_next HB0.out hb1) (And.intro k0 k1)); clear hb1 k0 k1
    go_wp2_with fail
    obtain ⟨hW, hWb⟩ := q1_fin (w := w) HB1.out.1 HB1.out.2.2 (.bool true) (.string a1) (.string d1) (.bool false) (.bool false) (.string a1) (.string d1)
    obtain ⟨p0, p1, p2, -, -, -⟩ := hW.three
    refine bodyPost_ret (v := .agg #[.bool false, .string a1, .string d1]) (by simp [results, Tryd.results27, go_sem, p0, p1, p2]) rfl ⟨rfl, hWb⟩
  · rw [h3.val]
    have H1 := Lib.hid h1; clear h1 h3 hn
    go_enter Tryd.func27, Tryd.ntmps27
    go_wp2_with fail
    refine (fit_O k x _ a1 d1 _ H1.out HH.out.1 hk (HH.out.2.next HB0.out)).mono ?_
    rintro e w1 ⟨rfl, hb1⟩
    have k0 : Blk w1 w.heap.size 35 _ := ((Blk.new w _ _).alloc _).belowB hb1
    have k1 : Blk w1 (w.heap.size + 1) 35 #[.bool false, .string ⟨#[]⟩, .string ⟨#[]⟩] := (Blk.at_ (by simp)).belowB hb1
    obtain ⟨c0, c1, c2, g0, g1, g2⟩ := Blk.three k0
    obtain ⟨z0, z1, z2, f0, f1, f2⟩ := k1.three
    have HB1 := Lib.hid (And.intro (below_next HB0.out hb1) (And.intro k0 k1)); clear hb1 k0 k1
    go_wp2_with fail
    obtain ⟨hW, hWb⟩ := q1_fin (w := w) HB1.out.1 HB1.out.2.2 (.bool false) (.string a1) (.string d1) (.bool false) (.bool false) (.string a1) (.string d1)
    obtain ⟨p0, p1, p2, -, -, -⟩ := hW.three
    refine bodyPost_ret (v := .agg #[.bool false, .string a1, .string d1]) (by simp [results, Tryd.results27, go_sem, p0, p1, p2]) rfl ⟨rfl, hWb⟩
  · rw [h3.val]
    have H1 := Lib.hid h1; clear h1 h3 hn
    go_enter Tryd.func27, Tryd.ntmps27
    go_wp2_with fail
    refine (fit_O k x _ a1 d1 _ H1.out HH.out.1 hk (HH.out.2.next HB0.out)).mono ?_
    rintro e w1 ⟨rfl, hb1⟩
    have k0 : Blk w1 w.heap.size 35 _ := ((Blk.new w _ _).alloc _).belowB hb1
    have k1 : Blk w1 (w.heap.size + 1) 35 #[.bool false, .string ⟨#[]⟩, .string ⟨#[]⟩] := (Blk.at_ (by simp)).belowB hb1
    obtain ⟨c0, c1, c2, g0, g1, g2⟩ := Blk.three k0
    obtain ⟨z0, z1, z2, f0, f1, f2⟩ := k1.three
    have HB1 := Lib.hid (And.intro (below_next HB0.out hb1) (And.intro k0 k1)); clear hb1 k0 k1
    go_wp2_with fail
    obtain ⟨hW, hWb⟩ := q1_fin (w := w) HB1.out.1 HB1.out.2.2 (.bool false) (.string a1) (.string d1) (.bool true) (.bool true) (.string a1) (.string d1)
    obtain ⟨p0, p1, p2, -, -, -⟩ := hW.three
    refine bodyPost_ret (v := .agg #[.bool true, .string a1, .string d1]) (by simp [results, Tryd.results27, go_sem, p0, p1, p2]) rfl ⟨rfl, hWb⟩

set_option maxHeartbeats 1000000 in
theorem abs_R (k : Nat) (x : Rat) (w : World) (hx : Rz k x) (hk : k ≤ 35184372088832) (hT : Tab w) :
    Calls Tryd.prog 28 #[R x] w fun e w' => e = .returned (R (absQ x)) ∧ Below w.heap.size w w' := by
  have HH := Lib.hid (And.intro hx hT); clear hx hT
  obtain ⟨s1, a1, d1, h1⟩ := R_parts x
  rw [h1.val, (abs_parts h1).val]
  have H1 := Lib.hid h1; clear h1
  have hb0 : Below w.heap.size w ((w.alloc (.cells #[.bool s1, .string a1, .string d1] 35)).alloc (.cells #[.bool false, .string ⟨#[]⟩, .string ⟨#[]⟩] 35)) := ((Below.refl _ _).alloc (Nat.le_refl _) _).alloc (by simp) _
  have HB0 := Lib.hid hb0; clear hb0
  go_enter Tryd.func28, Tryd.ntmps28
  go_wp2_with fail
  refine (fit_O k x _ a1 d1 _ H1.out HH.out.1 hk (HH.out.2.next HB0.out)).mono ?_
  rintro e w1 ⟨rfl, hb1⟩
  have k0 : Blk w1 w.heap.size 35 _ := ((Blk.new w _ _).alloc _).belowB hb1
  have k1 : Blk w1 (w.heap.size + 1) 35 #[.bool false, .string ⟨#[]⟩, .string ⟨#[]⟩] := (Blk.at_ (by simp)).belowB hb1
  obtain ⟨c0, c1, c2, g0, g1, g2⟩ := Blk.three k0
  obtain ⟨z0, z1, z2, f0, f1, f2⟩ := k1.three
  have HB1 := Lib.hid (And.intro (below_next HB0.out hb1) (And.intro k0 k1)); clear hb1 k0 k1
  go_wp2_with fail
  obtain ⟨hW, hWb⟩ := q1_fin (w := w) HB1.out.1 HB1.out.2.2 (.bool s1) (.string a1) (.string d1) (.bool false) (.bool false) (.string a1) (.string d1)
  obtain ⟨p0, p1, p2, -, -, -⟩ := hW.three
  refine bodyPost_ret (v := .agg #[.bool false, .string a1, .string d1]) (by simp [results, Tryd.results28, go_sem, p0, p1, p2]) rfl ⟨rfl, hWb⟩

/-- the sign of a number -/
def sgnQ (x : Rat) : Int := cmpQ x 0
theorem sgn_parts {q : Rat} {s : Bool} {a d : ByteArray} (h : RIs q s a d) : (q.num < 0 ∧ s = true ∧ a.toList.isEmpty = false ∧ sgnQ q = -1) ∨ (q.num = 0 ∧ s = false ∧ a.toList.isEmpty = true ∧ sgnQ q = 0) ∨ (0 < q.num ∧ s = false ∧ a.toList.isEmpty = false ∧ sgnQ q = 1) := by
  have l1 : q < 0 ↔ q.num < 0 := by rw [Rat.lt_iff]; simp
  have l2 : 0 < q ↔ 0 < q.num := by rw [Rat.lt_iff]; simp
  rcases neg_parts h with ⟨hn, h1, h2, -⟩ | ⟨hn, h1, h2, -⟩ | ⟨hn, h1, h2, -⟩
  · exact .inl ⟨hn, h1, h2, by unfold sgnQ cmpQ; rw [if_pos (l1.2 hn)]⟩
  · exact .inr (.inl ⟨hn, h1, h2, by unfold sgnQ cmpQ; rw [if_neg (fun h => by have := l1.1 h; omega), if_neg (fun h => by have := l2.1 h; omega)]⟩)
  · exact .inr (.inr ⟨hn, h1, h2, by unfold sgnQ cmpQ; rw [if_neg (fun h => by have := l1.1 h; omega), if_pos (l2.2 hn)]⟩)
theorem sign_R (k : Nat) (x : Rat) (w : World) (hx : Rz k x) (hk : k ≤ 35184372088832) (hT : Tab w) :
    Calls Tryd.prog 31 #[R x] w fun e w' => e = .returned (.int .i64 (sgnQ x)) ∧ Below w.heap.size w w' := by
  have HH := Lib.hid (And.intro hx hT); clear hx hT
  obtain ⟨s1, a1, d1, h1⟩ := R_parts x
  rw [h1.val]
  have hb0 : Below w.heap.size w (w.alloc (.cells #[.bool s1, .string a1, .string d1] 35)) := (Below.refl _ _).alloc (Nat.le_refl _) _
  have HB0 := Lib.hid hb0; clear hb0
  rcases sgn_parts h1 with ⟨hn, rfl, he, h3⟩ | ⟨hn, rfl, he, h3⟩ | ⟨hn, rfl, he, h3⟩
  all_goals
    rw [h3]
    have H1 := Lib.hid h1; clear h1 h3 hn
    go_enter Tryd.func31, Tryd.ntmps31
    go_wp2_with fail
    refine (fit_O k x _ a1 d1 _ H1.out HH.out.1 hk (HH.out.2.next HB0.out)).mono ?_
    rintro e w1 ⟨rfl, hb1⟩
    have k0 : Blk w1 w.heap.size 35 _ := (Blk.new w _ _).belowB hb1
    obtain ⟨c0, c1, c2, g0, g1, g2⟩ := Blk.three k0
    have HB1 := Lib.hid (below_next HB0.out hb1); clear hb1 k0
    go_wp2_with fail
    go_ret
    exact ⟨rfl, put3_below HB1.out (Nat.le_refl _) _ _ _⟩

theorem cmp_O (k : Nat) (x y : Rat) {s1 s2 : Bool} {a1 d1 a2 d2 : ByteArray} (w : World) (h1 : RIs x s1 a1 d1) (h2 : RIs y s2 a2 d2) (hx : Rz k x) (hy : Rz k y) (hk : k ≤ 8796093022208) (hT : Tab w) :
    Calls Tryd.prog 33 #[.agg #[.bool s1, .string a1, .string d1], .agg #[.bool s2, .string a2, .string d2]] w fun e w' => e = .returned (.int .i64 (cmpQ x y)) ∧ Below w.heap.size w w' := by
  rw [← h1.val, ← h2.val]; exact cmp_R k x y w hx hy hk hT
theorem neg_O (k : Nat) (x : Rat) {s1 s3 : Bool} {a1 d1 a3 d3 : ByteArray} (w : World) (h1 : RIs x s1 a1 d1) (h3 : RIs (-x) s3 a3 d3) (hx : Rz k x) (hk : k ≤ 35184372088832) (hT : Tab w) :
    Calls Tryd.prog 27 #[.agg #[.bool s1, .string a1, .string d1]] w fun e w' => e = .returned (.agg #[.bool s3, .string a3, .string d3]) ∧ Below w.heap.size w w' := by
  rw [← h1.val, ← h3.val]; exact neg_R k x w hx hk hT
theorem add_O (k : Nat) (x y z : Rat) {s1 s2 s3 : Bool} {a1 d1 a2 d2 a3 d3 : ByteArray} (w : World) (h1 : RIs x s1 a1 d1) (h2 : RIs y s2 a2 d2) (h3 : RIs z s3 a3 d3) (hz : x + y = z) (hx : Rz k x) (hy : Rz k y) (hk : k ≤ 4398046511104) (hT : Tab w) :
    Calls Tryd.prog 24 #[.agg #[.bool s1, .string a1, .string d1], .agg #[.bool s2, .string a2, .string d2]] w fun e w' => e = .returned (.agg #[.bool s3, .string a3, .string d3]) ∧ Below w.heap.size w w' := by
  rw [← h1.val, ← h2.val, ← h3.val, ← hz]; exact add_R k x y w hx hy hk hT
end Go.Proofs.YtlfddhiimcophaaDoor
