/- Frames of boxed numbers, for the walks of laws over rational numbers. -/
import Derived.Test.YtlfddhiimcophaaDoorRatL
namespace Go.Proofs.YtlfddhiimcophaaDoor
open Go.RowKit
set_option linter.unusedVariables false
set_option linter.unusedSimpArgs false

def RV (t : Bool × ByteArray × ByteArray) : Array Value := #[.bool t.1, .string t.2.1, .string t.2.2]
/-- the numbers l in the blocks n, n + 1 .. -/
structure QL (w : World) (n : Nat) (l : List (Bool × ByteArray × ByteArray)) (w' : World) : Prop where
  blk : ∀ i t, l[i]? = some t → Blk w' (n + i) 35 (RV t)
  below : Below w.heap.size w w'
section
variable {w w' w3 : World} {n : Nat} {l : List (Bool × ByteArray × ByteArray)}
theorem QL.drew (h : Hid (QL w n l w')) : Hid (QL w n l w'.drew) := ⟨fun i t ht => (h.out.blk i t ht).drew, h.out.below.drew⟩
theorem QL.next (h : Hid (QL w n l w')) (hb : Below w'.heap.size w' w3) : Hid (QL w n l w3) := ⟨fun i t ht => (h.out.blk i t ht).belowB hb, below_next h.out.below hb⟩
theorem QL.alloc (h : Hid (QL w n l w')) (o : Obj) : Hid (QL w n l (w'.alloc o)) := ⟨fun i t ht => (h.out.blk i t ht).alloc o, h.out.below.alloc h.out.below.size o⟩
theorem QL.cell (h : QL w n l w') (i : Nat) {s : Bool} {a d : ByteArray} (ht : l[i]? = some (s, a, d)) : w'.cell? ⟨n + i, 0, none⟩ = some (.bool s) ∧ w'.cell? ⟨n + i, 1, none⟩ = some (.string a) ∧ w'.cell? ⟨n + i, 2, none⟩ = some (.string d) :=
  ⟨(h.blk i _ ht).cell 0, (h.blk i _ ht).cell 1, (h.blk i _ ht).cell 2⟩
end
theorem ratM_O (x : Int) (w : World) (h0 : -9223372036854775808 ≤ x) (h1 : x ≤ 9223372036854775807) :
    Calls Tryd.prog 23 #[.int .i64 x] w fun e w' => (∃ q s a d, e = .returned (.agg #[.bool s, .string a, .string d]) ∧ RIs q s a d ∧ SmallQ q) ∧ Below w.heap.size w w' :=
  (ratM_any x w h0 h1).mono fun e w' ⟨⟨q, h1, h2⟩, h3⟩ => by
    obtain ⟨s, a, d, hp⟩ := R_parts q
    exact ⟨⟨q, s, a, d, by rw [h1, hp.val], hp, h2⟩, h3⟩
theorem sub_O (k : Nat) (x y z : Rat) {s1 s2 s3 : Bool} {a1 d1 a2 d2 a3 d3 : ByteArray} (w : World) (h1 : RIs x s1 a1 d1) (h2 : RIs y s2 a2 d2) (h3 : RIs z s3 a3 d3) (hz : x - y = z) (hx : Rz k x) (hy : Rz k y) (hk : k ≤ 4398046511104) (hT : Tab w) :
    Calls Tryd.prog 25 #[.agg #[.bool s1, .string a1, .string d1], .agg #[.bool s2, .string a2, .string d2]] w fun e w' => e = .returned (.agg #[.bool s3, .string a3, .string d3]) ∧ Below w.heap.size w w' := by
  rw [← h1.val, ← h2.val, ← h3.val, ← hz]; exact sub_R k x y w hx hy hk hT
theorem mulR_O (k : Nat) (x y z : Rat) {s1 s2 s3 : Bool} {a1 d1 a2 d2 a3 d3 : ByteArray} (w : World) (h1 : RIs x s1 a1 d1) (h2 : RIs y s2 a2 d2) (h3 : RIs z s3 a3 d3) (hz : x * y = z) (hx : Rz k x) (hy : Rz k y) (hk : k ≤ 4398046511104) (hT : Tab w) :
    Calls Tryd.prog 26 #[.agg #[.bool s1, .string a1, .string d1], .agg #[.bool s2, .string a2, .string d2]] w fun e w' => e = .returned (.agg #[.bool s3, .string a3, .string d3]) ∧ Below w.heap.size w w' := by
  rw [← h1.val, ← h2.val, ← h3.val, ← hz]; exact mul_R k x y w hx hy (by omega) hT
theorem negR_O (k : Nat) (x z : Rat) {s1 s3 : Bool} {a1 d1 a3 d3 : ByteArray} (w : World) (h1 : RIs x s1 a1 d1) (h3 : RIs z s3 a3 d3) (hz : -x = z) (hx : Rz k x) (hk : k ≤ 4398046511104) (hT : Tab w) :
    Calls Tryd.prog 27 #[.agg #[.bool s1, .string a1, .string d1]] w fun e w' => e = .returned (.agg #[.bool s3, .string a3, .string d3]) ∧ Below w.heap.size w w' := by
  rw [← h1.val, ← h3.val, ← hz]; exact neg_R k x w hx (by omega) hT
theorem absR_O (k : Nat) (x z : Rat) {s1 s3 : Bool} {a1 d1 a3 d3 : ByteArray} (w : World) (h1 : RIs x s1 a1 d1) (h3 : RIs z s3 a3 d3) (hz : absQ x = z) (hx : Rz k x) (hk : k ≤ 4398046511104) (hT : Tab w) :
    Calls Tryd.prog 28 #[.agg #[.bool s1, .string a1, .string d1]] w fun e w' => e = .returned (.agg #[.bool s3, .string a3, .string d3]) ∧ Below w.heap.size w w' := by
  rw [← h1.val, ← h3.val, ← hz]; exact abs_R k x w hx (by omega) hT
theorem good_O (k : Nat) (x : Rat) {s1 : Bool} {a1 d1 : ByteArray} (w : World) (h1 : RIs x s1 a1 d1) (hx : Rz k x) (hk : k ≤ 4398046511104) (hT : Tab w) :
    Calls Tryd.prog 29 #[.agg #[.bool s1, .string a1, .string d1]] w fun e w' => e = .returned (.bool true) ∧ Below w.heap.size w w' := by
  rw [← h1.val]; exact Good_R k x w hx (by omega) hT
theorem sign_O (k : Nat) (x : Rat) {s1 : Bool} {a1 d1 : ByteArray} (w : World) (h1 : RIs x s1 a1 d1) (hx : Rz k x) (hk : k ≤ 4398046511104) (hT : Tab w) :
    Calls Tryd.prog 31 #[.agg #[.bool s1, .string a1, .string d1]] w fun e w' => e = .returned (.int .i64 (sgnQ x)) ∧ Below w.heap.size w w' := by
  rw [← h1.val]; exact sign_R k x w hx (by omega) hT
/-! ### sizes of results -/
theorem den_dvd (z : Int) (d : Nat) (hd : 0 < d) : (mkRat z d).num.natAbs ≤ z.natAbs ∧ (mkRat z d).den ≤ d := by
  obtain ⟨e1, e2⟩ := of_num z d hd
  exact ⟨by rw [e1, Int.natAbs_tdiv]; exact Nat.div_le_self _ _, by rw [e2]; exact Nat.div_le_self _ _⟩
theorem Rz.mul {k l : Nat} {x y : Rat} (hx : Rz k x) (hy : Rz l y) : Rz (k + l) (x * y) := by
  rw [Rat.mul_def']
  obtain ⟨h1, h2⟩ := den_dvd (x.num * y.num) (x.den * y.den) (Nat.mul_pos x.den_pos y.den_pos)
  exact ⟨(hx.1.mul hy.1).le (by rw [← Int.natAbs_mul]; exact h1), (hx.2.mul hy.2).le h2⟩
theorem Rz.add {k l : Nat} {x y : Rat} (hx : Rz k x) (hy : Rz l y) : Rz (k + l + k + l + 1) (x + y) := by
  rw [Rat.add_def']
  obtain ⟨h1, h2⟩ := den_dvd (x.num * y.den + y.num * x.den) (x.den * y.den) (Nat.mul_pos x.den_pos y.den_pos)
  refine ⟨?_, (hx.2.mul hy.2).le h2 |>.more (by omega)⟩
  have h3 : Sz (k + l) (x.num * y.den).natAbs := by rw [Int.natAbs_mul]; exact hx.1.mul hy.2
  have h4 : Sz (l + k) (y.num * x.den).natAbs := by rw [Int.natAbs_mul]; exact hy.1.mul hx.2
  exact ((h3.add h4).more (by omega)).le (Nat.le_trans h1 (by omega))
theorem Rz.sub {k l : Nat} {x y : Rat} (hx : Rz k x) (hy : Rz l y) : Rz (k + l + k + l + 1) (x - y) := by
  rw [Rat.sub_eq_add_neg]; exact hx.add hy.neg
theorem Rz.abs {k : Nat} {x : Rat} (hx : Rz k x) : Rz k (absQ x) := by unfold absQ; split; exact hx.neg; exact hx
theorem Rz.div {k l : Nat} {x y : Rat} (hx : Rz k x) (hy : Rz l y) (h0 : y ≠ 0) : Rz (k + l) (x / y) := by
  have hyn : y.num ≠ 0 := fun h => h0 (Rat.num_eq_zero.1 h)
  rw [← div_mk x y hyn]
  obtain ⟨h1, h2⟩ := den_dvd (sg (decide (x.num < 0) != decide (y.num < 0)) (x.num.natAbs * y.den)) (x.den * y.num.natAbs) (Nat.mul_pos x.den_pos (by omega))
  rw [sg_natAbs] at h1
  exact ⟨(hx.1.mul hy.2).le h1, (hx.2.mul hy.1).le h2⟩
theorem Rz.zero : Rz 1 (0 : Rat) := ⟨by unfold Sz; decide, by unfold Sz; decide⟩
theorem Rz.one : Rz 1 (1 : Rat) := ⟨by unfold Sz; decide, by unfold Sz; decide⟩
end Go.Proofs.YtlfddhiimcophaaDoor
