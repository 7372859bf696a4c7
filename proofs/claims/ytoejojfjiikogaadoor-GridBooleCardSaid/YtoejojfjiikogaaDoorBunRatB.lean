/- Joined texts. -/
import Derived.Test.YtoejojfjiikogaaDoorBunRatA

/- Walks of package rat: Neg, Abs, Sign, Sub, Min, Max. -/
namespace Go.Proofs.YtoejojfjiikogaaDoor
open Go.RowKit
set_option linter.unusedVariables false
set_option linter.unusedSimpArgs false

theorem neg_parts {q : Rat} {s : Bool} {a d : ByteArray} (h : RIs q s a d) : (q.num < 0 ∧ s = true ∧ a.toList.isEmpty = false ∧ RIs (-q) false a d) ∨ (q.num = 0 ∧ s = false ∧ a.toList.isEmpty = true ∧ RIs (-q) false a d) ∨ (0 < q.num ∧ s = false ∧ a.toList.isEmpty = false ∧ RIs (-q) true a d) := by
  have hd : d = S (-q).den := h.d
  have ha : a = S (-q).num.natAbs := by rw [Rat.neg_num, Int.natAbs_neg]; exact h.a
  rcases Int.lt_trichotomy q.num 0 with h0 | h0 | h0
  · exact .inl ⟨h0, by rw [h.s]; exact decide_eq_true h0, by rw [h.a]; exact S_empty_of (by omega), by rw [Rat.neg_num]; exact (decide_eq_false (by omega)).symm, ha, hd⟩
  · exact .inr (.inl ⟨h0, by rw [h.s]; exact decide_eq_false (by omega), by rw [h.a, h0, S_list]; rfl, by rw [Rat.neg_num]; exact (decide_eq_false (by omega)).symm, ha, hd⟩)
  · exact .inr (.inr ⟨h0, by rw [h.s]; exact decide_eq_false (by omega), by rw [h.a]; exact S_empty_of (by omega), by rw [Rat.neg_num]; exact (decide_eq_true (by omega)).symm, ha, hd⟩)
theorem Rz.neg {k : Nat} {q : Rat} (h : Rz k q) : Rz k (-q) := ⟨by rw [Rat.neg_num, Int.natAbs_neg]; exact h.1, h.2⟩





end Go.Proofs.YtoejojfjiikogaaDoor

/- Walks of package rat: Sub, Min, Max (printed by ratgen.py). -/
namespace Go.Proofs.YtoejojfjiikogaaDoor
open Go.RowKit
set_option linter.unusedVariables false
set_option linter.unusedSimpArgs false

def minQ (x y : Rat) : Rat := if cmpQ x y ≤ 0 then x else y
def maxQ (x y : Rat) : Rat := if 0 ≤ cmpQ x y then x else y


end Go.Proofs.YtoejojfjiikogaaDoor

/- Walks of packages nat and rat: Of, Make. -/
namespace Go.Proofs.YtoejojfjiikogaaDoor
open Go.RowKit
set_option linter.unusedVariables false
set_option linter.unusedSimpArgs false

theorem mkRat_one (z : Int) : mkRat z 1 = (z : Rat) := by
  apply Rat.ext
  · rw [Rat.num_mkRat]; simp
  · rw [Rat.den_mkRat]; simp
theorem Sz.small {n : Nat} (h : n < 256 ^ 8) : Sz 8 n := bstr_length_le.2 h
theorem Sz.one : Sz 1 1 := by unfold Sz; decide
theorem RIs.int {z : Int} {q : Rat} (h : q = (z : Rat)) : q.num = z ∧ q.den = 1 := by subst h; exact ⟨rfl, rfl⟩
theorem Rz.int {z : Int} {k : Nat} (h : z.natAbs < 256 ^ k) (hk : 1 ≤ k) : Rz k (z : Rat) := ⟨bstr_length_le.2 h, Sz.one.more hk⟩



end Go.Proofs.YtoejojfjiikogaaDoor

/- Walks of package gantmake: Below, digits, Of, Rat. -/
namespace Go.Proofs.YtoejojfjiikogaaDoor
open Go.RowKit
set_option linter.unusedVariables false
set_option linter.unusedSimpArgs false



theorem of_num (z : Int) (d : Nat) (hd : 0 < d) : (mkRat z d).num = z.tdiv (Nat.gcd z.natAbs d : Nat) ∧ (mkRat z d).den = d / Nat.gcd z.natAbs d := by
  rw [Rat.num_mkRat, Rat.den_mkRat, if_neg (by omega), if_neg (by omega), Nat.gcd_comm]
  refine ⟨(Int.tdiv_eq_ediv_of_dvd ?_).symm, rfl⟩
  exact Int.dvd_natAbs.1 (Int.natCast_dvd_natCast.2 (Nat.gcd_dvd_left _ _))


/-- what gantmake.Rat makes -/
def SmallQ (q : Rat) : Prop := ∃ (z : Int) (d : Nat), q = mkRat z d ∧ 0 < d ∧ d ≤ 8 ∧ -(8 * (d : Int)) ≤ z ∧ z ≤ 8 * d
end Go.Proofs.YtoejojfjiikogaaDoor

/- ratBegun; what gantmake.Rat makes is small. -/
namespace Go.Proofs.YtoejojfjiikogaaDoor
open Go.RowKit
set_option linter.unusedVariables false
set_option linter.unusedSimpArgs false

theorem SmallQ.rz {q : Rat} (h : SmallQ q) : Rz 1 q := by
  obtain ⟨z, d, rfl, hd, hd8, h1, h2⟩ := h
  obtain ⟨e1, e2⟩ := of_num z d hd
  have l1 : (mkRat z d).num.natAbs ≤ 64 := by
    rw [e1, Int.natAbs_tdiv]; exact Nat.le_trans (Nat.div_le_self _ _) (by omega)
  have l2 : (mkRat z d).den ≤ 8 := by rw [e2]; exact Nat.le_trans (Nat.div_le_self _ _) hd8
  exact ⟨bstr_length_le.2 (by omega), bstr_length_le.2 (by omega)⟩
end Go.Proofs.YtoejojfjiikogaaDoor

/- Frames of boxed numbers, for the walks of laws over rational numbers. -/
namespace Go.Proofs.YtoejojfjiikogaaDoor
open Go.RowKit
set_option linter.unusedVariables false
set_option linter.unusedSimpArgs false

def RV (t : Bool × ByteArray × ByteArray) : Array Value := #[.bool t.1, .string t.2.1, .string t.2.2]
/-- the numbers l in the blocks n, n + 1 .. -/
structure QL (w : World) (n : Nat) (l : List (Bool × ByteArray × ByteArray)) (w' : World) : Prop where
  blk : ∀ i t, l[i]? = some t → Blk w' (n + i) 23 (RV t)
  below : Below w.heap.size w w'
section
variable {w w' w3 : World} {n : Nat} {l : List (Bool × ByteArray × ByteArray)}
theorem QL.drew (h : Hid (QL w n l w')) : Hid (QL w n l w'.drew) := ⟨fun i t ht => (h.out.blk i t ht).drew, h.out.below.drew⟩
theorem QL.next (h : Hid (QL w n l w')) (hb : Below w'.heap.size w' w3) : Hid (QL w n l w3) := ⟨fun i t ht => (h.out.blk i t ht).belowB hb, below_next h.out.below hb⟩
theorem QL.alloc (h : Hid (QL w n l w')) (o : Obj) : Hid (QL w n l (w'.alloc o)) := ⟨fun i t ht => (h.out.blk i t ht).alloc o, h.out.below.alloc h.out.below.size o⟩
theorem QL.cell (h : QL w n l w') (i : Nat) {s : Bool} {a d : ByteArray} (ht : l[i]? = some (s, a, d)) : w'.cell? ⟨n + i, 0, none⟩ = some (.bool s) ∧ w'.cell? ⟨n + i, 1, none⟩ = some (.string a) ∧ w'.cell? ⟨n + i, 2, none⟩ = some (.string d) :=
  ⟨(h.blk i _ ht).cell 0, (h.blk i _ ht).cell 1, (h.blk i _ ht).cell 2⟩
end
/-! ### sizes of results -/
theorem den_dvd (z : Int) (d : Nat) (hd : 0 < d) : (mkRat z d).num.natAbs ≤ z.natAbs ∧ (mkRat z d).den ≤ d := by
  obtain ⟨e1, e2⟩ := of_num z d hd
  exact ⟨by rw [e1, Int.natAbs_tdiv]; exact Nat.div_le_self _ _, by rw [e2]; exact Nat.div_le_self _ _⟩
theorem Rz.mul {k l : Nat} {x y : Rat} (hx : Rz k x) (hy : Rz l y) : Rz (k + l) (x * y) := by
  rw [Rat.mul_def']
  obtain ⟨h1, h2⟩ := den_dvd (x.num * y.num) (x.den * y.den) (Nat.mul_pos x.den_pos y.den_pos)
  exact ⟨(hx.1.mul hy.1).le (by rw [← Int.natAbs_mul]; exact h1), (hx.2.mul hy.2).le h2⟩
theorem Rz.add {k l : Nat} {x y : Rat} (hx : Rz k x) (hy : Rz l y) : Rz (k + l + k + l + 1) (x + y) := by
  rw [Rat.add_def']
  obtain ⟨h1, h2⟩ := den_dvd (x.num * y.den + y.num * x.den) (x.den * y.den) (Nat.mul_pos x.den_pos y.den_pos)
  refine ⟨?_, (hx.2.mul hy.2).le h2 |>.more (by omega)⟩
  have h3 : Sz (k + l) (x.num * y.den).natAbs := by rw [Int.natAbs_mul]; exact hx.1.mul hy.2
  have h4 : Sz (l + k) (y.num * x.den).natAbs := by rw [Int.natAbs_mul]; exact hy.1.mul hx.2
  exact ((h3.add h4).more (by omega)).le (Nat.le_trans h1 (by omega))
theorem Rz.div {k l : Nat} {x y : Rat} (hx : Rz k x) (hy : Rz l y) (h0 : y ≠ 0) : Rz (k + l) (x / y) := by
  have hyn : y.num ≠ 0 := fun h => h0 (Rat.num_eq_zero.1 h)
  rw [← div_mk x y hyn]
  obtain ⟨h1, h2⟩ := den_dvd (sg (decide (x.num < 0) != decide (y.num < 0)) (x.num.natAbs * y.den)) (x.den * y.num.natAbs) (Nat.mul_pos x.den_pos (by omega))
  rw [sg_natAbs] at h1
  exact ⟨(hx.1.mul hy.2).le h1, (hx.2.mul hy.1).le h2⟩
theorem Rz.zero : Rz 1 (0 : Rat) := ⟨by unfold Sz; decide, by unfold Sz; decide⟩
theorem Rz.one : Rz 1 (1 : Rat) := ⟨by unfold Sz; decide, by unfold Sz; decide⟩
end Go.Proofs.YtoejojfjiikogaaDoor

/- Plain laws of the order of rational numbers, for RatOrder. -/
namespace Go.Proofs.YtoejojfjiikogaaDoor
open Go.RowKit
set_option linter.unusedVariables false
set_option linter.unusedSimpArgs false

/-- two numbers with the same parts are equal -/
theorem RIs.inj {x y : Rat} {s t : Bool} {a d b e : ByteArray} (h : RIs x s a d) (h' : RIs y t b e) (h1 : s = t) (h2 : a = b) (h3 : d = e) : x = y := by
  subst h1 h2 h3
  have ha : x.num.natAbs = y.num.natAbs := S_inj' (h.a.symm.trans h'.a)
  have hd : x.den = y.den := S_inj' (h.d.symm.trans h'.d)
  have hs : decide (x.num < 0) = decide (y.num < 0) := h.s.symm.trans h'.s
  apply Rat.ext
  · have h4 : (x.num < 0) = (y.num < 0) := by simpa using hs
    by_cases h5 : x.num < 0
    · have h6 : y.num < 0 := h4 ▸ h5
      omega
    · have h6 : ¬ y.num < 0 := h4 ▸ h5
      omega
  · exact hd
/-! ### frames and contracts, as in the walk of RatField -/
section
variable {w w' : World} {n : Nat} {s_a s_b s_c : Bool} {a_a d_a a_b d_b a_c d_c : ByteArray}
theorem QL.three {s_q : Bool} {a_q d_q : ByteArray} {m : Nat} (h : Hid (QL w m [(s_q, a_q, d_q)] w')) : w'.cell? ⟨m, 0, none⟩ = some (.bool s_q) ∧ w'.cell? ⟨m, 1, none⟩ = some (.string a_q) ∧ w'.cell? ⟨m, 2, none⟩ = some (.string d_q) :=
  ⟨(h.out.cell 0 rfl).1, (h.out.cell 0 rfl).2.1, (h.out.cell 0 rfl).2.2⟩
end
/-- the variable `left`, in a block of its own behind the three numbers -/
structure LZ (w : World) (n B : Nat) (t : Bool × ByteArray × ByteArray) (w' : World) : Prop where
  blk : Blk w' B 23 (RV t)
  far : n + 3 ≤ B
  low : w.heap.size ≤ B
theorem LZ.next {w w' w3 : World} {n B : Nat} {t : Bool × ByteArray × ByteArray} (h : Hid (LZ w n B t w')) (hb : Below w'.heap.size w' w3) : Hid (LZ w n B t w3) := ⟨h.out.blk.belowB hb, h.out.far, h.out.low⟩
theorem LZ.drew {w w' : World} {n B : Nat} {t : Bool × ByteArray × ByteArray} (h : Hid (LZ w n B t w')) : Hid (LZ w n B t w'.drew) := ⟨h.out.blk.drew, h.out.far, h.out.low⟩
theorem LZ.new {w w' : World} {n : Nat} {t1 t2 t3 t : Bool × ByteArray × ByteArray} (h : Hid (QL w n [t1, t2, t3] w')) : Hid (LZ w n w'.heap.size t (w'.alloc (.cells (RV t) 23))) := by
  have h2 : n + 2 < w'.heap.size := (h.out.blk 2 _ rfl).lt
  exact ⟨Blk.new _ _ _, by omega, h.out.below.size⟩
theorem LZ.all {w w' : World} {n B : Nat} {s : Bool} {a d : ByteArray} (h : Hid (LZ w n B (s, a, d) w')) : w'.cell? ⟨B, 0, none⟩ = some (.bool s) ∧ w'.cell? ⟨B, 1, none⟩ = some (.string a) ∧ w'.cell? ⟨B, 2, none⟩ = some (.string d) ∧ w'.frozen? ⟨B, 0, none⟩ = false ∧ w'.frozen? ⟨B, 1, none⟩ = false ∧ w'.frozen? ⟨B, 2, none⟩ = false := Blk.three h.out.blk
theorem QL.put {w w' : World} {n B : Nat} {t1 t2 t3 t : Bool × ByteArray × ByteArray} (h : Hid (QL w n [t1, t2, t3] w')) (hz : Hid (LZ w n B t w')) (x y z : Value) : Hid (QL w n [t1, t2, t3] (((w'.setCell ⟨B, 0, none⟩ x).setCell ⟨B, 1, none⟩ y).setCell ⟨B, 2, none⟩ z)) := by
  have hf := hz.out.far
  refine ⟨fun i t' ht => ?_, put3_below h.out.below hz.out.low x y z⟩
  have hi : i < 3 := by
    rcases Nat.lt_or_ge i 3 with h | h
    · exact h
    · rw [List.getElem?_eq_none (by simpa using h)] at ht; cases ht
  have hne : n + i ≠ B := by omega
  exact (((h.out.blk i t' ht).far hne _).far hne _).far hne _
theorem LZ.put {w w' : World} {n B : Nat} {t : Bool × ByteArray × ByteArray} (hz : Hid (LZ w n B t w')) (s : Bool) (a d : ByteArray) : Hid (LZ w n B (s, a, d) (((w'.setCell ⟨B, 0, none⟩ (.bool s)).setCell ⟨B, 1, none⟩ (.string a)).setCell ⟨B, 2, none⟩ (.string d))) :=
  ⟨((hz.out.blk.set_ 0 _).set_ 1 _).set_ 2 _, hz.out.far, hz.out.low⟩
theorem Rz.min {k : Nat} {x y : Rat} (hx : Rz k x) (hy : Rz k y) : Rz k (minQ x y) := by unfold minQ; split; exact hx; exact hy
theorem Rz.max {k : Nat} {x y : Rat} (hx : Rz k x) (hy : Rz k y) : Rz k (maxQ x y) := by unfold maxQ; split; exact hx; exact hy
end Go.Proofs.YtoejojfjiikogaaDoor
