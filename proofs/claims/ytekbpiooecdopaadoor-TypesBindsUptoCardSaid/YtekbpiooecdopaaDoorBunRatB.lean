/- Joined texts. -/
import Derived.Test.YtekbpiooecdopaaDoorBunRatA

/- Walks of package rat: Neg, Abs, Sign, Sub, Min, Max. -/
namespace Go.Proofs.YtekbpiooecdopaaDoor
open Go.RowKit
set_option linter.unusedVariables false
set_option linter.unusedSimpArgs false

theorem neg_parts {q : Rat} {s : Bool} {a d : ByteArray} (h : RIs q s a d) : (q.num < 0 ∧ s = true ∧ a.toList.isEmpty = false ∧ RIs (-q) false a d) ∨ (q.num = 0 ∧ s = false ∧ a.toList.isEmpty = true ∧ RIs (-q) false a d) ∨ (0 < q.num ∧ s = false ∧ a.toList.isEmpty = false ∧ RIs (-q) true a d) := by
  have hd : d = S (-q).den := h.d
  have ha : a = S (-q).num.natAbs := by rw [Rat.neg_num, Int.natAbs_neg]; exact h.a
  rcases Int.lt_trichotomy q.num 0 with h0 | h0 | h0
  · exact .inl ⟨h0, by rw [h.s]; exact decide_eq_true h0, by rw [h.a]; exact S_empty_of (by omega), by rw [Rat.neg_num]; exact (decide_eq_false (by omega)).symm, ha, hd⟩
  · exact .inr (.inl ⟨h0, by rw [h.s]; exact decide_eq_false (by omega), by rw [h.a, h0, S_list]; rfl, by rw [Rat.neg_num]; exact (decide_eq_false (by omega)).symm, ha, hd⟩)
  · exact .inr (.inr ⟨h0, by rw [h.s]; exact decide_eq_false (by omega), by rw [h.a]; exact S_empty_of (by omega), by rw [Rat.neg_num]; exact (decide_eq_true (by omega)).symm, ha, hd⟩)
theorem Rz.neg {k : Nat} {q : Rat} (h : Rz k q) : Rz k (-q) := ⟨by rw [Rat.neg_num, Int.natAbs_neg]; exact h.1, h.2⟩




/-- the sign of a number -/
def sgnQ (x : Rat) : Int := cmpQ x 0
theorem sgn_parts {q : Rat} {s : Bool} {a d : ByteArray} (h : RIs q s a d) : (q.num < 0 ∧ s = true ∧ a.toList.isEmpty = false ∧ sgnQ q = -1) ∨ (q.num = 0 ∧ s = false ∧ a.toList.isEmpty = true ∧ sgnQ q = 0) ∨ (0 < q.num ∧ s = false ∧ a.toList.isEmpty = false ∧ sgnQ q = 1) := by
  have l1 : q < 0 ↔ q.num < 0 := by rw [Rat.lt_iff]; simp
  have l2 : 0 < q ↔ 0 < q.num := by rw [Rat.lt_iff]; simp
  rcases neg_parts h with ⟨hn, h1, h2, -⟩ | ⟨hn, h1, h2, -⟩ | ⟨hn, h1, h2, -⟩
  · exact .inl ⟨hn, h1, h2, by unfold sgnQ cmpQ; rw [if_pos (l1.2 hn)]⟩
  · exact .inr (.inl ⟨hn, h1, h2, by unfold sgnQ cmpQ; rw [if_neg (fun h => by have := l1.1 h; omega), if_neg (fun h => by have := l2.1 h; omega)]⟩)
  · exact .inr (.inr ⟨hn, h1, h2, by unfold sgnQ cmpQ; rw [if_neg (fun h => by have := l1.1 h; omega), if_pos (l2.2 hn)]⟩)

end Go.Proofs.YtekbpiooecdopaaDoor

/- Walks of package rat: Sub, Min, Max (printed by ratgen.py). -/
namespace Go.Proofs.YtekbpiooecdopaaDoor
open Go.RowKit
set_option linter.unusedVariables false
set_option linter.unusedSimpArgs false

def minQ (x y : Rat) : Rat := if cmpQ x y ≤ 0 then x else y


end Go.Proofs.YtekbpiooecdopaaDoor

/- Walks of packages nat and rat: Of, Make. -/
namespace Go.Proofs.YtekbpiooecdopaaDoor
open Go.RowKit
set_option linter.unusedVariables false
set_option linter.unusedSimpArgs false

theorem natOf_any (n : Int) (w : World) (h0 : -9223372036854775808 ≤ n) (h1 : n ≤ 9223372036854775807) :
    Calls Tryd.prog 40 #[.int .i64 n] w fun e w' => e = .returned (.string (S n.toNat)) ∧ Below w.heap.size w w' := by
  by_cases h : n < 1
  · have e0 : n.toNat = 0 := by omega
    rw [e0]
    go_enter Tryd.func40, Tryd.ntmps40
    go_wp2_with fail
    go_ret
    exact ⟨rfl, Below.refl _ _⟩
  · obtain ⟨m, rfl⟩ : ∃ m : Nat, n = m := ⟨n.toNat, by omega⟩
    rw [Int.toNat_natCast]
    have ew : IntKind.u64.wrap (m : Int) = (m : Int) := u64_wrap_nat (by omega)
    have hm : m < 256 ^ 8 := by omega
    have HM := Lib.hid hm; clear hm
    go_enter Tryd.func40, Tryd.ntmps40
    go_wp2_with fail
    refine (fromShort_any m _ HM.out).mono ?_
    rintro e w1 ⟨rfl, hb⟩
    have HB := Lib.hid hb; clear hb
    go_wp2_with fail
    go_ret
    exact ⟨rfl, HB.out⟩
theorem Sz.small {n : Nat} (h : n < 256 ^ 8) : Sz 8 n := bstr_length_le.2 h
theorem Sz.one : Sz 1 1 := by unfold Sz; decide
theorem RIs.int {z : Int} {q : Rat} (h : q = (z : Rat)) : q.num = z ∧ q.den = 1 := by subst h; exact ⟨rfl, rfl⟩
theorem Rz.int {z : Int} {k : Nat} (h : z.natAbs < 256 ^ k) (hk : 1 ≤ k) : Rz k (z : Rat) := ⟨bstr_length_le.2 h, Sz.one.more hk⟩



end Go.Proofs.YtekbpiooecdopaaDoor

/- Walks of package gantmake: Below, digits, Of, Rat. -/
namespace Go.Proofs.YtekbpiooecdopaaDoor
open Go.RowKit
set_option linter.unusedVariables false
set_option linter.unusedSimpArgs false



theorem of_num (z : Int) (d : Nat) (hd : 0 < d) : (mkRat z d).num = z.tdiv (Nat.gcd z.natAbs d : Nat) ∧ (mkRat z d).den = d / Nat.gcd z.natAbs d := by
  rw [Rat.num_mkRat, Rat.den_mkRat, if_neg (by omega), if_neg (by omega), Nat.gcd_comm]
  refine ⟨(Int.tdiv_eq_ediv_of_dvd ?_).symm, rfl⟩
  exact Int.dvd_natAbs.1 (Int.natCast_dvd_natCast.2 (Nat.gcd_dvd_left _ _))


end Go.Proofs.YtekbpiooecdopaaDoor

/- ratBegun; what gantmake.Rat makes is small. -/
namespace Go.Proofs.YtekbpiooecdopaaDoor
open Go.RowKit
set_option linter.unusedVariables false
set_option linter.unusedSimpArgs false

end Go.Proofs.YtekbpiooecdopaaDoor

/- Frames of boxed numbers, for the walks of laws over rational numbers. -/
namespace Go.Proofs.YtekbpiooecdopaaDoor
open Go.RowKit
set_option linter.unusedVariables false
set_option linter.unusedSimpArgs false

section
variable {w w' w3 : World} {n : Nat} {l : List (Bool × ByteArray × ByteArray)}
end
/-! ### sizes of results -/
theorem den_dvd (z : Int) (d : Nat) (hd : 0 < d) : (mkRat z d).num.natAbs ≤ z.natAbs ∧ (mkRat z d).den ≤ d := by
  obtain ⟨e1, e2⟩ := of_num z d hd
  exact ⟨by rw [e1, Int.natAbs_tdiv]; exact Nat.div_le_self _ _, by rw [e2]; exact Nat.div_le_self _ _⟩
theorem Rz.mul {k l : Nat} {x y : Rat} (hx : Rz k x) (hy : Rz l y) : Rz (k + l) (x * y) := by
  rw [Rat.mul_def']
  obtain ⟨h1, h2⟩ := den_dvd (x.num * y.num) (x.den * y.den) (Nat.mul_pos x.den_pos y.den_pos)
  exact ⟨(hx.1.mul hy.1).le (by rw [← Int.natAbs_mul]; exact h1), (hx.2.mul hy.2).le h2⟩
theorem Rz.add {k l : Nat} {x y : Rat} (hx : Rz k x) (hy : Rz l y) : Rz (k + l + k + l + 1) (x + y) := by
  rw [Rat.add_def']
  obtain ⟨h1, h2⟩ := den_dvd (x.num * y.den + y.num * x.den) (x.den * y.den) (Nat.mul_pos x.den_pos y.den_pos)
  refine ⟨?_, (hx.2.mul hy.2).le h2 |>.more (by omega)⟩
  have h3 : Sz (k + l) (x.num * y.den).natAbs := by rw [Int.natAbs_mul]; exact hx.1.mul hy.2
  have h4 : Sz (l + k) (y.num * x.den).natAbs := by rw [Int.natAbs_mul]; exact hy.1.mul hx.2
  exact ((h3.add h4).more (by omega)).le (Nat.le_trans h1 (by omega))
theorem Rz.sub {k l : Nat} {x y : Rat} (hx : Rz k x) (hy : Rz l y) : Rz (k + l + k + l + 1) (x - y) := by
  rw [Rat.sub_eq_add_neg]; exact hx.add hy.neg
theorem Rz.zero : Rz 1 (0 : Rat) := ⟨by unfold Sz; decide, by unfold Sz; decide⟩
theorem Rz.one : Rz 1 (1 : Rat) := ⟨by unfold Sz; decide, by unfold Sz; decide⟩
end Go.Proofs.YtekbpiooecdopaaDoor

/- Plain laws of the order of rational numbers, for RatOrder. -/
namespace Go.Proofs.YtekbpiooecdopaaDoor
open Go.RowKit
set_option linter.unusedVariables false
set_option linter.unusedSimpArgs false

/-- two numbers with the same parts are equal -/
theorem RIs.inj {x y : Rat} {s t : Bool} {a d b e : ByteArray} (h : RIs x s a d) (h' : RIs y t b e) (h1 : s = t) (h2 : a = b) (h3 : d = e) : x = y := by
  subst h1 h2 h3
  have ha : x.num.natAbs = y.num.natAbs := S_inj' (h.a.symm.trans h'.a)
  have hd : x.den = y.den := S_inj' (h.d.symm.trans h'.d)
  have hs : decide (x.num < 0) = decide (y.num < 0) := h.s.symm.trans h'.s
  apply Rat.ext
  · have h4 : (x.num < 0) = (y.num < 0) := by simpa using hs
    by_cases h5 : x.num < 0
    · have h6 : y.num < 0 := h4 ▸ h5
      omega
    · have h6 : ¬ y.num < 0 := h4 ▸ h5
      omega
  · exact hd
/-! ### frames and contracts, as in the walk of RatField -/
section
variable {w w' : World} {n : Nat} {s_a s_b s_c : Bool} {a_a d_a a_b d_b a_c d_c : ByteArray}
end
theorem Rz.min {k : Nat} {x y : Rat} (hx : Rz k x) (hy : Rz k y) : Rz k (minQ x y) := by unfold minQ; split; exact hx; exact hy
end Go.Proofs.YtekbpiooecdopaaDoor
