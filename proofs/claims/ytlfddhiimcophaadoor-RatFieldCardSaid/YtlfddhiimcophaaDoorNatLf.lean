/- The greatest common divisor by halves: plain law. -/
import Derived.Test.YtlfddhiimcophaaDoorNatLe
namespace Go.Proofs.YtlfddhiimcophaaDoor
open Go.RowKit
set_option linter.unusedVariables false
set_option linter.unusedSimpArgs false

def Odd' (n : Nat) : Prop := ∃ q, n = 2 * q + 1
theorem Odd'.pos {n : Nat} (h : Odd' n) : 0 < n := by obtain ⟨q, rfl⟩ := h; omega
theorem Odd'.cop {n : Nat} (h : Odd' n) (k : Nat) : Nat.Coprime (2 ^ k) n := by
  obtain ⟨q, rfl⟩ := h
  exact Nat.Coprime.pow_left _ (show Nat.gcd 2 (2 * q + 1) = 1 by simp)
/-- powers of 2 struck beside an odd number -/
theorem gcd_half {o y k : Nat} (hy : Odd' y) : Nat.gcd (2 ^ k * o) y = Nat.gcd o y := Nat.Coprime.gcd_mul_left_cancel _ (hy.cop k)
theorem gcd_powers {a b m n : Nat} (ha : Odd' a) (hb : Odd' b) : Nat.gcd (2 ^ m * a) (2 ^ n * b) = 2 ^ (min m n) * Nat.gcd a b := by
  rcases Nat.le_total m n with h | h
  · obtain ⟨k, rfl⟩ : ∃ k, n = m + k := ⟨n - m, by omega⟩
    rw [Nat.min_eq_left h, Nat.pow_add, Nat.mul_assoc, Nat.gcd_mul_left, Nat.gcd_comm a, gcd_half ha, Nat.gcd_comm]
  · obtain ⟨k, rfl⟩ : ∃ k, m = n + k := ⟨m - n, by omega⟩
    rw [Nat.min_eq_right h, Nat.pow_add, Nat.mul_assoc, Nat.gcd_mul_left, gcd_half hb]
theorem odd_of {x b q : Nat} (h : x = 2 ^ b * (2 * q + 1)) : Odd' (x / 2 ^ b) ∧ x / 2 ^ b * 2 ^ b = x := by
  have : x / 2 ^ b = 2 * q + 1 := by rw [h, Nat.mul_div_cancel_left _ (Nat.pow_pos (by omega))]
  rw [this]
  exact ⟨⟨q, rfl⟩, by rw [h, Nat.mul_comm]⟩
/-- one round: X not less than Y, both odd; D the difference, struck of its powers of 2 -/
theorem gcd_round {X Y b q : Nat} (hY : Odd' Y) (hle : Y ≤ X) (hb : X - Y = 2 ^ b * (2 * q + 1)) : Nat.gcd ((X - Y) / 2 ^ b) Y = Nat.gcd X Y ∧ Odd' ((X - Y) / 2 ^ b) ∧ (X - Y) / 2 ^ b + Y < X + Y := by
  obtain ⟨h1, h2⟩ := odd_of hb
  refine ⟨?_, h1, ?_⟩
  · rw [← gcd_half (k := b) hY, Nat.mul_comm, h2, Nat.gcd_sub_self_left hle]
  · have h3 : (X - Y) / 2 ^ b ≤ X - Y := Nat.div_le_self _ _
    have := hY.pos
    omega
theorem len_of_lt {X : List Nat} (ht : Tp X) {n : Nat} (h : lval X < 18446744073709551616 ^ n) : X.length ≤ n := by
  rcases Nat.lt_or_ge n X.length with h1 | h1
  · have h2 := lval_pos_top ht (by rintro rfl; simp at h1)
    have h3 : 18446744073709551616 ^ n ≤ 18446744073709551616 ^ (X.length - 1) := Nat.pow_le_pow_right (by omega) (by omega)
    omega
  · exact h1
theorem gcd_le' {a b : Nat} (ha : 0 < a) : Nat.gcd a b ≤ a := Nat.le_of_dvd ha (Nat.gcd_dvd_left a b)

/-! ### the bytes of the result -/
theorem lb_step {x k : Nat} (hx : x < 18446744073709551616) (hk : k < 8) : x / 256 ^ (8 - k) * 256 + x / 256 ^ (7 - k) % 256 = x / 256 ^ (7 - k) := by
  have h1 : x / 256 ^ (8 - k) = x / 256 ^ (7 - k) / 256 := by
    rw [Nat.div_div_eq_div_mul, ← Nat.pow_succ]; congr 2; omega
  rw [h1]; omega
theorem lb_zero {x : Nat} (hx : x < 18446744073709551616) : x / 256 ^ 8 = 0 := Nat.div_eq_of_lt hx
theorem lb_byte {x k : Nat} (hk : k < 8) : (x : Int) / 2 ^ (56 - 8 * k) % 256 = (((UInt8.ofNat (x / 256 ^ (7 - k) % 256)).toNat : Nat) : Int) := by
  rw [ofNat_toNat, show (256 : Nat) ^ (7 - k) = 2 ^ (56 - 8 * k) by rw [show (256 : Nat) = 2 ^ 8 from rfl, ← Nat.pow_mul]; congr 1; omega]
  rw [Int.natCast_emod, Int.natCast_ediv, Int.natCast_pow]; rfl
theorem lb_set {cs : List UInt8} {p k : Nat} (c : UInt8) (h : p + k < cs.length) : ((cs.set (p + k) c).drop p).take (k + 1) = (cs.drop p).take k ++ [c] := by
  rw [List.drop_set, if_neg (by omega), Nat.add_sub_cancel_left, List.take_succ_eq_append_getElem (by rw [List.length_set, List.length_drop]; omega), List.take_set_of_le (Nat.le_refl _)]
  simp
theorem lb_round {cs : List UInt8} {p k x : Nat} (hx : x < 18446744073709551616) (hk : k < 8) (h : p + k < cs.length) (hv : bval ((cs.drop p).take k) = x / 256 ^ (8 - k)) :
    bval (((cs.set (p + k) (UInt8.ofNat (x / 256 ^ (7 - k) % 256))).drop p).take (k + 1)) = x / 256 ^ (8 - (k + 1)) := by
  rw [lb_set _ h, bval_snoc, hv, ofNat_toNat, lb_step hx hk, show 8 - (k + 1) = 7 - k by omega]
theorem lb_limb {cs bs : List UInt8} {Y : List Nat} {m j n x : Nat} (hl : cs.length = 8 * n) (hm : m + 1 + j = n) (hd : cs.drop (8 * (m + 1)) = bs.drop (8 * (m + 1))) (hb : bval (bs.drop (8 * (m + 1))) = lval (Y.take j)) (hx : Y[j]? = some x) (hv : bval ((cs.drop (8 * m)).take 8) = x) :
    bval (cs.drop (8 * m)) = lval (Y.take (j + 1)) := by
  rw [lval_take_succ hx, ← hb, ← hd]
  conv => lhs; rw [← List.take_append_drop 8 (cs.drop (8 * m))]
  rw [bval_append, List.drop_drop, hv, show 8 * m + 8 = 8 * (m + 1) by omega, List.length_drop, hl, show 8 * n - 8 * (m + 1) = 8 * j by omega, Nat.pow_mul, show (256 : Nat) ^ 8 = 18446744073709551616 from rfl, Nat.mul_comm, Nat.add_comm]
theorem bval_power (n : Nat) : bval (UInt8.ofNat (2 ^ (n % 8)) :: List.replicate (n / 8) 0) = 2 ^ n := by
  have h0 : ∀ k, bval (List.replicate k 0) = 0 := by
    intro k
    induction k with
    | zero => rfl
    | succ k ih => rw [List.replicate_succ, bval_zero_cons, ih]
  have h1 : 2 ^ (n % 8) ≤ 2 ^ 7 := Nat.pow_le_pow_right (by omega) (by omega)
  rw [bval_cons, h0, List.length_replicate, UInt8.toNat_ofNat_of_lt' (by simp [UInt8.size]; omega), Nat.add_zero, show (256 : Nat) = 2 ^ 8 from rfl, ← Nat.pow_mul, ← Nat.pow_add]
  congr 1; omega
end Go.Proofs.YtlfddhiimcophaaDoor
