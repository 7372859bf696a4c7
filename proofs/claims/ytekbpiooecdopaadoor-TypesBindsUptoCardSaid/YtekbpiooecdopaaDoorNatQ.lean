/- Joined texts. -/
import Derived.Test.YtekbpiooecdopaaDoorBunNatA

/- Long division, digit by digit (base 2^32). No program in sight. -/
namespace Go.Proofs.YtekbpiooecdopaaDoor
open Go.RowKit
set_option linter.unusedVariables false
set_option linter.unusedSimpArgs false

/-! ### the estimate of one digit
W: the window's number, V: the divisor, P = B^(n-2); v1, v2: the divisor's two highest digits; top: the window's two highest; u2: its third. -/
structure Est (B P W V v1 v2 top u2 : Nat) : Prop where
  hB : 2 ≤ B
  hP : 0 < P
  v1B : v1 < B
  v1h : B ≤ 2 * v1
  v2B : v2 < B
  u2B : u2 < B
  vlo : (v1 * B + v2) * P ≤ V
  vhi : V < (v1 * B + v2 + 1) * P
  wlo : (top * B + u2) * P ≤ W
  whi : W < (top * B + u2 + 1) * P
  wV : W < V * B

section
variable {B P W V v1 v2 top u2 : Nat}
theorem Est.vpos (h : Est B P W V v1 v2 top u2) : 0 < V := by
  have h1 : 0 < v1 := by have := h.v1h; have := h.hB; omega
  have h2 : 0 < (v1 * B + v2) * P := Nat.mul_pos (Nat.lt_of_lt_of_le (Nat.mul_pos h1 (by have := h.hB; omega)) (Nat.le_add_right _ _)) h.hP
  exact Nat.lt_of_lt_of_le h2 h.vlo
theorem Est.top_lt (h : Est B P W V v1 v2 top u2) : top < (v1 + 1) * B := by
  have h1 : (top * B + u2) * P < (v1 * B + v2 + 1) * P * B := Nat.lt_of_le_of_lt h.wlo (Nat.lt_of_lt_of_le h.wV (Nat.mul_le_mul_right _ (Nat.le_of_lt h.vhi)))
  have h2 : top * B + u2 < (v1 * B + v2 + 1) * B := by
    rw [Nat.mul_right_comm] at h1
    exact Nat.lt_of_mul_lt_mul_right h1
  have h3 : (v1 * B + v2 + 1) * B ≤ ((v1 + 1) * B) * B := Nat.mul_le_mul_right _ (by rw [Nat.add_mul, Nat.one_mul]; have := h.v2B; omega)
  have h4 : top * B < (v1 + 1) * B * B := by omega
  exact Nat.lt_of_mul_lt_mul_right h4
/-- the quotient is not greater than the first guess -/
theorem Est.first (h : Est B P W V v1 v2 top u2) : W / V ≤ top / v1 := by
  have h1 : 0 < v1 := by have := h.v1h; have := h.hB; omega
  rw [Nat.le_div_iff_mul_le h1]
  have h2 : W / V * V ≤ W := Nat.div_mul_le_self W V
  have h3 : W / V * ((v1 * B + v2) * P) < (top * B + u2 + 1) * P := Nat.lt_of_le_of_lt (Nat.le_trans (Nat.mul_le_mul_left _ h.vlo) h2) h.whi
  rw [← Nat.mul_assoc] at h3
  have h4 := Nat.lt_of_mul_lt_mul_right h3
  rw [Nat.mul_add, ← Nat.mul_assoc] at h4
  have h5 : W / V * v1 * B < (top + 1) * B := by rw [Nat.add_mul, Nat.one_mul]; have := h.u2B; omega
  have := Nat.lt_of_mul_lt_mul_right h5
  omega
theorem Est.lt (h : Est B P W V v1 v2 top u2) : W / V < B := by
  rw [Nat.div_lt_iff_lt_mul h.vpos, Nat.mul_comm]; exact h.wV
/-- a guess that the test refuses is too great -/
theorem Est.refuse (h : Est B P W V v1 v2 top u2) {d rest : Nat} (hd : W / V ≤ d) (hr : d * v1 + rest = top) (ht : B ≤ d ∨ rest * B + u2 < d * v2) : W / V ≤ d - 1 := by
  rcases ht with ht | ht
  · have := h.lt; omega
  · have h2 : W / V * V ≤ W := Nat.div_mul_le_self W V
    have h3 : W / V * ((v1 * B + v2) * P) < (top * B + u2 + 1) * P := Nat.lt_of_le_of_lt (Nat.le_trans (Nat.mul_le_mul_left _ h.vlo) h2) h.whi
    rw [← Nat.mul_assoc] at h3
    have h4 := Nat.lt_of_mul_lt_mul_right h3
    have h5 : top * B + u2 < d * (v1 * B + v2) := by
      rw [← hr, Nat.mul_add, Nat.add_mul, ← Nat.mul_assoc]; omega
    have h6 : W / V * (v1 * B + v2) < d * (v1 * B + v2) := by omega
    have := Nat.lt_of_mul_lt_mul_right h6
    omega
/-- a guess that the test lets pass is the quotient or one more -/
theorem Est.pass (h : Est B P W V v1 v2 top u2) {d rest : Nat} (hdB : d < B) (hr : d * v1 + rest = top) (ht : d * v2 ≤ rest * B + u2) : d * V < W + V := by
  have h1 : d * (v1 * B + v2) ≤ top * B + u2 := by
    rw [← hr, Nat.mul_add, Nat.add_mul, ← Nat.mul_assoc]; omega
  have h2 : d * (v1 * B + v2) * P ≤ W := Nat.le_trans (Nat.mul_le_mul_right _ h1) h.wlo
  have h3 : d * V ≤ d * ((v1 * B + v2 + 1) * P) := Nat.mul_le_mul_left _ (Nat.le_of_lt h.vhi)
  have h4 : d * ((v1 * B + v2 + 1) * P) = d * (v1 * B + v2) * P + d * P := by rw [← Nat.mul_assoc, Nat.mul_add, Nat.mul_one, Nat.add_mul]
  have h5 : d * P < V := by
    have h6 : d * P < B * P := Nat.mul_lt_mul_of_pos_right hdB h.hP
    have h7 : 1 * B ≤ v1 * B := Nat.mul_le_mul_right _ (by have := h.v1h; have := h.hB; omega)
    have h8 : B * P ≤ (v1 * B + v2) * P := Nat.mul_le_mul_right _ (by omega)
    have := h.vlo
    omega
  omega
/-- at the break the guess is less than B -/
theorem Est.brk (h : Est B P W V v1 v2 top u2) {d rest : Nat} (hr : d * v1 + rest = top) (hb : B ≤ rest) : d < B := by
  have h1 := h.top_lt
  rw [Nat.add_mul, Nat.one_mul] at h1
  have h2 : d * v1 < v1 * B := by omega
  rw [Nat.mul_comm v1 B] at h2
  exact Nat.lt_of_mul_lt_mul_right h2
theorem Est.brk_pass (h : Est B P W V v1 v2 top u2) {d rest : Nat} (hr : d * v1 + rest = top) (hb : B ≤ rest) : d * v2 ≤ rest * B + u2 := by
  have h1 := h.brk hr hb
  have h2 : d * v2 ≤ B * B := Nat.mul_le_mul (Nat.le_of_lt h1) (Nat.le_of_lt h.v2B)
  have h3 : B * B ≤ rest * B := Nat.mul_le_mul_right _ hb
  omega
theorem Est.d_le (h : Est B P W V v1 v2 top u2) : top / v1 < 2 * B + 2 := by
  have h1 : 0 < v1 := by have := h.v1h; have := h.hB; omega
  rw [Nat.div_lt_iff_lt_mul h1]
  have h2 := h.top_lt
  rw [Nat.add_mul, Nat.one_mul] at h2
  have h3 : (2 * B + 2) * v1 = v1 * B + v1 * B + 2 * v1 := by rw [Nat.add_mul, Nat.mul_comm v1 B, Nat.two_mul, Nat.add_mul]
  have := h.v1h
  have h4 : v1 * B + v1 * B + 2 * v1 ≥ v1 * B + B := by omega
  omega
end

/-! ### the quotient's digit, and the rest -/
theorem digit_eq {W V d : Nat} (hV : 0 < V) (h1 : W / V ≤ d) (h2 : d * V < W + V) (h3 : ¬ W < d * V) : W / V = d ∧ W - d * V = W % V := by
  have h4 : d ≤ W / V := (Nat.le_div_iff_mul_le hV).2 (Nat.le_of_not_lt h3)
  have e : W / V = d := Nat.le_antisymm h1 h4
  have := Nat.div_add_mod W V
  rw [e, Nat.mul_comm] at this
  exact ⟨e, by omega⟩
theorem digit_less {W V d : Nat} (hV : 0 < V) (h1 : W / V ≤ d) (h2 : d * V < W + V) (h3 : W < d * V) : 1 ≤ d ∧ W / V = d - 1 ∧ W + V - d * V = W % V := by
  have hd : 1 ≤ d := by
    rcases Nat.eq_zero_or_pos d with h | h
    · subst h; omega
    · exact h
  obtain ⟨c, rfl⟩ : ∃ c, d = c + 1 := ⟨d - 1, by omega⟩
  rw [Nat.add_mul, Nat.one_mul] at h2 h3 ⊢
  have h4 : c ≤ W / V := (Nat.le_div_iff_mul_le hV).2 (by omega)
  have h5 : W / V < c + 1 := by rw [Nat.div_lt_iff_lt_mul hV, Nat.add_mul, Nat.one_mul]; exact h3
  have e : W / V = c := by omega
  have := Nat.div_add_mod W V
  rw [e, Nat.mul_comm] at this
  exact ⟨hd, by omega, by omega⟩

/-! ### steps of the loops -/
theorem take_step {L D U B p c z x bw bw' c' : Nat} (h : L + D = U + B * (c + bw)) (hz : z + 4294967296 * ((c + p) / 4294967296) + (c + p) % 4294967296 + bw = x + 4294967296 * bw' + 4294967296 * ((c + p) / 4294967296)) (hc : c' = (c + p) / 4294967296) :
    (L + B * z) + (D + B * p) = (U + B * x) + B * 4294967296 * (c' + bw') := by
  subst hc
  have e : z + (c + p) + bw = x + 4294967296 * bw' + 4294967296 * ((c + p) / 4294967296) := by omega
  have h2 := congrArg (B * ·) e
  simp only [Nat.mul_add] at h2
  rw [Nat.mul_add] at h
  rw [Nat.mul_add, Nat.mul_assoc, Nat.mul_assoc]
  omega
theorem left_step {L X B b w c lo hi : Nat} (h : L + B * c = X * b) (hw : w * b = lo + 4294967296 * hi) : (L + B * (lo + c)) + B * 4294967296 * hi = (X + B * w) * b := by
  rw [Nat.add_mul, Nat.mul_assoc B w b, hw, ← h]
  simp only [Nat.mul_add, Nat.mul_assoc]
  omega
end Go.Proofs.YtekbpiooecdopaaDoor
