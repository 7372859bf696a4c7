/- Joined texts. -/
import Derived.Test.YtiejgkmjaphbcaaDoorNatM
import Derived.Test.YtiejgkmjaphbcaaDoorBunNatA

/- Decimal texts: what is written is read back, and texts are ordered as numbers are. No program in sight. -/
namespace Go.Proofs.YtiejgkmjaphbcaaDoor
open Go.RowKit
set_option linter.unusedVariables false
set_option linter.unusedSimpArgs false

theorem dv_foldl (l : List UInt8) (n : Nat) : l.foldl (fun n c => n * 10 + (c.toNat - 48)) n = n * 10 ^ l.length + dv l := by
  induction l generalizing n with
  | nil => simp [dv]
  | cons c l ih =>
    unfold dv
    rw [List.foldl_cons, List.foldl_cons, ih, ih (0 * 10 + (c.toNat - 48)), List.length_cons, Nat.pow_succ]
    generalize 10 ^ l.length = p
    grind
theorem dv_cons (c : UInt8) (l : List UInt8) : dv (c :: l) = (c.toNat - 48) * 10 ^ l.length + dv l := by
  unfold dv; rw [List.foldl_cons, dv_foldl]; unfold dv; simp
theorem dv_lt {l : List UInt8} (h : l.all isDig = true) : dv l < 10 ^ l.length := by
  induction l with
  | nil => simp [dv]
  | cons c l ih =>
    rw [List.all_cons, Bool.and_eq_true] at h
    have h1 := ih h.2
    have h2 : 48 ≤ c.toNat ∧ c.toNat ≤ 57 := by simpa [isDig] using h.1
    rw [dv_cons, List.length_cons, Nat.pow_succ]
    have h3 : (c.toNat - 48) * 10 ^ l.length ≤ 9 * 10 ^ l.length := Nat.mul_le_mul_right _ (by omega)
    omega
theorem dig_char (k : Nat) : (UInt8.ofNat (48 + k % 10)).toNat = 48 + k % 10 := UInt8.toNat_ofNat_of_lt' (by simp [UInt8.size]; omega)
theorem dig_all (n : Nat) : (dig n).all isDig = true := by
  induction n using Nat.strongRecOn with
  | _ n ih =>
    by_cases h : n = 0
    · subst h; rfl
    · rw [dig_succ h, List.all_cons, ih (n / 10) (by omega), Bool.and_true]
      unfold isDig
      rw [dig_char]
      exact decide_eq_true (by omega)
theorem dv_dig (n : Nat) : dv (dig n).reverse = n := by
  induction n using Nat.strongRecOn with
  | _ n ih =>
    by_cases h : n = 0
    · subst h; rfl
    · rw [dig_succ h, List.reverse_cons, dv_snoc, ih (n / 10) (by omega), dig_char]; omega
theorem txt_all (n : Nat) : (txt n).all isDig = true := by
  unfold txt
  split
  · rfl
  · rw [List.all_reverse]; exact dig_all n
theorem dv_txt (n : Nat) : dv (txt n) = n := by
  unfold txt
  split
  · rename_i h; subst h; rfl
  · exact dv_dig n
theorem dig_len {n k : Nat} : (dig n).length ≤ k ↔ n < 10 ^ k := by
  induction k generalizing n with
  | zero =>
    rw [Nat.pow_zero]
    constructor
    · intro h
      have := dig_eq_nil.1 (List.eq_nil_of_length_eq_zero (Nat.le_zero.1 h))
      omega
    · intro h
      obtain rfl : n = 0 := by omega
      exact Nat.le_refl _
  | succ k ih =>
    by_cases h : n = 0
    · subst h
      constructor
      · intro _; exact Nat.pow_pos (by omega)
      · intro _; exact Nat.zero_le _
    · rw [dig_succ h, List.length_cons, Nat.succ_le_succ_iff, ih, Nat.pow_succ]
      omega
theorem txt_pos (n : Nat) : 0 < (txt n).length := by
  unfold txt
  split
  · exact Nat.one_pos
  · rename_i h
    rw [List.length_reverse]
    have := mt dig_eq_nil.1 h
    exact List.length_pos_iff.2 this
theorem txt_len {m n : Nat} (h : (txt n).length < (txt m).length) : n < m := by
  have hp := txt_pos n
  by_cases hm : m = 0
  · subst hm
    have e : (txt 0).length = 1 := rfl
    omega
  · by_cases hn : n = 0
    · omega
    · unfold txt at h
      rw [if_neg hm, if_neg hn, List.length_reverse, List.length_reverse] at h
      have h1 : ¬ m < 10 ^ (dig n).length := fun hh => by have := dig_len.2 hh; omega
      have h2 : n < 10 ^ (dig n).length := dig_len.1 (Nat.le_refl _)
      omega
theorem dig_last (n : Nat) (h : n ≠ 0) : (dig n).reverse.head? ≠ some 48 := by
  induction n using Nat.strongRecOn with
  | _ n ih =>
    rw [dig_succ h, List.reverse_cons]
    by_cases h1 : n / 10 = 0
    · rw [h1, dig_zero]
      simp only [List.reverse_nil, List.nil_append, List.head?_cons]
      intro e
      have e2 := congrArg UInt8.toNat (Option.some.inj e)
      rw [dig_char] at e2
      have : (48 : UInt8).toNat = 48 := rfl
      omega
    · have := ih (n / 10) (by omega) h1
      have hne : (dig (n / 10)).reverse ≠ [] := by simpa using mt dig_eq_nil.1 h1
      obtain ⟨c, l, hcl⟩ := List.exists_cons_of_ne_nil hne
      rw [hcl] at this ⊢
      simpa using this
theorem txt_read {n : Nat} (h : (bstr n).length ≤ 60) : readE (txt n) = 0 ∧ readS (txt n) = S n := by
  have h1 := dig_small h
  have hl : ¬ 2000 < (txt n).length := by
    unfold txt
    split
    · simp
    · rw [List.length_reverse]; omega
  have := readE_ok hl (by
    rintro (h2 | ⟨h2, h3⟩)
    · have := txt_pos n; rw [h2] at this; simp at this
    · unfold txt at h2 h3
      split at h3
      · rename_i h0; rw [if_pos h0] at h2; simp at h2
      · rename_i h0; exact dig_last n h0 h3) (txt_all n)
  rw [dv_txt] at this
  exact this
theorem txt_zero_read {n : Nat} (h : (bstr n).length ≤ 60) : readE (48 :: txt n) = 15 := by
  have h1 := dig_small h
  exact (readE_syntax (by
    rw [List.length_cons]
    unfold txt
    split
    · simp
    · rw [List.length_reverse]; omega) (.inr ⟨by rw [List.length_cons]; have := txt_pos n; omega, rfl⟩)).1
/-- texts of the same length are ordered as their numbers are -/
theorem cmp_digits {a b : List UInt8} (h : a.length = b.length) (ha : a.all isDig = true) (hb : b.all isDig = true) : cmpZ (bval a) (bval b) = cmpZ (dv a) (dv b) := by
  induction a generalizing b with
  | nil =>
    cases b with
    | nil => rfl
    | cons _ _ => simp at h
  | cons x a ih =>
    cases b with
    | nil => simp at h
    | cons y b =>
      rw [List.length_cons, List.length_cons] at h
      have hl : a.length = b.length := by omega
      rw [List.all_cons, Bool.and_eq_true] at ha hb
      have h1 := ih hl ha.2 hb.2
      have a1 := bval_lt a
      have b1 := bval_lt b
      have a2 := dv_lt ha.2
      have b2 := dv_lt hb.2
      have hx : 48 ≤ x.toNat ∧ x.toNat ≤ 57 := by simpa [isDig] using ha.1
      have hy : 48 ≤ y.toNat ∧ y.toNat ≤ 57 := by simpa [isDig] using hb.1
      rw [bval_cons, bval_cons, dv_cons, dv_cons, ← hl]
      rw [← hl] at b1 b2
      generalize 256 ^ a.length = P at *
      generalize 10 ^ a.length = Q at *
      obtain ⟨p, hp⟩ : ∃ p, x.toNat = p + 48 := ⟨x.toNat - 48, by omega⟩
      obtain ⟨q, hq⟩ : ∃ q, y.toNat = q + 48 := ⟨y.toNat - 48, by omega⟩
      rw [hp, hq, Nat.add_sub_cancel, Nat.add_sub_cancel]
      rcases Nat.lt_trichotomy p q with hlt | rfl | hgt
      · obtain ⟨r, rfl⟩ : ∃ r, q = p + 1 + r := ⟨q - p - 1, by omega⟩
        have e1 : (p + 1 + r + 48) * P = (p + 48) * P + P + r * P := by grind
        have e2 : (p + 1 + r) * Q = p * Q + Q + r * Q := by grind
        unfold cmpZ
        rw [e1, e2, if_pos (by omega), if_pos (by omega)]
      · unfold cmpZ at h1 ⊢
        simp only [Nat.add_lt_add_iff_left]
        exact h1
      · obtain ⟨r, rfl⟩ : ∃ r, p = q + 1 + r := ⟨p - q - 1, by omega⟩
        have e1 : (q + 1 + r + 48) * P = (q + 48) * P + P + r * P := by grind
        have e2 : (q + 1 + r) * Q = q * Q + Q + r * Q := by grind
        unfold cmpZ
        rw [e1, e2, if_neg (by omega), if_pos (by omega), if_neg (by omega), if_pos (by omega)]
theorem cmp_txt {m n : Nat} (h : (txt m).length = (txt n).length) : Lib.compareBytes (txt m) (txt n) = cmpZ m n := by
  rw [compareBytes_val h, cmp_digits h (txt_all m) (txt_all n), dv_txt, dv_txt]
end Go.Proofs.YtiejgkmjaphbcaaDoor
