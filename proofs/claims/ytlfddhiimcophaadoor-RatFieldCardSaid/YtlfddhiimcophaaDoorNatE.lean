/- Walks: strings.Compare; nat.Cmp. -/
import Derived.Test.YtlfddhiimcophaaDoorNatD
import Derived.Lib.Bytealg
namespace Go.Proofs.YtlfddhiimcophaaDoor
open Go.RowKit
set_option linter.unusedVariables false
set_option linter.unusedSimpArgs false

set_option maxRecDepth 100000 in
theorem compareString_any (a b : ByteArray) (w : World) :
    Calls Tryd.prog 50 #[.string a, .string b] w fun e w' => e = .returned (.int .i64 (Lib.compareBytes (toL a) (toL b))) ∧ w = w' := by
  go_enter Tryd.func50, Tryd.ntmps50
  go_wp2
  rw [run_callFunc_extern Tryd.func70 (by kernel_rfl) (by kernel_rfl) (by kernel_rfl) (e := Extern.BytealgCompare.compare) (by kernel_rfl), Lib.run_compareString]
  simp only [Result.andThen]
  rw [Oper.upon_value]
  go_wp2
  go_ret
  exact ⟨rfl, rfl⟩
theorem compare_any (a b : ByteArray) (w : World) :
    Calls Tryd.prog 17 #[.string a, .string b] w fun e w' => e = .returned (.int .i64 (Lib.compareBytes (toL a) (toL b))) ∧ w = w' := by
  go_enter Tryd.func17, Tryd.ntmps17
  go_wp2_with (go_at_call 50; refine (compareString_any _ _ _).mono ?_; rintro e w' ⟨rfl, rfl⟩)
  go_ret
  exact ⟨rfl, rfl⟩

def cmpZ (m n : Nat) : Int := if m < n then -1 else if n < m then 1 else 0
theorem compareBytes_val {a b : List UInt8} (h : a.length = b.length) : Lib.compareBytes a b = cmpZ (bval a) (bval b) := by
  induction a generalizing b with
  | nil =>
    cases b with
    | nil => rfl
    | cons y m => simp at h
  | cons x l ih =>
    cases b with
    | nil => simp at h
    | cons y m =>
      simp only [List.length_cons, Nat.add_right_cancel_iff] at h
      simp only [Lib.compareBytes]
      rw [bval_cons, bval_cons, h]
      have hl := bval_lt l
      have hm := bval_lt m
      rw [h] at hl
      by_cases h1 : x < y
      · rw [if_pos h1]
        have h2 : x.toNat + 1 ≤ y.toNat := UInt8.lt_iff_toNat_lt.1 h1
        have h3 := Nat.mul_le_mul_right (256 ^ m.length) h2
        rw [Nat.succ_mul] at h3
        generalize x.toNat * 256 ^ m.length = X at *
        generalize y.toNat * 256 ^ m.length = Y at *
        unfold cmpZ; rw [if_pos (by omega)]
      · rw [if_neg h1]
        by_cases h2 : y < x
        · rw [if_pos h2]
          have h2' : y.toNat + 1 ≤ x.toNat := UInt8.lt_iff_toNat_lt.1 h2
          have h3 := Nat.mul_le_mul_right (256 ^ m.length) h2'
          rw [Nat.succ_mul] at h3
          generalize x.toNat * 256 ^ m.length = X at *
          generalize y.toNat * 256 ^ m.length = Y at *
          unfold cmpZ; rw [if_neg (by omega), if_pos (by omega)]
        · rw [if_neg h2, ih h]
          have : x = y := UInt8.toNat_inj.1 (by
            have a1 : ¬ x.toNat < y.toNat := fun hh => h1 (UInt8.lt_iff_toNat_lt.2 hh)
            have a2 : ¬ y.toNat < x.toNat := fun hh => h2 (UInt8.lt_iff_toNat_lt.2 hh)
            omega)
          subst this
          unfold cmpZ
          by_cases b1 : bval l < bval m
          · rw [if_pos b1, if_pos (by omega)]
          · rw [if_neg b1]
            by_cases b2 : bval m < bval l
            · rw [if_pos b2, if_neg (by omega), if_pos (by omega)]
            · rw [if_neg b2, if_neg (by omega), if_neg (by omega)]
theorem lt_of_len {m n : Nat} (h : (bstr m).length < (bstr n).length) : m < n := by
  have h1 : m < 256 ^ (bstr m).length := bstr_length_le.1 (Nat.le_refl _)
  have h2 : ¬ n < 256 ^ (bstr m).length := fun hh => by have := bstr_length_le.2 hh; omega
  omega

theorem cmp_S (m n : Nat) (w : World) (hm : (bstr m).length ≤ 140737488355328) (hn : (bstr n).length ≤ 140737488355328) :
    Calls Tryd.prog 16 #[.string (S m), .string (S n)] w fun e w' => e = .returned (.int .i64 (cmpZ m n)) ∧ w = w' := by
  have hsm := S_size m
  have hsn := S_size n
  go_enter Tryd.func16, Tryd.ntmps16
  have HS := Lib.hid (And.intro hsm hsn); clear hsm hsn
  have HM := Lib.hid (And.intro hm hn)
  go_wp2_with (first | (go_at_call 49; ((with_reducible refine (trim_S m _ ?_).mono ?_); · (exact by unfold maxLen; omega)); rintro e w' ⟨rfl, rfl⟩) | (go_at_call 49; ((with_reducible refine (trim_S n _ ?_).mono ?_); · (exact by unfold maxLen; omega)); rintro e w' ⟨rfl, rfl⟩) | (go_at_call 17; refine (compare_any _ _ _).mono ?_; rintro e w' ⟨rfl, rfl⟩))
  · go_ret
    have h : (S m).size < (S n).size := by assumption
    rw [HS.out.1, HS.out.2] at h
    exact ⟨ret_int (by rw [cmpZ, if_pos (lt_of_len h)]), rfl⟩
  · go_ret
    have h : (S n).size < (S m).size := by assumption
    rw [HS.out.1, HS.out.2] at h
    have := lt_of_len h
    exact ⟨ret_int (by rw [cmpZ, if_neg (by omega), if_pos this]), rfl⟩
  · go_ret
    have h1 : ¬ (S m).size < (S n).size := by assumption
    have h2 : ¬ (S n).size < (S m).size := by assumption
    exact ⟨ret_int (by rw [compareBytes_val (show (toL (S m)).length = (toL (S n)).length by show (S m).size = (S n).size; omega), toL_S, toL_S, bval_bstr, bval_bstr]), rfl⟩
end Go.Proofs.YtlfddhiimcophaaDoor
