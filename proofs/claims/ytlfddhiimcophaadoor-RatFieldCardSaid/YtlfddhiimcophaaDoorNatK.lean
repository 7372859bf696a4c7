/- Walks for the laws: strings.TrimLeft at one byte, bare, natBegun. -/
import Derived.Test.YtlfddhiimcophaaDoorNatJ
import Derived.Test.YtlfddhiimcophaaDoorNatH
namespace Go.Proofs.YtlfddhiimcophaaDoor
open Go.RowKit
set_option linter.unusedVariables false
set_option linter.unusedSimpArgs false

theorem trimByte_any (s : ByteArray) (w : World) (hs : s.size ≤ maxLen) :
    Calls Tryd.prog 66 #[.string s, .int .u8 0] w fun e w' => e = .returned (.string ⟨(strip (toL s)).toArray⟩) ∧ w = w' := by
  unfold maxLen at hs
  go_enter Tryd.func66, Tryd.ntmps66
  go_wp2_with fail
  go_loopg [0] s.size (fun k a wr => w = wr ∧ ∃ t : ByteArray, k = t.size ∧ t.size ≤ s.size ∧ a = .string t ∧ Hid (strip (toL t) = strip (toL s)))
  case atStart => exact ⟨rfl, s, rfl, Nat.le_refl _, rfl, rfl⟩
  case round =>
    obtain ⟨rfl, t, hgk, ht, rfl, hst⟩ := hrel
    have HGK := Lib.hid hgk; clear hgk
    by_cases hlt : 0 < t.size
    · go_wp2_with fail
      · have h0 : ((t[0].toNat : Int) == 0) = true := by assumption
        go_roundg (t.size - 1)
        case measure => rw [HGK.out]; omega
        case rel => exact ⟨rfl, _, (extract_size t 1).symm, by rw [extract_size]; omega, rfl, (strip_step t hlt h0).trans hst.out⟩
      · have h0 : ((t[0].toNat : Int) == 0) = false := by assumption
        go_ret
        exact ⟨by rw [← hst.out, strip_stop t hlt h0]; rfl, rfl⟩
    · go_wp2_with fail
      go_ret
      exact ⟨by rw [← hst.out, strip_nil t hlt]; rfl, rfl⟩

set_option maxRecDepth 20000 in
theorem trimLeft_any (s : ByteArray) (w : World) (hs : s.size ≤ maxLen) :
    Calls Tryd.prog 46 #[.string s, .string ⟨#[0]⟩] w fun e w' => e = .returned (.string ⟨(strip (toL s)).toArray⟩) ∧ w = w' := by
  by_cases h0 : s.toList = []
  · have h1 : toL s = [] := by rw [← h0, ByteArray.toList_eq]
    have hr : strip (toL s) = toL s := by rw [h1]; rfl
    have he : s.toList.isEmpty = true := by rw [h0]; rfl
    rw [hr]
    have HS := Lib.hid hs; clear hs h1 hr
    go_enter Tryd.func46, Tryd.ntmps46
    go_wp2_with fail
    all_goals go_ret
    all_goals exact ⟨rfl, rfl⟩
  · have he : s.toList.isEmpty = false := by simpa using h0
    go_enter Tryd.func46, Tryd.ntmps46
    go_wp2_with fail
    refine (trimByte_any s _ hs).mono ?_
    rintro e w' ⟨rfl, rfl⟩
    go_wp2_with fail
    go_ret
    exact ⟨rfl, rfl⟩

theorem trimLeft_bare (s : ByteArray) (w : World) (hs : s.size ≤ 60) :
    Calls Tryd.prog 46 #[.string s, .string ⟨#[0]⟩] w fun e w' => (∃ n, e = .returned (.string (S n)) ∧ (bstr n).length ≤ 60) ∧ w = w' :=
  (trimLeft_any s w (by unfold maxLen; omega)).mono fun e w' ⟨h1, h2⟩ => ⟨⟨bval (toL s), by rw [h1, strip_eq]; rfl, by
    rw [← strip_eq]; exact Nat.le_trans (List.dropWhile_suffix _).length_le hs⟩, h2⟩

theorem ext60 (s : ByteArray) : (s.extract 0 60).size ≤ 60 := by
  have := congrArg List.length (show toL (s.extract 0 60) = (toL s).take 60 by simp [toL])
  rw [List.length_take] at this
  have h2 : (toL (s.extract 0 60)).length = (s.extract 0 60).size := rfl
  omega
theorem bare_any (s : ByteArray) (w : World) (hs : s.size ≤ maxLen) :
    Calls Tryd.prog 13 #[.string s] w fun e w' => (∃ n, e = .returned (.string (S n)) ∧ (bstr n).length ≤ 60) ∧ w = w' := by
  have h60 := ext60 s
  obtain ⟨x, hx⟩ : ∃ x, x = s.extract 0 60 := ⟨_, rfl⟩
  rw [← hx] at h60
  have HX := Lib.hid h60; clear h60
  by_cases h : s.size ≤ 60
  · have HS := Lib.hid h
    go_enter Tryd.func13, Tryd.ntmps13
    go_wp2_with fail
    all_goals
      refine (trimLeft_bare s _ HS.out).mono ?_
      rintro e w' ⟨⟨n, rfl, hn⟩, rfl⟩
      have HN := Lib.hid hn; clear hn
      go_wp2_with fail
      go_ret
      exact ⟨⟨n, rfl, HN.out⟩, rfl⟩
  · go_enter Tryd.func13, Tryd.ntmps13
    go_wp2_with fail
    all_goals
      rw [← hx]
      refine (trimLeft_bare x _ HX.out).mono ?_
      rintro e w' ⟨⟨n, rfl, hn⟩, rfl⟩
      have HN := Lib.hid hn; clear hn
      go_wp2_with fail
      go_ret
      exact ⟨⟨n, rfl, HN.out⟩, rfl⟩

theorem natBegun_any (w : World) :
    Calls Tryd.prog 12 #[] w fun e w' => e = .returned (.bool true) ∧ Below w.heap.size w w' := by
  have e1 : (⟨#[2]⟩ : ByteArray) = S 2 := by decide
  have e2 : S (2 + 2) = ⟨#[4]⟩ := by decide
  have e3 : (⟨#[12]⟩ : ByteArray) = S 12 := by decide
  have e4 : T 12 = ⟨#[49, 50]⟩ := by decide
  have h2 : (bstr 2).length ≤ 35184372088832 := by decide
  have h12 : (bstr 12).length ≤ 35184372088832 := by decide
  have HE := Lib.hid (And.intro (And.intro e1 e2) (And.intro e3 e4)); clear e1 e2 e3 e4
  have HH := Lib.hid (And.intro h2 h12); clear h2 h12
  go_enter Tryd.func12, Tryd.ntmps12
  go_wp2_with fail
  rw [HE.out.1.1]
  refine (add_S 2 2 _ HH.out.1 HH.out.1).mono ?_
  rintro e w1 ⟨rfl, hb1⟩
  rw [HE.out.1.2]
  go_wp2_with fail
  rw [HE.out.2.1]
  refine (Text_S 12 _ HH.out.2).mono ?_
  rintro e w2 ⟨rfl, hb2⟩
  rw [HE.out.2.2]
  go_wp2_with fail
  go_ret
  exact ⟨rfl, below_next hb1 hb2⟩

theorem len_mul (m n : Nat) : (bstr (m * n)).length ≤ (bstr m).length + (bstr n).length := by
  rw [bstr_length_le, Nat.pow_add]
  rcases Nat.eq_zero_or_pos n with h | h
  · subst h; rw [Nat.mul_zero]; exact Nat.mul_pos (Nat.pow_pos (by omega)) (Nat.pow_pos (by omega))
  · exact Nat.mul_lt_mul'' (bstr_length_le.1 (Nat.le_refl _)) (bstr_length_le.1 (Nat.le_refl _))
theorem len_add (m n : Nat) : (bstr (m + n)).length ≤ (bstr m).length + (bstr n).length + 1 := by
  rw [bstr_length_le, Nat.pow_succ, Nat.pow_add]
  have h1 : m < 256 ^ (bstr m).length := bstr_length_le.1 (Nat.le_refl _)
  have h2 : n < 256 ^ (bstr n).length := bstr_length_le.1 (Nat.le_refl _)
  have h3 : 256 ^ (bstr m).length * 1 ≤ 256 ^ (bstr m).length * 256 ^ (bstr n).length := Nat.mul_le_mul_left _ (Nat.pow_pos (by omega))
  have h4 : 1 * 256 ^ (bstr n).length ≤ 256 ^ (bstr m).length * 256 ^ (bstr n).length := Nat.mul_le_mul_right _ (Nat.pow_pos (by omega))
  omega
end Go.Proofs.YtlfddhiimcophaaDoor
