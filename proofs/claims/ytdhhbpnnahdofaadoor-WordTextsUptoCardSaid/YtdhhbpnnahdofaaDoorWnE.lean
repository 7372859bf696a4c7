/- Walk: skip (package word): blanks and comments. -/
import Derived.Test.YtdhhbpnnahdofaaDoorWnD

namespace Go.Proofs.YtdhhbpnnahdofaaDoor
open Go.RowKit
set_option linter.unusedVariables false
set_option linter.unusedSimpArgs false

/-- how many bytes are blanks and comments; cm: a comment has begun -/
def skipL : List UInt8 → Bool → Nat
  | [], _ => 0
  | c :: r, true => if c.toNat = 10 then 1 + skipL r false else 1 + skipL r true
  | c :: r, false => if isB c.toNat then 1 + skipL r false else if c.toNat = 35 then 1 + skipL r true else 0
theorem skip_drop {l : List UInt8} {j : Nat} {x : UInt8} (h : l[j]? = some x) : l.drop j = x :: l.drop (j + 1) := by
  obtain ⟨hl, e⟩ := List.getElem?_eq_some_iff.1 h
  rw [List.drop_eq_getElem_cons hl, e]
theorem skip_blank {l : List UInt8} {j : Nat} {x : UInt8} (h : l[j]? = some x) (hb : isB x.toNat = true) : skipL (l.drop j) false = skipL (l.drop (j + 1)) false + 1 := by
  rw [skip_drop h, skipL, if_pos hb]; omega
theorem skip_hash {l : List UInt8} {j : Nat} {x : UInt8} (h : l[j]? = some x) (hb : isB x.toNat = false) (h35 : x.toNat = 35) : skipL (l.drop j) false = skipL (l.drop j) true := by
  rw [skip_drop h]
  simp only [skipL]
  rw [if_neg (show ¬ isB x.toNat = true by rw [hb]; decide), if_pos h35, if_neg (show ¬ x.toNat = 10 by omega)]
theorem skip_stop {l : List UInt8} {j : Nat} {x : UInt8} (h : l[j]? = some x) (hb : isB x.toNat = false) (h35 : x.toNat ≠ 35) : skipL (l.drop j) false = 0 := by
  rw [skip_drop h, skipL, if_neg (by rw [hb]; decide), if_neg h35]
theorem skip_in {l : List UInt8} {j : Nat} {x : UInt8} (h : l[j]? = some x) (h10 : x.toNat ≠ 10) : skipL (l.drop j) true = skipL (l.drop (j + 1)) true + 1 := by
  rw [skip_drop h, skipL, if_neg h10]; omega
theorem skip_out {l : List UInt8} {j : Nat} {x : UInt8} (h : l[j]? = some x) (h10 : x.toNat = 10) : skipL (l.drop j) true = skipL (l.drop j) false := by
  rw [skip_drop h, skipL, if_pos h10, skipL, if_pos (by unfold isB; rw [decide_eq_true h10]; simp)]
theorem skip_end {l : List UInt8} {j : Nat} {b : Bool} (h : l.length ≤ j) : skipL (l.drop j) b = 0 := by
  rw [List.drop_eq_nil_of_le h]; unfold skipL; rfl
theorem skipL_le : ∀ (l : List UInt8) (b : Bool), skipL l b ≤ l.length
  | [], b => by unfold skipL; exact Nat.le_refl _
  | c :: r, true => by
    have h1 := skipL_le r true
    have h2 := skipL_le r false
    unfold skipL; rw [List.length_cons]; split <;> omega
  | c :: r, false => by
    have h1 := skipL_le r true
    have h2 := skipL_le r false
    unfold skipL; rw [List.length_cons]; split
    · omega
    · split <;> omega

set_option maxHeartbeats 2000000 in
theorem skip_any (s : ByteArray) (a : Nat) (w : World) (hs : s.size ≤ 1000000) (ha : a ≤ s.size) :
    Calls Tryd.prog 129 #[.string s, .int .i64 a] w fun e w' => e = .returned (.int .i64 ((a + skipL ((bl s).drop a) false : Nat) : Int)) ∧ w' = w := by
  go_enter Tryd.func129, Tryd.ntmps129
  go_wp2_with fail
  go_loopg [1] (s.size - a) (fun k i wr => w = wr ∧ ∃ p : Nat, k = s.size - p ∧ p ≤ s.size ∧ i = .int .i64 p ∧ Hid (a + skipL ((bl s).drop a) false = p + skipL ((bl s).drop p) false))
  case atStart => exact ⟨rfl, a, rfl, ha, rfl, rfl⟩
  case round =>
    obtain ⟨rfl, p, hgk, hp, rfl, hr⟩ := hrel
    have HGK := Lib.hid hgk; clear hgk
    by_cases hlt : p < s.size
    · have HB := Lib.hid (bl_at s hlt)
      cases hc : isB (s[p]'hlt).toNat
      · have HP := Lib.hid hc
        clear hc
        have e35 := ieq (s[p]'hlt).toNat 35
        cases h35 : decide ((s[p]'hlt).toNat = 35) <;> rw [h35] at e35
        · have H35 := Lib.hid (of_decide_eq_false h35)
          clear h35
          go_wp2_with (go_at_call 177; refine (blank_any _ _).mono ?_; rintro e w' ⟨rfl, hw⟩; rw [hw, HP.out])
          go_ret
          exact ⟨ret_int (by rw [hr.out, skip_stop HB.out HP.out H35.out, Nat.add_zero]), rfl⟩
        · have H35 := Lib.hid (of_decide_eq_true h35)
          clear h35
          go_wp2_with (go_at_call 177; refine (blank_any _ _).mono ?_; rintro e w' ⟨rfl, hw⟩; rw [hw, HP.out])
          go_loopg [1] (s.size - p) (fun k i wr => w = wr ∧ ∃ q : Nat, k = s.size - q ∧ p ≤ q ∧ q ≤ s.size ∧ i = .int .i64 q ∧ Hid (a + skipL ((bl s).drop a) false = q + skipL ((bl s).drop q) true) ∧ Hid (q = p ∨ p < q))
          case atStart => exact ⟨rfl, p, rfl, Nat.le_refl _, hp, rfl, Lib.hid (by rw [hr.out, skip_hash HB.out HP.out H35.out]), Lib.hid (.inl rfl)⟩
          case round =>
            obtain ⟨rfl, q, hgk, hpq, hq, rfl, hr2, hqp⟩ := hrel
            have HGK2 := Lib.hid hgk; clear hgk
            by_cases hlt2 : q < s.size
            · have HB2 := Lib.hid (bl_at s hlt2)
              have e10 := ieq (s[q]'hlt2).toNat 10
              cases h10 : decide ((s[q]'hlt2).toNat = 10) <;> rw [h10] at e10
              · have H10 := Lib.hid (of_decide_eq_false h10)
                clear h10
                go_wp2_with fail
                go_roundg (s.size - (q + 1))
                case measure => rw [HGK2.out]; omega
                case rel => exact ⟨rfl, q + 1, rfl, by omega, by omega, by go_num, Lib.hid (by rw [hr2.out, skip_in HB2.out H10.out]; omega), Lib.hid (.inr (by omega))⟩
              · have H10 := Lib.hid (of_decide_eq_true h10)
                clear h10
                have hqq : p < q := by
                  rcases hqp.out with e | e
                  · subst e
                    have h1 := H10.out
                    have h2 := H35.out
                    omega
                  · exact e
                go_wp2_with fail
                go_roundg (s.size - q)
                case measure => rw [HGK.out]; omega
                case rel => exact ⟨rfl, q, rfl, hq, rfl, Lib.hid (by rw [hr2.out, skip_out HB2.out H10.out])⟩
            · obtain rfl : q = s.size := by omega
              go_wp2_with fail
              go_roundg 0
              case measure => rw [HGK.out]; omega
              case rel => exact ⟨rfl, s.size, by omega, Nat.le_refl _, rfl, Lib.hid (by rw [hr2.out, skip_end (by rw [bl_len]; exact Nat.le_refl _), skip_end (by rw [bl_len]; exact Nat.le_refl _)])⟩
      · have HP := Lib.hid hc
        clear hc
        go_wp2_with (go_at_call 177; refine (blank_any _ _).mono ?_; rintro e w' ⟨rfl, hw⟩; rw [hw, HP.out])
        go_roundg (s.size - (p + 1))
        case measure => rw [HGK.out]; omega
        case rel => exact ⟨rfl, p + 1, rfl, by omega, by go_num, Lib.hid (by rw [hr.out, skip_blank HB.out HP.out]; omega)⟩
    · go_wp2_with fail
      go_ret
      exact ⟨ret_int (by rw [hr.out, skip_end (by rw [bl_len]; omega), Nat.add_zero]), rfl⟩
end Go.Proofs.YtdhhbpnnahdofaaDoor
