/- Walks: WordValid (package gantref4), Valid (package word). -/
import Derived.Test.YtdhhbpnnahdofaaDoorWnI

namespace Go.Proofs.YtdhhbpnnahdofaaDoor
open Go.RowKit
set_option linter.unusedVariables false
set_option linter.unusedSimpArgs false

def signT (l : List UInt8) : Bool := l == [123] || l == [125] || l == [59]
/-- a word has a text of its kind -/
def validB (k : Int) (t : ByteArray) : Bool := if k = 1 then nameB (bl t) else if k = 2 then numB (bl t) else decide (k = 3) && signT (bl t)
theorem ibeq {k c : Int} (b : Bool) (h : decide (k = c) = b) : (k == c) = b := by
  rw [← h]
  by_cases e : k = c
  · subst e; simp
  · rw [decide_eq_false e, beq_eq_false_iff_ne]; exact e
theorem signT_no {t : ByteArray} (h : t.size ≠ 1) : signT (bl t) = false := by
  have hl := bl_len t
  unfold signT
  generalize bl t = l at hl
  match l with
  | [] => rfl
  | [x] => simp at hl; omega
  | x :: y :: r => simp
theorem signT_one {t : ByteArray} (hz : 0 < t.size) (h : t.size = 1) : signT (bl t) = isS (t[0]'hz).toNat := by
  have hl := bl_len t
  have h0 := bl_at t (j := 0) (by omega)
  unfold signT
  generalize bl t = l at hl h0
  match l with
  | [] => simp at hl; omega
  | [x] =>
    simp at h0
    rw [← h0]
    revert x
    intro x
    exact fun _ _ => byte_all (p := fun x => ([x] == [123] || [x] == [125] || [x] == [59]) = isS x.toNat) (by decide +kernel) x
  | x :: y :: r => simp at hl; omega

set_option maxHeartbeats 4000000 in
theorem wordValid_any (k a : Int) (t : ByteArray) (w : World) (ht : t.size ≤ 1048576) (hM : MaxL w) :
    Calls Tryd.prog 10 #[.agg #[.int .i64 k, .int .i64 a, .string t]] w fun e w' => e = .returned (.bool (validB k t)) ∧ Below w.heap.size w w' := by
  have hb0 : Below w.heap.size w (w.alloc (.cells #[.int .i64 k, .int .i64 a, .string t] 27)) := (Below.refl _ _).alloc (Nat.le_refl _) _
  cases h1 : decide (k = 1) with
  | true =>
    have e1 := ibeq true h1
    have HV := Lib.hid (show validB k t = nameB (bl t) by unfold validB; rw [if_pos (of_decide_eq_true h1)])
    have HN := Lib.hid (fun w => nameIs_any t w ht)
    have HB := Lib.hid hb0
    clear h1 hb0 hM
    go_enter Tryd.func10, Tryd.ntmps10
    go_wp2_with (go_at_call 64; refine (HN.out _).mono ?_; rintro e w2 ⟨rfl, hb2⟩; have HB2 := Lib.hid hb2; clear hb2)
    go_ret
    exact ⟨ret_bool HV.out.symm, HB.out.trans (HB2.out.mono HB.out.size)⟩
  | false =>
    have e1 := ibeq false h1
    cases h2 : decide (k = 2) with
    | true =>
      have e2 := ibeq true h2
      have HV := Lib.hid (show validB k t = numB (bl t) by unfold validB; rw [if_neg (of_decide_eq_false h1), if_pos (of_decide_eq_true h2)])
      have HB := Lib.hid hb0
      have HN := Lib.hid (numberIs_any t _ ht (hM.below hb0))
      clear h1 h2 hb0 hM
      go_enter Tryd.func10, Tryd.ntmps10
      go_wp2_with (go_at_call 65; refine HN.out.mono ?_; rintro e w2 ⟨rfl, hb2⟩; have HB2 := Lib.hid hb2; clear hb2)
      go_ret
      exact ⟨ret_bool HV.out.symm, HB.out.trans (HB2.out.mono HB.out.size)⟩
    | false =>
      have e2 := ibeq false h2
      have hv : validB k t = (decide (k = 3) && signT t.toList) := by unfold validB; rw [if_neg (of_decide_eq_false h1), if_neg (of_decide_eq_false h2), Lib.toList_data]; rfl
      unfold signT at hv
      have HV := Lib.hid hv
      have HB := Lib.hid hb0
      clear h1 h2 hb0 hv hM
      cases h3 : decide (k = 3) with
      | false =>
        have e3 := ibeq false h3
        rw [h3] at HV
        clear h3
        go_enter Tryd.func10, Tryd.ntmps10
        go_wp2_with fail
        go_ret
        exact ⟨ret_bool HV.out.symm, HB.out⟩
      | true =>
        have e3 := ibeq true h3
        rw [h3] at HV
        clear h3
        cases c1 : (t.toList == [123]) <;> cases c2 : (t.toList == [125]) <;> cases c3 : (t.toList == [59])
        all_goals
          rw [c1, c2, c3] at HV
          go_enter Tryd.func10, Tryd.ntmps10
          go_wp2_with fail
          go_ret
          exact ⟨ret_bool HV.out.symm, HB.out⟩

set_option maxHeartbeats 4000000 in
theorem valid_any (k a : Int) (t : ByteArray) (w : World) (ht : t.size ≤ 1048576) (hM : MaxL w) :
    Calls Tryd.prog 11 #[.agg #[.int .i64 k, .int .i64 a, .string t]] w fun e w' => e = .returned (.bool (validB k t)) ∧ Below w.heap.size w w' := by
  have hb0 : Below w.heap.size w (w.alloc (.cells #[.int .i64 k, .int .i64 a, .string t] 27)) := (Below.refl _ _).alloc (Nat.le_refl _) _
  cases h1 : decide (k = 1) with
  | true =>
    have e1 := ibeq true h1
    have HV := Lib.hid (show validB k t = nameB (bl t) by unfold validB; rw [if_pos (of_decide_eq_true h1)])
    have HB := Lib.hid hb0
    clear h1 hb0 hM
    go_enter Tryd.func11, Tryd.ntmps11
    go_wp2_with (go_at_call 66; refine (isName_any _ _).mono ?_; rintro e w2 ⟨rfl, hw⟩; rw [hw])
    go_ret
    exact ⟨ret_bool HV.out.symm, HB.out⟩
  | false =>
    have e1 := ibeq false h1
    cases h2 : decide (k = 2) with
    | true =>
      have e2 := ibeq true h2
      have HV := Lib.hid (show validB k t = numB (bl t) by unfold validB; rw [if_neg (of_decide_eq_false h1), if_pos (of_decide_eq_true h2)])
      have HB := Lib.hid hb0
      have HN := Lib.hid (isNumber_any t _ ht (hM.below hb0))
      clear h1 h2 hb0 hM
      go_enter Tryd.func11, Tryd.ntmps11
      go_wp2_with (go_at_call 67; refine HN.out.mono ?_; rintro e w2 ⟨rfl, hb2⟩; have HB2 := Lib.hid hb2; clear hb2)
      go_ret
      exact ⟨ret_bool HV.out.symm, HB.out.trans (HB2.out.mono HB.out.size)⟩
    | false =>
      have e2 := ibeq false h2
      have hv : validB k t = (decide (k = 3) && signT (bl t)) := by unfold validB; rw [if_neg (of_decide_eq_false h1), if_neg (of_decide_eq_false h2)]
      have HV := Lib.hid hv
      have HB := Lib.hid hb0
      clear h1 h2 hb0 hv hM
      cases h3 : decide (k = 3) with
      | false =>
        have e3 := ibeq false h3
        rw [h3] at HV
        clear h3
        go_enter Tryd.func11, Tryd.ntmps11
        go_wp2_with fail
        go_ret
        exact ⟨ret_bool HV.out.symm, HB.out⟩
      | true =>
        have e3 := ibeq true h3
        rw [h3, Bool.true_and] at HV
        clear h3
        by_cases hz : t.size = 1
        · have h0 : 0 < t.size := by omega
          rw [signT_one h0 hz] at HV
          have ez : ((t.size : Int) == 1) = true := by rw [hz]; rfl
          clear hz
          go_enter Tryd.func11, Tryd.ntmps11
          go_wp2_with (go_at_call 68; refine (sign_any _ _).mono ?_; rintro e w2 ⟨rfl, hw⟩; rw [hw])
          go_ret
          exact ⟨ret_bool HV.out.symm, HB.out⟩
        · rw [signT_no hz] at HV
          have ez : ((t.size : Int) == 1) = false := by rw [beq_eq_false_iff_ne]; omega
          clear hz
          go_enter Tryd.func11, Tryd.ntmps11
          go_wp2_with fail
          go_ret
          exact ⟨ret_bool HV.out.symm, HB.out⟩
end Go.Proofs.YtdhhbpnnahdofaaDoor
