/- Joined texts. -/
import Derived.Test.YtlfddhiimcophaaDoorBunNatA
import Derived.Test.YtlfddhiimcophaaDoorNatY

/- The walk of NatDivides. -/
namespace Go.Proofs.YtlfddhiimcophaaDoor
open Go.RowKit
set_option linter.unusedVariables false
set_option linter.unusedSimpArgs false

theorem divK {k l m n q r : Nat} {W w : World} (hq : m / n = q) (hr : m % n = r) (h0 : n ≠ 0) (h : Sz k m) (h' : Sz l n) (hk : k ≤ 35184372088832) (hl : l ≤ 35184372088832) (hw : Below W.heap.size W w) :
    Calls Tryd.prog 21 #[.string (S m), .string (S n)] w fun e w' => e = .returned (.tuple #[.string (S q), .string (S r), .int .i64 0]) ∧ Below W.heap.size W w' :=
  (div_S m n w h0 (Nat.le_trans h hk) (Nat.le_trans h' hl)).mono fun e w' ⟨h1, h2⟩ => ⟨by rw [← hq, ← hr]; exact h1, below_next hw h2⟩
theorem Sz.le {k m n : Nat} (h : Sz k m) (hn : n ≤ m) : Sz k n := Nat.le_trans (len_le_of_le hn) h
theorem Sz.more {k l m : Nat} (h : Sz k m) (hk : k ≤ l) : Sz l m := Nat.le_trans h hk

set_option maxHeartbeats 4000000 in
theorem natDivides_str (s1 s2 : ByteArray) (w : World) (hs1 : s1.size ≤ maxLen) (hs2 : s2.size ≤ maxLen) :
    Calls Tryd.prog 5 #[.string s1, .string s2] w fun e w' => e = .returned (.bool true) ∧ Below w.heap.size w w' := by
  have HS := Lib.hid (And.intro hs1 hs2); clear hs1 hs2
  go_enter Tryd.func5, Tryd.ntmps5
  go_wp2_with fail
  refine (natBegun_any _).mono ?_
  rintro e w0 ⟨rfl, hw0⟩
  have HB0 := Lib.hid hw0; clear hw0
  go_wp2_with fail
  refine (bareK s1 HS.out.1 HB0.out).mono ?_
  rintro e w0 ⟨⟨a, rfl, ha⟩, hw0⟩
  have HB1 := Lib.hid hw0; clear hw0
  go_wp2_with fail
  refine (bareK s2 HS.out.2 HB1.out).mono ?_
  rintro e w0 ⟨⟨b, rfl, hb⟩, hw0⟩
  have HW0 := Lib.hid hw0; clear hw0
  clear HB0 HB1 HS
  by_cases h0 : b = 0
  · subst h0
    have he : (S 0).toList.isEmpty = true := by rw [S_list]; rfl
    go_wp2_with fail
    refine (div_zero a _ (Nat.le_trans ha (by decide))).mono ?_
    rintro e w1 ⟨rfl, rfl⟩
    go_wp2_with fail
    go_ret
    exact ⟨rfl, HW0.out⟩
  · have he := S_empty_of h0
    have hz : (S 0).toList.isEmpty = true := by rw [S_list]; rfl
    have HZ := Lib.hid hz; clear hz
    go_wp2_with fail
    refine (divK rfl rfl h0 ha hb (by decide) (by decide) HW0.out).mono ?_
    rintro e w1 ⟨rfl, hw1⟩
    have HW1 := Lib.hid hw1; clear hw1
    go_wp2_with fail
    refine (mulK (x := a * b) (rfl) ha hb (by decide) (by decide) HW1.out).mono ?_
    rintro e w2 ⟨rfl, hw2⟩
    have HW2 := Lib.hid hw2; clear hw2
    go_wp2_with fail
    refine (divK (q := a) (r := 0) (Nat.mul_div_cancel _ (Nat.pos_of_ne_zero h0)) (Nat.mul_mod_left _ _) h0 (ha.mul hb) hb (by decide) (by decide) HW2.out).mono ?_
    rintro e w3 ⟨rfl, hw3⟩
    have HW3 := Lib.hid hw3; clear hw3
    go_wp2_with fail
    refine (mulK (x := a / b * b) (rfl) (ha.le (Nat.div_le_self _ _)) hb (by decide) (by decide) HW3.out).mono ?_
    rintro e w4 ⟨rfl, hw4⟩
    have HW4 := Lib.hid hw4; clear hw4
    go_wp2_with fail
    refine (addK (x := a) (by rw [Nat.mul_comm]; exact Nat.div_add_mod a b) ((ha.le (Nat.div_le_self _ _)).mul hb) (ha.le (Nat.mod_le _ _)) (by decide) (by decide) HW4.out).mono ?_
    rintro e w5 ⟨rfl, hw5⟩
    have HW5 := Lib.hid hw5; clear hw5
    go_wp2_with fail
    refine (cmpK (z := -1) (ha.le (Nat.mod_le _ _)) hb (by decide) (by decide) (by unfold cmpZ; rw [if_pos (Nat.mod_lt _ (Nat.pos_of_ne_zero h0))]) HW5.out).mono ?_
    rintro e w6 ⟨rfl, hw6⟩
    have HW6 := Lib.hid hw6; clear hw6
    go_wp2_with fail
    go_ret
    exact ⟨by rw [HZ.out]; rfl, HW6.out⟩
end Go.Proofs.YtlfddhiimcophaaDoor
