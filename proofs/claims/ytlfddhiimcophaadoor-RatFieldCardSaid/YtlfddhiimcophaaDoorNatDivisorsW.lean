/- The walk of NatDivisors. -/
import Derived.Test.YtlfddhiimcophaaDoorNatDividesW
import Derived.Test.YtlfddhiimcophaaDoorNatLi
namespace Go.Proofs.YtlfddhiimcophaaDoor
open Go.RowKit
set_option linter.unusedVariables false
set_option linter.unusedSimpArgs false

theorem gcdK {k l m n g : Nat} {W w : World} (hg : Nat.gcd m n = g) (hT : Hid (Tab W)) (h : Sz k m) (h' : Sz l n) (hk : k ≤ 35184372088832) (hl : l ≤ 35184372088832) (hw : Below W.heap.size W w) :
    Calls Tryd.prog 41 #[.string (S m), .string (S n)] w fun e w' => e = .returned (.string (S g)) ∧ Below W.heap.size W w' :=
  (gcd_S m n w (Nat.le_trans h hk) (Nat.le_trans h' hl) (hT.out.next hw)).mono fun e w' ⟨h1, h2⟩ => ⟨hg ▸ h1, below_next hw h2⟩
theorem gcd_parts {a b : Nat} (ha : a ≠ 0) : Nat.gcd (a / Nat.gcd a b) (b / Nat.gcd a b) = 1 := by
  have hp : 0 < Nat.gcd a b := Nat.gcd_pos_of_pos_left _ (Nat.pos_of_ne_zero ha)
  rw [Nat.gcd_div (Nat.gcd_dvd_left _ _) (Nat.gcd_dvd_right _ _)]
  exact Nat.div_self hp

set_option maxHeartbeats 4000000 in
theorem natDivisors_str (s1 s2 s3 : ByteArray) (w : World) (hs1 : s1.size ≤ maxLen) (hs2 : s2.size ≤ maxLen) (hs3 : s3.size ≤ maxLen) (hT : Tab w) :
    Calls Tryd.prog 9 #[.string s1, .string s2, .string s3] w fun e w' => e = .returned (.bool true) ∧ Below w.heap.size w w' := by
  have HS := Lib.hid (And.intro hs1 (And.intro hs2 hs3)); clear hs1 hs2 hs3
  have HT := Lib.hid hT; clear hT
  go_enter Tryd.func9, Tryd.ntmps9
  go_wp2_with fail
  refine (natBegun_any _).mono ?_
  rintro e w0 ⟨rfl, hw0⟩
  have HB0 := Lib.hid hw0; clear hw0
  go_wp2_with fail
  refine (bareK s1 HS.out.1 HB0.out).mono ?_
  rintro e w0 ⟨⟨a, rfl, ha⟩, hw0⟩
  have HB1 := Lib.hid hw0; clear hw0
  go_wp2_with fail
  refine (bareK s2 HS.out.2.1 HB1.out).mono ?_
  rintro e w0 ⟨⟨b, rfl, hb⟩, hw0⟩
  have HB2 := Lib.hid hw0; clear hw0
  go_wp2_with fail
  refine (bareK s3 HS.out.2.2 HB2.out).mono ?_
  rintro e w0 ⟨⟨k, rfl, hk⟩, hw0⟩
  have HW0 := Lib.hid hw0; clear hw0
  clear HB0 HB1 HB2 HS
  by_cases h0 : a = 0
  · subst h0
    have he : (S 0).toList.isEmpty = true := by rw [S_list]; rfl
    go_wp2_with fail
    refine (gcdK (g := b) (Nat.gcd_zero_left b) HT ha hb (by decide) (by decide) HW0.out).mono ?_
    rintro e w1 ⟨rfl, hw1⟩
    have HW1 := Lib.hid hw1; clear hw1
    go_wp2_with fail
    refine (addK (x := b) (Nat.zero_add b) ha hb (by decide) (by decide) HW1.out).mono ?_
    rintro e w2 ⟨rfl, hw2⟩
    have HW2 := Lib.hid hw2; clear hw2
    go_wp2_with fail
    go_ret
    exact ⟨rfl, HW2.out⟩
  · by_cases h1 : b = 0
    · subst h1
      have he : (S 0).toList.isEmpty = true := by rw [S_list]; rfl
      have he1 := S_empty_of h0
      go_wp2_with fail
      refine (gcdK (g := a) (Nat.gcd_zero_right a) HT ha hb (by decide) (by decide) HW0.out).mono ?_
      rintro e w1 ⟨rfl, hw1⟩
      have HW1 := Lib.hid hw1; clear hw1
      go_wp2_with fail
      refine (addK (x := a) (Nat.add_zero a) ha hb (by decide) (by decide) HW1.out).mono ?_
      rintro e w2 ⟨rfl, hw2⟩
      have HW2 := Lib.hid hw2; clear hw2
      go_wp2_with fail
      go_ret
      exact ⟨rfl, HW2.out⟩
    · have he0 := S_empty_of h0
      have he1 := S_empty_of h1
      have hs1 : (S 1).toList = [1] := by rw [S_list]; decide
      have hz : (S 0).toList.isEmpty = true := by rw [S_list]; rfl
      have hgp : Nat.gcd a b ≠ 0 := Nat.ne_of_gt (Nat.gcd_pos_of_pos_left _ (Nat.pos_of_ne_zero h0))
      have hga : Sz 60 (Nat.gcd a b) := ha.le (gcd_le' (Nat.pos_of_ne_zero h0))
      go_wp2_with fail
      refine (gcdK (g := Nat.gcd a b) rfl HT ha hb (by decide) (by decide) HW0.out).mono ?_
      rintro e w1 ⟨rfl, hw1⟩
      have HW1 := Lib.hid hw1; clear hw1
      go_wp2_with fail
      refine (divK (q := a / Nat.gcd a b) (r := 0) rfl (Nat.mod_eq_zero_of_dvd (Nat.gcd_dvd_left a b)) hgp ha hga (by decide) (by decide) HW1.out).mono ?_
      rintro e w2 ⟨rfl, hw2⟩
      have HW2 := Lib.hid hw2; clear hw2
      go_wp2_with fail
      refine (divK (q := b / Nat.gcd a b) (r := 0) rfl (Nat.mod_eq_zero_of_dvd (Nat.gcd_dvd_right a b)) hgp hb hga (by decide) (by decide) HW2.out).mono ?_
      rintro e w3 ⟨rfl, hw3⟩
      have HW3 := Lib.hid hw3; clear hw3
      go_wp2_with fail
      refine (gcdK (g := 1) (gcd_parts h0) HT (ha.le (Nat.div_le_self _ _)) (hb.le (Nat.div_le_self _ _)) (by decide) (by decide) HW3.out).mono ?_
      rintro e w4 ⟨rfl, hw4⟩
      have HW4 := Lib.hid hw4; clear hw4
      go_wp2_with fail
      refine (gcdK (g := Nat.gcd a b) (Nat.gcd_comm b a) HT hb ha (by decide) (by decide) HW4.out).mono ?_
      rintro e w5 ⟨rfl, hw5⟩
      have HW5 := Lib.hid hw5; clear hw5
      go_wp2_with fail
      refine (mulK (x := a * k) (rfl) ha hk (by decide) (by decide) HW5.out).mono ?_
      rintro e w6 ⟨rfl, hw6⟩
      have HW6 := Lib.hid hw6; clear hw6
      go_wp2_with fail
      refine (mulK (x := b * k) (rfl) hb hk (by decide) (by decide) HW6.out).mono ?_
      rintro e w7 ⟨rfl, hw7⟩
      have HW7 := Lib.hid hw7; clear hw7
      go_wp2_with fail
      refine (gcdK (g := Nat.gcd a b * k) (Nat.gcd_mul_right a k b) HT (ha.mul hk) (hb.mul hk) (by decide) (by decide) HW7.out).mono ?_
      rintro e w8 ⟨rfl, hw8⟩
      have HW8 := Lib.hid hw8; clear hw8
      go_wp2_with fail
      refine (mulK (x := Nat.gcd a b * k) (rfl) hga hk (by decide) (by decide) HW8.out).mono ?_
      rintro e w9 ⟨rfl, hw9⟩
      have HW9 := Lib.hid hw9; clear hw9
      go_wp2_with fail
      go_ret
      exact ⟨rfl, HW9.out⟩
end Go.Proofs.YtlfddhiimcophaaDoor
