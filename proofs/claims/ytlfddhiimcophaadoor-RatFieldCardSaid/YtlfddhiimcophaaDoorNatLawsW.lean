/- The walk of NatLaws (its middle printed by a program of mine). -/
import Derived.Test.YtlfddhiimcophaaDoorNatK
namespace Go.Proofs.YtlfddhiimcophaaDoor
open Go.RowKit
set_option linter.unusedVariables false
set_option linter.unusedSimpArgs false

/-- the string of n has at most k bytes -/
def Sz (k n : Nat) : Prop := (bstr n).length ≤ k
theorem Sz.add {k l m n : Nat} (h : Sz k m) (h' : Sz l n) : Sz (k + l + 1) (m + n) := by
  have := len_add m n; unfold Sz at *; omega
theorem Sz.mul {k l m n : Nat} (h : Sz k m) (h' : Sz l n) : Sz (k + l) (m * n) := by
  have := len_mul m n; unfold Sz at *; omega
section
variable {k l m n x : Nat} {W w : World}
theorem addK (hx : m + n = x) (h : Sz k m) (h' : Sz l n) (hk : k ≤ 35184372088832) (hl : l ≤ 35184372088832) (hw : Below W.heap.size W w) :
    Calls Tryd.prog 19 #[.string (S m), .string (S n)] w fun e w' => e = .returned (.string (S x)) ∧ Below W.heap.size W w' :=
  (add_S m n w (Nat.le_trans h hk) (Nat.le_trans h' hl)).mono fun e w' ⟨h1, h2⟩ => ⟨hx ▸ h1, below_next hw h2⟩
theorem mulK (hx : m * n = x) (h : Sz k m) (h' : Sz l n) (hk : k ≤ 35184372088832) (hl : l ≤ 35184372088832) (hw : Below W.heap.size W w) :
    Calls Tryd.prog 20 #[.string (S m), .string (S n)] w fun e w' => e = .returned (.string (S x)) ∧ Below W.heap.size W w' :=
  (mul_S m n w (Nat.le_trans h hk) (Nat.le_trans h' hl)).mono fun e w' ⟨h1, h2⟩ => ⟨hx ▸ h1, below_next hw h2⟩
theorem subK (h : Sz k m) (h' : Sz l n) (hk : k ≤ 35184372088832) (hl : l ≤ 35184372088832) (hx : m = x + n) (hw : Below W.heap.size W w) :
    Calls Tryd.prog 18 #[.string (S m), .string (S n)] w fun e w' => e = .returned (.tuple #[.string (S x), .int .i64 0]) ∧ Below W.heap.size W w' :=
  (sub_S m n w (Nat.le_trans h hk) (Nat.le_trans h' hl)).mono fun e w' ⟨h1, h2⟩ => ⟨by
    rw [h1]; unfold subS subE; rw [if_neg (by omega), if_neg (by omega), show m - n = x by omega], below_next hw h2⟩
theorem cmpK {z : Int} (h : Sz k m) (h' : Sz l n) (hk : k ≤ 35184372088832) (hl : l ≤ 35184372088832) (hz : cmpZ m n = z) (hw : Below W.heap.size W w) :
    Calls Tryd.prog 16 #[.string (S m), .string (S n)] w fun e w' => e = .returned (.int .i64 z) ∧ Below W.heap.size W w' :=
  (cmp_S m n w (by unfold Sz at h; omega) (by unfold Sz at h'; omega)).mono fun e w' ⟨h1, h2⟩ => ⟨hz ▸ h1, h2 ▸ hw⟩
theorem bareK (s : ByteArray) (hs : s.size ≤ maxLen) (hw : Below W.heap.size W w) :
    Calls Tryd.prog 13 #[.string s] w fun e w' => (∃ n, e = .returned (.string (S n)) ∧ Sz 60 n) ∧ Below W.heap.size W w' :=
  (bare_any s w hs).mono fun e w' ⟨h1, h2⟩ => ⟨h1, h2 ▸ hw⟩
end
theorem cmpZ_add (a b c : Nat) : cmpZ (a + c) (b + c) = cmpZ a b := by
  unfold cmpZ; simp only [Nat.add_lt_add_iff_right]

set_option maxHeartbeats 4000000 in
theorem natLaws_str (s1 s2 s3 : ByteArray) (w : World) (hs1 : s1.size ≤ maxLen) (hs2 : s2.size ≤ maxLen) (hs3 : s3.size ≤ maxLen) :
    Calls Tryd.prog 4 #[.string s1, .string s2, .string s3] w fun e w' => e = .returned (.bool true) ∧ Below w.heap.size w w' := by
  have h1 : Sz 1 1 := by unfold Sz; decide
  have e1 : (⟨#[1]⟩ : ByteArray) = S 1 := by decide
  have H1 := Lib.hid e1; clear e1
  have HS := Lib.hid (And.intro hs1 (And.intro hs2 hs3)); clear hs1 hs2 hs3
  go_enter Tryd.func4, Tryd.ntmps4
  go_wp2_with fail
  refine (natBegun_any _).mono ?_
  rintro e w0 ⟨rfl, hw0⟩
  have HB0 := Lib.hid hw0; clear hw0
  go_wp2_with fail
  refine (bareK s1 HS.out.1 HB0.out).mono ?_
  rintro e w0 ⟨⟨a, rfl, ha⟩, hw0⟩
  have HB1 := Lib.hid hw0; clear hw0
  go_wp2_with fail
  refine (bareK s2 HS.out.2.1 HB1.out).mono ?_
  rintro e w0 ⟨⟨b, rfl, hb⟩, hw0⟩
  have HB2 := Lib.hid hw0; clear hw0
  go_wp2_with fail
  refine (bareK s3 HS.out.2.2 HB2.out).mono ?_
  rintro e w0 ⟨⟨c, rfl, hc⟩, hw0⟩
  have HW0 := Lib.hid hw0; clear hw0
  clear HB0 HB1 HB2 HS
  go_wp2_with fail
  refine (addK (x := a + b) (rfl) ha hb (by decide) (by decide) HW0.out).mono ?_
  rintro e w1 ⟨rfl, hw1⟩
  have HW1 := Lib.hid hw1; clear hw1
  go_wp2_with fail
  refine (subK (x := a) (ha.add hb) hb (by decide) (by decide) rfl HW1.out).mono ?_
  rintro e w2 ⟨rfl, hw2⟩
  have HW2 := Lib.hid hw2; clear hw2
  go_wp2_with fail
  refine (addK (x := b + c) (rfl) hb hc (by decide) (by decide) HW2.out).mono ?_
  rintro e w3 ⟨rfl, hw3⟩
  have HW3 := Lib.hid hw3; clear hw3
  go_wp2_with fail
  refine (mulK (x := a * (b + c)) (rfl) ha (hb.add hc) (by decide) (by decide) HW3.out).mono ?_
  rintro e w4 ⟨rfl, hw4⟩
  have HW4 := Lib.hid hw4; clear hw4
  go_wp2_with fail
  refine (mulK (x := a * b) (rfl) ha hb (by decide) (by decide) HW4.out).mono ?_
  rintro e w5 ⟨rfl, hw5⟩
  have HW5 := Lib.hid hw5; clear hw5
  go_wp2_with fail
  refine (mulK (x := a * c) (rfl) ha hc (by decide) (by decide) HW5.out).mono ?_
  rintro e w6 ⟨rfl, hw6⟩
  have HW6 := Lib.hid hw6; clear hw6
  go_wp2_with fail
  refine (addK (x := a * (b + c)) ((Nat.mul_add _ _ _).symm) (ha.mul hb) (ha.mul hc) (by decide) (by decide) HW6.out).mono ?_
  rintro e w7 ⟨rfl, hw7⟩
  have HW7 := Lib.hid hw7; clear hw7
  go_wp2_with fail
  refine (addK (x := b + c) (rfl) hb hc (by decide) (by decide) HW7.out).mono ?_
  rintro e w8 ⟨rfl, hw8⟩
  have HW8 := Lib.hid hw8; clear hw8
  go_wp2_with fail
  refine (addK (x := a + (b + c)) (rfl) ha (hb.add hc) (by decide) (by decide) HW8.out).mono ?_
  rintro e w9 ⟨rfl, hw9⟩
  have HW9 := Lib.hid hw9; clear hw9
  go_wp2_with fail
  refine (addK (x := a + b) (rfl) ha hb (by decide) (by decide) HW9.out).mono ?_
  rintro e w10 ⟨rfl, hw10⟩
  have HW10 := Lib.hid hw10; clear hw10
  go_wp2_with fail
  refine (addK (x := a + (b + c)) (Nat.add_assoc _ _ _) (ha.add hb) hc (by decide) (by decide) HW10.out).mono ?_
  rintro e w11 ⟨rfl, hw11⟩
  have HW11 := Lib.hid hw11; clear hw11
  go_wp2_with fail
  refine (mulK (x := b * c) (rfl) hb hc (by decide) (by decide) HW11.out).mono ?_
  rintro e w12 ⟨rfl, hw12⟩
  have HW12 := Lib.hid hw12; clear hw12
  go_wp2_with fail
  refine (mulK (x := a * (b * c)) (rfl) ha (hb.mul hc) (by decide) (by decide) HW12.out).mono ?_
  rintro e w13 ⟨rfl, hw13⟩
  have HW13 := Lib.hid hw13; clear hw13
  go_wp2_with fail
  refine (mulK (x := a * b) (rfl) ha hb (by decide) (by decide) HW13.out).mono ?_
  rintro e w14 ⟨rfl, hw14⟩
  have HW14 := Lib.hid hw14; clear hw14
  go_wp2_with fail
  refine (mulK (x := a * (b * c)) (Nat.mul_assoc _ _ _) (ha.mul hb) hc (by decide) (by decide) HW14.out).mono ?_
  rintro e w15 ⟨rfl, hw15⟩
  have HW15 := Lib.hid hw15; clear hw15
  go_wp2_with fail
  refine (addK (x := a + b) (rfl) ha hb (by decide) (by decide) HW15.out).mono ?_
  rintro e w16 ⟨rfl, hw16⟩
  have HW16 := Lib.hid hw16; clear hw16
  go_wp2_with fail
  refine (addK (x := a + b) (Nat.add_comm _ _) hb ha (by decide) (by decide) HW16.out).mono ?_
  rintro e w17 ⟨rfl, hw17⟩
  have HW17 := Lib.hid hw17; clear hw17
  go_wp2_with fail
  refine (mulK (x := a * b) (rfl) ha hb (by decide) (by decide) HW17.out).mono ?_
  rintro e w18 ⟨rfl, hw18⟩
  have HW18 := Lib.hid hw18; clear hw18
  go_wp2_with fail
  refine (mulK (x := a * b) (Nat.mul_comm _ _) hb ha (by decide) (by decide) HW18.out).mono ?_
  rintro e w19 ⟨rfl, hw19⟩
  have HW19 := Lib.hid hw19; clear hw19
  go_wp2_with fail
  rw [H1.out]
  refine (mulK (x := a) (Nat.mul_one a) ha h1 (by decide) (by decide) HW19.out).mono ?_
  rintro e w20 ⟨rfl, hw20⟩
  have HW20 := Lib.hid hw20; clear hw20
  go_wp2_with fail
  refine (cmpK (z := cmpZ a b) ha hb (by decide) (by decide) rfl HW20.out).mono ?_
  rintro e w21 ⟨rfl, hw21⟩
  have HW21 := Lib.hid hw21; clear hw21
  go_wp2_with fail
  refine (addK (x := a + c) (rfl) ha hc (by decide) (by decide) HW21.out).mono ?_
  rintro e w22 ⟨rfl, hw22⟩
  have HW22 := Lib.hid hw22; clear hw22
  go_wp2_with fail
  refine (addK (x := b + c) (rfl) hb hc (by decide) (by decide) HW22.out).mono ?_
  rintro e w23 ⟨rfl, hw23⟩
  have HW23 := Lib.hid hw23; clear hw23
  go_wp2_with fail
  refine (cmpK (z := cmpZ a b) (ha.add hc) (hb.add hc) (by decide) (by decide) (cmpZ_add a b c) HW23.out).mono ?_
  rintro e w24 ⟨rfl, hw24⟩
  have HW24 := Lib.hid hw24; clear hw24
  go_wp2_with fail
  go_ret
  exact ⟨rfl, HW24.out⟩

end Go.Proofs.YtlfddhiimcophaaDoor
