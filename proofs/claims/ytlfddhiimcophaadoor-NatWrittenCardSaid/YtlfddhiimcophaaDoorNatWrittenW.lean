/- The walk of NatWritten over strings. -/
import Derived.Test.YtlfddhiimcophaaDoorNatN
import Derived.Test.YtlfddhiimcophaaDoorNatLawsW
namespace Go.Proofs.YtlfddhiimcophaaDoor
open Go.RowKit
set_option linter.unusedVariables false
set_option linter.unusedSimpArgs false

section
variable {k l m n x : Nat} {W w : World}
theorem textK (h : Sz k m) (hk : k ≤ 35184372088832) (hw : Below W.heap.size W w) :
    Calls Tryd.prog 14 #[.string (S m)] w fun e w' => e = .returned (.string (T m)) ∧ Below W.heap.size W w' :=
  (Text_S m w (Nat.le_trans h hk)).mono fun e w' ⟨h1, h2⟩ => ⟨h1, below_next hw h2⟩
theorem readK (s : ByteArray) (hs : s.size ≤ maxLen) {v : Value} (hv : readV (toL s) = v) (hw : Below W.heap.size W w) :
    Calls Tryd.prog 15 #[.string s] w fun e w' => e = .returned v ∧ Below W.heap.size W w' :=
  (Read_any s w hs).mono fun e w' ⟨h1, h2⟩ => ⟨hv ▸ h1, below_next hw h2⟩
theorem compareK (a b : ByteArray) {z : Int} (hz : Lib.compareBytes (toL a) (toL b) = z) (hw : Below W.heap.size W w) :
    Calls Tryd.prog 17 #[.string a, .string b] w fun e w' => e = .returned (.int .i64 z) ∧ Below W.heap.size W w' :=
  (compare_any a b w).mono fun e w' ⟨h1, h2⟩ => ⟨hz ▸ h1, h2 ▸ hw⟩
end

theorem T_size {n : Nat} (h : (bstr n).length ≤ 60) : (T n).size ≤ 180 := by
  show (txt n).length ≤ 180
  have := dig_small h
  unfold txt
  split
  · simp
  · rw [List.length_reverse]; omega

set_option maxRecDepth 20000 in
set_option maxHeartbeats 2000000 in
theorem natWritten_str (s1 s2 : ByteArray) (w : World) (hs1 : s1.size ≤ maxLen) (hs2 : s2.size ≤ maxLen) :
    Calls Tryd.prog 3 #[.string s1, .string s2] w fun e w' => e = .returned (.bool true) ∧ Below w.heap.size w w' := by
  have HS := Lib.hid (And.intro hs1 hs2); clear hs1 hs2
  go_enter Tryd.func3, Tryd.ntmps3
  go_wp2_with fail
  refine (natBegun_any _).mono ?_
  rintro e w0 ⟨rfl, hw0⟩
  have HB0 := Lib.hid hw0; clear hw0
  go_wp2_with fail
  refine (bareK s1 HS.out.1 HB0.out).mono ?_
  rintro e w0 ⟨⟨a, rfl, ha⟩, hw0⟩
  have HB1 := Lib.hid hw0; clear hw0
  go_wp2_with fail
  refine (bareK s2 HS.out.2 HB1.out).mono ?_
  rintro e w0 ⟨⟨b, rfl, hb⟩, hw0⟩
  have HB2 := Lib.hid hw0; clear hw0
  go_wp2_with fail
  refine (textK ha (by decide) HB2.out).mono ?_
  rintro e w0 ⟨rfl, hw0⟩
  have HB3 := Lib.hid hw0; clear hw0
  go_wp2_with fail
  refine (textK hb (by decide) HB3.out).mono ?_
  rintro e w0 ⟨rfl, hw0⟩
  have HB4 := Lib.hid hw0; clear hw0
  have hta := T_size ha
  have htb := T_size hb
  have hra := txt_read ha
  have HRA := Lib.hid (show readV (toL (T a)) = .tuple #[.string (S a), .int .i64 0] by
    have e1 : toL (T a) = txt a := rfl
    unfold readV; rw [e1, hra.1, hra.2])
  have HRZ := Lib.hid (txt_zero_read ha)
  have HTA := Lib.hid (And.intro hta htb)
  obtain ⟨sa, hsa⟩ : ∃ sa, sa = T a := ⟨_, rfl⟩
  obtain ⟨sb, hsb⟩ : ∃ sb, sb = T b := ⟨_, rfl⟩
  rw [← hsa] at hta
  rw [← hsb] at htb
  rw [← hsa, ← hsb]
  have HSA := Lib.hid (And.intro hsa hsb); clear hsa hsb hra
  go_wp2_with fail
  refine (readK (v := .tuple #[.string (S a), .int .i64 0]) sa (by unfold maxLen; omega) (by rw [HSA.out.1]; exact HRA.out) HB4.out).mono ?_
  rintro e w0 ⟨rfl, hw0⟩
  have HB5 := Lib.hid hw0; clear hw0
  go_wp2_with fail
  have hz : readV (toL ((⟨#[48]⟩ : ByteArray) ++ sa)) = .tuple #[.string (S 0), .int .i64 15] := by
    have e1 : toL ((⟨#[48]⟩ : ByteArray) ++ sa) = 48 :: txt a := by
      rw [HSA.out.1]
      have : toL (T a) = txt a := rfl
      simp [toL, T]
    unfold readV readS
    rw [e1, HRZ.out]; rfl
  have hzs : ((⟨#[48]⟩ : ByteArray) ++ sa).size ≤ maxLen := by
    rw [ByteArray.size_append]; unfold maxLen; show 1 + _ ≤ _; omega
  refine (readK (v := .tuple #[.string (S 0), .int .i64 15]) _ hzs hz HB5.out).mono ?_
  rintro e w0 ⟨rfl, hw0⟩
  have HB6 := Lib.hid hw0; clear hw0 hz hzs
  have hsz : sa.size = (txt a).length ∧ sb.size = (txt b).length := by rw [HSA.out.1, HSA.out.2]; exact ⟨rfl, rfl⟩
  have HSZ := Lib.hid hsz; clear hsz
  have HTT : Hid (toL sa = txt a ∧ toL sb = txt b) := by rw [HSA.out.1, HSA.out.2]; exact ⟨rfl, rfl⟩
  rcases Nat.lt_trichotomy sa.size sb.size with hlt | heq | hgt
  · have q1 : (sa.size : Int) ≤ (sb.size : Int) := by omega
    have q2 : ¬ (sa.size : Int) = (sb.size : Int) := by omega
    clear hlt
    go_wp2_with fail
    go_ret
    exact ⟨rfl, HB6.out⟩
  · have q1 : (sa.size : Int) = (sb.size : Int) := by omega
    go_wp2_with fail
    refine (compareK sa sb (z := cmpZ a b) (by rw [HTT.out.1, HTT.out.2]; exact cmp_txt (by rw [← HSZ.out.1, ← HSZ.out.2]; exact heq)) HB6.out).mono ?_
    rintro e w0 ⟨rfl, hw0⟩
    have HB7 := Lib.hid hw0; clear hw0
    go_wp2_with fail
    refine (cmpK (z := cmpZ a b) ha hb (by decide) (by decide) rfl HB7.out).mono ?_
    rintro e w0 ⟨rfl, hw0⟩
    have HB8 := Lib.hid hw0; clear hw0
    go_wp2_with fail
    go_ret
    exact ⟨rfl, HB8.out⟩
  · have q1 : ¬ (sa.size : Int) ≤ (sb.size : Int) := by omega
    have q2 : ¬ (sa.size : Int) = (sb.size : Int) := by omega
    have hba : b < a := txt_len (by rw [← HSZ.out.1, ← HSZ.out.2]; exact hgt)
    have hc : cmpZ a b = 1 := by unfold cmpZ; rw [if_neg (by omega), if_pos hba]
    have HC := Lib.hid hc; clear hc hgt hba
    go_wp2_with fail
    refine (cmpK (z := 1) ha hb (by decide) (by decide) HC.out HB6.out).mono ?_
    rintro e w0 ⟨rfl, hw0⟩
    have HB7 := Lib.hid hw0; clear hw0
    go_wp2_with fail
    go_ret
    exact ⟨rfl, HB7.out⟩
end Go.Proofs.YtlfddhiimcophaaDoor
