/- Walks: the classes of bytes (packages word and gantref4). -/
import Derived.Test.YtnaiflokmihmeaaDoorChecked
import Derived.WalkKit
import Derived.ProofKit
import Derived.Below
import Derived.Lib.Strings
import Derived.Lib.Hide
namespace Go.Proofs.YtnaiflokmihmeaaDoor
open Go.RowKit
set_option linter.unusedVariables false
set_option linter.unusedSimpArgs false

def isL (n : Nat) : Bool := decide (97 ≤ n) && decide (n ≤ 122)
def isD (n : Nat) : Bool := decide (48 ≤ n) && decide (n ≤ 57)
def isB (n : Nat) : Bool := decide (n = 32) || decide (n = 10)
def isS (n : Nat) : Bool := decide (n = 123) || decide (n = 125) || decide (n = 59)
def clsN (n : Nat) : Nat := if isL n then 110 else if isD n then 100 else if isS n then 115 else if isB n then 98 else if n = 35 then 99 else if n = 47 then 47 else 120

theorem letter_any (n : Nat) (w : World) : Calls Tryd.prog 18 #[.int .u8 n] w fun e w' => e = .returned (.bool (isL n)) ∧ w' = w := by
  rcases Nat.lt_or_ge n 97 with h1 | h1
  · go_enter Tryd.func18, Tryd.ntmps18
    go_wp2
    go_ret
    have : ¬ 97 ≤ n := by omega
    simp [isL, this]
  rcases Nat.lt_or_ge 122 n with h2 | h2
  · go_enter Tryd.func18, Tryd.ntmps18
    go_wp2
    go_ret
    have h3 : ¬ n ≤ 122 := by omega
    simp [isL, h3]
    omega
  · go_enter Tryd.func18, Tryd.ntmps18
    go_wp2
    go_ret
    simp [isL, h1, h2]
    omega
theorem digit_any (n : Nat) (w : World) : Calls Tryd.prog 38 #[.int .u8 n] w fun e w' => e = .returned (.bool (isD n)) ∧ w' = w := by
  rcases Nat.lt_or_ge n 48 with h1 | h1
  · go_enter Tryd.func38, Tryd.ntmps38
    go_wp2
    go_ret
    have : ¬ 48 ≤ n := by omega
    simp [isD, this]
  rcases Nat.lt_or_ge 57 n with h2 | h2
  · go_enter Tryd.func38, Tryd.ntmps38
    go_wp2
    go_ret
    have h3 : ¬ n ≤ 57 := by omega
    simp [isD, h3]
    omega
  · go_enter Tryd.func38, Tryd.ntmps38
    go_wp2
    go_ret
    simp [isD, h1, h2]
    omega
theorem ieq (a b : Nat) : ((a : Int) == (b : Int)) = decide (a = b) := by
  by_cases h : a = b
  · subst h; simp
  · rw [decide_eq_false h, beq_eq_false_iff_ne]; omega
theorem blank_any (n : Nat) (w : World) : Calls Tryd.prog 43 #[.int .u8 n] w fun e w' => e = .returned (.bool (isB n)) ∧ w' = w := by
  have e1 : ((n : Int) == 32) = decide (n = 32) := ieq n 32
  have e2 : ((n : Int) == 10) = decide (n = 10) := ieq n 10
  cases h1 : decide (n = 32) <;> cases h2 : decide (n = 10) <;> rw [h1] at e1 <;> rw [h2] at e2
  all_goals
    have H1 := Lib.hid h1
    have H2 := Lib.hid h2
    clear h1 h2
    go_enter Tryd.func43, Tryd.ntmps43
    go_wp2
    go_ret
    unfold isB
    rw [H1.out, H2.out]
    exact ⟨rfl, rfl⟩
theorem sign_any (n : Nat) (w : World) : Calls Tryd.prog 29 #[.int .u8 n] w fun e w' => e = .returned (.bool (isS n)) ∧ w' = w := by
  have e1 : ((n : Int) == 123) = decide (n = 123) := ieq n 123
  have e2 : ((n : Int) == 125) = decide (n = 125) := ieq n 125
  have e3 : ((n : Int) == 59) = decide (n = 59) := ieq n 59
  cases h1 : decide (n = 123) <;> cases h2 : decide (n = 125) <;> cases h3 : decide (n = 59) <;> rw [h1] at e1 <;> rw [h2] at e2 <;> rw [h3] at e3
  all_goals
    have H1 := Lib.hid h1
    have H2 := Lib.hid h2
    have H3 := Lib.hid h3
    clear h1 h2 h3
    go_enter Tryd.func29, Tryd.ntmps29
    go_wp2
    go_ret
    unfold isS
    rw [H1.out, H2.out, H3.out]
    exact ⟨rfl, rfl⟩
theorem class_any (n : Nat) (w : World) : Calls Tryd.prog 26 #[.int .u8 n] w fun e w' => e = .returned (.int .u8 (clsN n)) ∧ w' = w := by
  by_cases h123 : n = 123
  · subst h123
    have HC := Lib.hid (show clsN 123 = 115 by decide)
    go_enter Tryd.func26, Tryd.ntmps26
    go_wp2
    go_ret
    exact ⟨by rw [HC.out]; rfl, rfl⟩
  by_cases h125 : n = 125
  · subst h125
    have HC := Lib.hid (show clsN 125 = 115 by decide)
    go_enter Tryd.func26, Tryd.ntmps26
    go_wp2
    go_ret
    exact ⟨by rw [HC.out]; rfl, rfl⟩
  by_cases h59 : n = 59
  · subst h59
    have HC := Lib.hid (show clsN 59 = 115 by decide)
    go_enter Tryd.func26, Tryd.ntmps26
    go_wp2
    go_ret
    exact ⟨by rw [HC.out]; rfl, rfl⟩
  by_cases h32 : n = 32
  · subst h32
    have HC := Lib.hid (show clsN 32 = 98 by decide)
    go_enter Tryd.func26, Tryd.ntmps26
    go_wp2
    go_ret
    exact ⟨by rw [HC.out]; rfl, rfl⟩
  by_cases h10 : n = 10
  · subst h10
    have HC := Lib.hid (show clsN 10 = 98 by decide)
    go_enter Tryd.func26, Tryd.ntmps26
    go_wp2
    go_ret
    exact ⟨by rw [HC.out]; rfl, rfl⟩
  by_cases h35 : n = 35
  · subst h35
    have HC := Lib.hid (show clsN 35 = 99 by decide)
    go_enter Tryd.func26, Tryd.ntmps26
    go_wp2
    go_ret
    exact ⟨by rw [HC.out]; rfl, rfl⟩
  by_cases h47 : n = 47
  · subst h47
    have HC := Lib.hid (show clsN 47 = 47 by decide)
    go_enter Tryd.func26, Tryd.ntmps26
    go_wp2
    go_ret
    exact ⟨by rw [HC.out]; rfl, rfl⟩
  have e123 : ((n : Int) == 123) = false := (ieq n 123).trans (decide_eq_false h123)
  have e125 : ((n : Int) == 125) = false := (ieq n 125).trans (decide_eq_false h125)
  have e59 : ((n : Int) == 59) = false := (ieq n 59).trans (decide_eq_false h59)
  have e32 : ((n : Int) == 32) = false := (ieq n 32).trans (decide_eq_false h32)
  have e10 : ((n : Int) == 10) = false := (ieq n 10).trans (decide_eq_false h10)
  have e35 : ((n : Int) == 35) = false := (ieq n 35).trans (decide_eq_false h35)
  have e47 : ((n : Int) == 47) = false := (ieq n 47).trans (decide_eq_false h47)
  have hS : isS n = false := by simp [isS, h123, h125, h59]
  have hB : isB n = false := by simp [isB, h32, h10]
  have hC : clsN n = if isL n then 110 else if isD n then 100 else 120 := by unfold clsN; rw [hS, hB, if_neg h35, if_neg h47]; simp
  have HC := Lib.hid hC
  clear hC hS hB h123 h125 h59 h32 h10 h35 h47
  have hr : n < 48 ∨ (48 ≤ n ∧ n ≤ 57) ∨ (57 < n ∧ n < 97) ∨ (97 ≤ n ∧ n ≤ 122) ∨ 122 < n := by omega
  rcases hr with h | ⟨h, h'⟩ | ⟨h, h'⟩ | ⟨h, h'⟩ | h
  · have HV := Lib.hid (show clsN n = 120 from by
      have a1 : isL n = false := by (simp [isL] <;> omega)
      have a2 : isD n = false := by (simp [isD] <;> omega)
      rw [HC.out, a1, a2]; rfl)
    clear HC
    go_enter Tryd.func26, Tryd.ntmps26
    go_wp2
    go_ret
    exact ⟨by rw [HV.out]; rfl, rfl⟩
  · have HV := Lib.hid (show clsN n = 100 from by
      have a1 : isL n = false := by (simp [isL] <;> omega)
      have a2 : isD n = true := by (simp [isD] <;> omega)
      rw [HC.out, a1, a2]; rfl)
    clear HC
    go_enter Tryd.func26, Tryd.ntmps26
    go_wp2
    go_ret
    exact ⟨by rw [HV.out]; rfl, rfl⟩
  · have HV := Lib.hid (show clsN n = 120 from by
      have a1 : isL n = false := by (simp [isL] <;> omega)
      have a2 : isD n = false := by (simp [isD] <;> omega)
      rw [HC.out, a1, a2]; rfl)
    clear HC
    go_enter Tryd.func26, Tryd.ntmps26
    go_wp2
    go_ret
    exact ⟨by rw [HV.out]; rfl, rfl⟩
  · have HV := Lib.hid (show clsN n = 110 from by
      have a1 : isL n = true := by (simp [isL] <;> omega)
      have a2 : isD n = false := by (simp [isD] <;> omega)
      rw [HC.out, a1, a2]; rfl)
    clear HC
    go_enter Tryd.func26, Tryd.ntmps26
    go_wp2
    go_ret
    exact ⟨by rw [HV.out]; rfl, rfl⟩
  · have HV := Lib.hid (show clsN n = 120 from by
      have a1 : isL n = false := by (simp [isL] <;> omega)
      have a2 : isD n = false := by (simp [isD] <;> omega)
      rw [HC.out, a1, a2]; rfl)
    clear HC
    go_enter Tryd.func26, Tryd.ntmps26
    go_wp2
    go_ret
    exact ⟨by rw [HV.out]; rfl, rfl⟩
end Go.Proofs.YtnaiflokmihmeaaDoor
