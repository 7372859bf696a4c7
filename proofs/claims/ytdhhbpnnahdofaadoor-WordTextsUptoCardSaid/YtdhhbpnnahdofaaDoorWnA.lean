/- Walks: the classes of bytes (packages word and gantref4). -/
import Derived.Test.YtdhhbpnnahdofaaDoorChecked
import Derived.WalkKit
import Derived.ProofKit
import Derived.Below
import Derived.Lib.Strings
import Derived.Lib.Hide

namespace Go.Proofs.YtdhhbpnnahdofaaDoor
open Go.RowKit
set_option linter.unusedVariables false
set_option linter.unusedSimpArgs false

def isL (n : Nat) : Bool := decide (97 ≤ n) && decide (n ≤ 122)
def isD (n : Nat) : Bool := decide (48 ≤ n) && decide (n ≤ 57)
def isB (n : Nat) : Bool := decide (n = 32) || decide (n = 10)
def isS (n : Nat) : Bool := decide (n = 123) || decide (n = 125) || decide (n = 59)
def clsN (n : Nat) : Nat := if isL n then 110 else if isD n then 100 else if isS n then 115 else if isB n then 98 else if n = 35 then 99 else if n = 47 then 47 else 120

theorem letter_any (n : Nat) (w : World) : Calls Tryd.prog 126 #[.int .u8 n] w fun e w' => e = .returned (.bool (isL n)) ∧ w' = w := by
  rcases Nat.lt_or_ge n 97 with h1 | h1
  · go_enter Tryd.func126, Tryd.ntmps126
    go_wp2
    go_ret
    have : ¬ 97 ≤ n := by omega
    simp [isL, this]
  rcases Nat.lt_or_ge 122 n with h2 | h2
  · go_enter Tryd.func126, Tryd.ntmps126
    go_wp2
    go_ret
    have h3 : ¬ n ≤ 122 := by omega
    simp [isL, h3]
    omega
  · go_enter Tryd.func126, Tryd.ntmps126
    go_wp2
    go_ret
    simp [isL, h1, h2]
    omega
theorem digit_any (n : Nat) (w : World) : Calls Tryd.prog 176 #[.int .u8 n] w fun e w' => e = .returned (.bool (isD n)) ∧ w' = w := by
  rcases Nat.lt_or_ge n 48 with h1 | h1
  · go_enter Tryd.func176, Tryd.ntmps176
    go_wp2
    go_ret
    have : ¬ 48 ≤ n := by omega
    simp [isD, this]
  rcases Nat.lt_or_ge 57 n with h2 | h2
  · go_enter Tryd.func176, Tryd.ntmps176
    go_wp2
    go_ret
    have h3 : ¬ n ≤ 57 := by omega
    simp [isD, h3]
    omega
  · go_enter Tryd.func176, Tryd.ntmps176
    go_wp2
    go_ret
    simp [isD, h1, h2]
    omega
theorem ieq (a b : Nat) : ((a : Int) == (b : Int)) = decide (a = b) := by
  by_cases h : a = b
  · subst h; simp
  · rw [decide_eq_false h, beq_eq_false_iff_ne]; omega
theorem blank_any (n : Nat) (w : World) : Calls Tryd.prog 177 #[.int .u8 n] w fun e w' => e = .returned (.bool (isB n)) ∧ w' = w := by
  have e1 : ((n : Int) == 32) = decide (n = 32) := ieq n 32
  have e2 : ((n : Int) == 10) = decide (n = 10) := ieq n 10
  cases h1 : decide (n = 32) <;> cases h2 : decide (n = 10) <;> rw [h1] at e1 <;> rw [h2] at e2
  all_goals
    have H1 := Lib.hid h1
    have H2 := Lib.hid h2
    clear h1 h2
    go_enter Tryd.func177, Tryd.ntmps177
    go_wp2
    go_ret
    unfold isB
    rw [H1.out, H2.out]
    exact ⟨rfl, rfl⟩
theorem sign_any (n : Nat) (w : World) : Calls Tryd.prog 68 #[.int .u8 n] w fun e w' => e = .returned (.bool (isS n)) ∧ w' = w := by
  have e1 : ((n : Int) == 123) = decide (n = 123) := ieq n 123
  have e2 : ((n : Int) == 125) = decide (n = 125) := ieq n 125
  have e3 : ((n : Int) == 59) = decide (n = 59) := ieq n 59
  cases h1 : decide (n = 123) <;> cases h2 : decide (n = 125) <;> cases h3 : decide (n = 59) <;> rw [h1] at e1 <;> rw [h2] at e2 <;> rw [h3] at e3
  all_goals
    have H1 := Lib.hid h1
    have H2 := Lib.hid h2
    have H3 := Lib.hid h3
    clear h1 h2 h3
    go_enter Tryd.func68, Tryd.ntmps68
    go_wp2
    go_ret
    unfold isS
    rw [H1.out, H2.out, H3.out]
    exact ⟨rfl, rfl⟩
end Go.Proofs.YtdhhbpnnahdofaaDoor
