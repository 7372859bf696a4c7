/- Joined texts. -/
import Derived.Test.YtoejojfjiikogaaDoorRatS

/- gantmake.Below and gantmake.Rat with their values said; rat.Of, rat.Make in one spelling. -/
namespace Go.Proofs.YtoejojfjiikogaaDoor
open Go.RowKit
set_option linter.unusedVariables false
set_option linter.unusedSimpArgs false

def belowN (x : Int) (n : Nat) : Nat := (if x.tmod n < 0 then x.tmod n + n else x.tmod n).toNat
theorem belowN_lt (x : Int) {n : Nat} (hn : 0 < n) : belowN x n < n := by
  have e1 := Int.tmod_lt_of_pos x (show (0 : Int) < n by omega)
  unfold belowN
  split <;> omega
theorem below_N (x : Int) (n : Nat) (w : World) (h0 : -9223372036854775808 ≤ x) (h1 : x ≤ 9223372036854775807) (hn : 0 < n) (hn2 : n ≤ 1048576) :
    Calls Tryd.prog 91 #[.int .i64 x, .int .i64 n] w fun e w' => e = .returned (.int .i64 (belowN x n : Nat)) ∧ w = w' := by
  have e1 := Int.tmod_lt_of_pos x (show (0 : Int) < n by omega)
  have e2 : -(n : Int) < x.tmod n := by
    have := Int.lt_tmod_of_pos x (show (0 : Int) < n by omega)
    exact this
  obtain ⟨t, ht⟩ : ∃ t, t = x.tmod n := ⟨_, rfl⟩
  have ew : IntKind.i64.wrap (x.tmod (n : Int)) = t := by rw [← ht]; exact IntWalk.i64_in _ (by omega)
  have eb : belowN x n = (if t < 0 then t + n else t).toNat := by rw [ht]; rfl
  have et : x.tmod (n : Int) = t := ht.symm
  rw [et] at e1 e2
  have HT := Lib.hid (And.intro ht eb); clear ht eb
  by_cases hneg : t < 0
  · go_enter Tryd.func91, Tryd.ntmps91
    go_wp2_with fail
    go_ret
    exact ⟨by rw [HT.out.2, if_pos hneg, show (((t + n).toNat : Nat) : Int) = t + n by omega]; rfl, rfl⟩
  · go_enter Tryd.func91, Tryd.ntmps91
    go_wp2_with fail
    go_ret
    exact ⟨by rw [HT.out.2, if_neg (by omega), show ((t.toNat : Nat) : Int) = t by omega]; rfl, rfl⟩

section
variable {W : World} {l : List Own}
theorem below_q {x : Int} {n : Nat} (h0 : -9223372036854775808 ≤ x) (h1 : x ≤ 9223372036854775807) (hn : 0 < n) (hn2 : n ≤ 1048576) (w : World) (h : St W l w) :
    Calls Tryd.prog 91 #[.int .i64 x, .int .i64 n] w fun e w' => e = .returned (.int .i64 (belowN x n : Nat)) ∧ Below w.heap.size w w' :=
  (below_N x n w h0 h1 hn hn2).mono fun e w' ⟨h1, h2⟩ => ⟨h1, h2 ▸ Below.refl _ _⟩
end
end Go.Proofs.YtoejojfjiikogaaDoor
