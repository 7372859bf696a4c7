/- Cells: two cells in variables; their order (package grid). -/
import Derived.Test.YtoejojfjiikogaaDoorChecked
import Derived.Test.YtoejojfjiikogaaDoorInts
import Derived.Deep.LoopGhost
import Derived.Deep.QuietTactic
import Derived.BigQuiet
import Derived.WalkSpells
import Derived.ChangeKeysEq
import Derived.Lib.SlicesCompact
import Derived.Shelf.SlSortCmp.WholeK

namespace Go.Proofs.YtoejojfjiikogaaDoor
open Go.RowKit
set_option linter.unusedVariables false
set_option linter.unusedSimpArgs false

structure Ft where
  x : Int
  y : Int
deriving DecidableEq
instance : Inhabited Ft := ⟨⟨0, 0⟩⟩
def valF (f : Ft) : Value := .agg #[.int .i64 f.x, .int .i64 f.y]
def valG (s : Ft) : List Value := [.int .i64 s.x, .int .i64 s.y]
def cmpI (x y : Int) : Int := if x < y then -1 else if y < x then 1 else 0
theorem isnan_any (x : Int) (w : World) : Calls Tryd.prog 124 #[.int .i64 x] w fun e w' => e = .returned (.bool false) ∧ w' = w := by
  go_enter Tryd.func124, Tryd.ntmps124
  go_wp2_with fail
  go_ret
  exact ⟨by simp, rfl⟩
theorem cmpI_any (x y : Int) (w : World) : Calls Tryd.prog 99 #[.int .i64 x, .int .i64 y] w fun e w' => e = .returned (.int .i64 (cmpI x y)) ∧ w' = w := by
  by_cases h1 : x < y
  · have HV := Lib.hid (show cmpI x y = -1 by simp [cmpI, h1])
    go_enter Tryd.func99, Tryd.ntmps99
    go_wp2_with (first | (go_at_call 124; refine (isnan_any _ _).mono ?_; rintro e w' ⟨rfl, rfl⟩) | fail)
    go_ret
    exact ⟨by rw [HV.out]; rfl, rfl⟩
  · by_cases h2 : y < x
    · have HV := Lib.hid (show cmpI x y = 1 by simp [cmpI, h1, h2])
      have h1' : y ≤ x := by omega
      go_enter Tryd.func99, Tryd.ntmps99
      go_wp2_with (first | (go_at_call 124; refine (isnan_any _ _).mono ?_; rintro e w' ⟨rfl, rfl⟩) | fail)
      go_ret
      exact ⟨by rw [HV.out]; rfl, rfl⟩
    · obtain rfl : x = y := by omega
      have HV := Lib.hid (show cmpI x x = 0 by simp [cmpI])
      clear h1 h2
      go_enter Tryd.func99, Tryd.ntmps99
      go_wp2_with (first | (go_at_call 124; refine (isnan_any _ _).mono ?_; rintro e w' ⟨rfl, rfl⟩) | fail)
      go_ret
      exact ⟨by rw [HV.out]; rfl, rfl⟩
def cmpF (f g : Ft) : Int := if cmpI f.y g.y ≠ 0 then cmpI f.y g.y else cmpI f.x g.x

/-! ### == of two cells -/
theorem stoodF (w : World) : Tryd.prog.stoodInHeld 60 = false := by kernel_rfl
theorem eqI0 (x y : Int) (w : World) : (Op.equalIn 9999 3 (.int .i64 x) (.int .i64 y)).run Tryd.prog w = .ok (x == y) w := by kernel_rfl
theorem partF0 (x y : Int) (w : World) : (part 3 #[.int .i64 x, .int .i64 y] 0).run Tryd.prog w = .ok (.int .i64 x) w := by kernel_rfl
theorem partF1 (x y : Int) (w : World) : (part 3 #[.int .i64 x, .int .i64 y] 1).run Tryd.prog w = .ok (.int .i64 y) w := by kernel_rfl
/-- == of two cells -/
theorem equal_ft2 (x y p q : Int) {b : Bool} (hb : decide ((⟨x, y⟩ : Ft) = ⟨p, q⟩) = b) (w : World) : (Op.equalIn 10000 60 (.agg #[.int .i64 x, .int .i64 y]) (.agg #[.int .i64 p, .int .i64 q])).run Tryd.prog w = .ok b w := by
  have e : b = (x == p && y == q) := by rw [← hb, Bool.eq_iff_iff]; simp
  rw [e, Op.equalIn]
  simp only [Sem.run_bind, run_underlying Tryd.underlying60, Result.andThen_ok]
  cases hx : x == p <;> cases hy : y == q <;> simp [partF0, partF1, eqI0, hx, hy, stoodF]
theorem equal_ft (x y p q : Int) {b : Bool} (hb : decide ((⟨x, y⟩ : Ft) = ⟨p, q⟩) = b) (w : World) : (Op.equal 60 (.agg #[.int .i64 x, .int .i64 y]) (.agg #[.int .i64 p, .int .i64 q])).run Tryd.prog w = .ok b w := equal_ft2 x y p q hb w

/-! ### grid.order -/
set_option maxHeartbeats 2000000 in
set_option maxRecDepth 20000 in
theorem cmpF_grow (f g : Ft) (w : World) : Calls Tryd.prog 60 #[valF f, valF g] w fun e w' => e = .returned (.int .i64 (cmpF f g)) ∧ ∃ q os, w' = Go.Sort.grow (w.drewN q) os := by
  obtain ⟨a, b⟩ := f
  obtain ⟨aa, bb⟩ := g
  show Calls Tryd.prog 60 #[.agg #[.int .i64 a, .int .i64 b], .agg #[.int .i64 aa, .int .i64 bb]] w fun e w' => e = .returned (.int .i64 (cmpF ⟨a, b⟩ ⟨aa, bb⟩)) ∧ ∃ q os, w' = Go.Sort.grow (w.drewN q) os
  have HC := Lib.hid (fun W => cmpI_any b bb W)
  have HD := Lib.hid (fun W => cmpI_any a aa W)
  have hgr : Go.Sort.grow (w.drewN 0) #[.cells #[.int .i64 a, .int .i64 b] 60, .cells #[.int .i64 aa, .int .i64 bb] 60] = ((w.alloc (.cells #[.int .i64 a, .int .i64 b] 60)).alloc (.cells #[.int .i64 aa, .int .i64 bb] 60)) := rfl
  have HG := Lib.hid hgr.symm
  clear hgr
  by_cases hc : cmpI b bb = 0
  · have HV : Hid (cmpF ⟨a, b⟩ ⟨aa, bb⟩ = cmpI a aa) := Lib.hid (by simp [cmpF, hc])
    rw [hc] at HC
    clear hc
    go_enter Tryd.func60, Tryd.ntmps60
    go_wp2_with fail
    refine (HC.out _).mono ?_
    rintro e w' ⟨rfl, rfl⟩
    go_wp2_with fail
    refine (HD.out _).mono ?_
    rintro e w' ⟨rfl, rfl⟩
    go_wp2_with fail
    go_ret
    exact ⟨by rw [HV.out]; rfl, 0, _, HG.out⟩
  · have HV : Hid (cmpF ⟨a, b⟩ ⟨aa, bb⟩ = cmpI b bb) := Lib.hid (by simp [cmpF, hc])
    have hc' : (cmpI b bb != 0) = true := by simp [hc]
    clear hc
    go_enter Tryd.func60, Tryd.ntmps60
    go_wp2_with fail
    refine (HC.out _).mono ?_
    rintro e w' ⟨rfl, rfl⟩
    go_wp2_with fail
    go_ret
    exact ⟨by rw [HV.out]; rfl, 0, _, HG.out⟩
theorem below_grow (w : World) (q : Nat) (os : Array Obj) : Below w.heap.size w (Go.Sort.grow (w.drewN q) os) := by
  have hg : w.grownBy (Go.Sort.grow (w.drewN q) os) none := by
    refine ⟨rfl, rfl, rfl, by simp [Go.Sort.grow], fun k hk hne => ?_⟩
    rw [Go.Sort.heap_grow_old _ _ (by simpa using hk)]
    rfl
  exact below_of_grown hg (Nat.le_refl _) (fun k hk => by cases hk)
theorem cmpF_any (f g : Ft) (w : World) : Calls Tryd.prog 60 #[valF f, valF g] w fun e w' => e = .returned (.int .i64 (cmpF f g)) ∧ Below w.heap.size w w' := by
  refine (cmpF_grow f g w).mono ?_
  rintro e w' ⟨he, q, os, rfl⟩
  exact ⟨he, below_grow w q os⟩
end Go.Proofs.YtoejojfjiikogaaDoor
