/- Walks: Form (package act), FormIs (reference). -/
import Derived.Test.YtnaiflokmihmeaaMgI
import Derived.ChangeKeysEq
import Derived.Deep.QuietTactic
import Derived.BigQuiet
import Derived.OwnWalk
namespace Go.Proofs.Ytnaiflokmihmeaa
open Go.RowKit
set_option linter.unusedVariables false
set_option linter.unusedSimpArgs false

theorem sboxed (w : World) (cs : Array Value) : Below w.heap.size w (w.alloc (.cells cs 39)) ∧ Blk (w.alloc (.cells cs 39)) w.heap.size 39 cs := ⟨(Below.refl _ _).alloc (Nat.le_refl _) _, Blk.new _ _ _⟩
theorem form_cases (k a p s t : Int) :
    (p < -1) ∨ (-1 ≤ p ∧ s < -1) ∨ (-1 ≤ p ∧ -1 ≤ s ∧ a < 0) ∨
    (0 ≤ a ∧ (p = -1 ∨ 0 ≤ p) ∧ (s = -1 ∨ 0 ≤ s) ∧ (t = 0 ∨ (t != 0) = true) ∧ (k = 0 ∨ k = 1 ∨ k = 2 ∨ k = 3 ∨ k = 4 ∨ ((k == 0) = false ∧ (k == 1) = false ∧ (k == 2) = false ∧ (k == 3) = false ∧ (k == 4) = false))) := by
  simp
  omega
set_option maxHeartbeats 8000000 in
theorem form_any (x : Stp) (w : World) : Calls Try.prog 57 #[sv x] w fun e w' => e = .returned (.bool (formB x)) ∧ Below w.heap.size w w' := by
  obtain ⟨k, a, p, s, t⟩ := x
  unfold sv
  dsimp only
  have HB := Lib.hid (sboxed w #[.int .i64 k, .int .i64 a, .int .i64 p, .int .i64 s, .int .i64 t])
  rcases form_cases k a p s t with h | ⟨h, h'⟩ | ⟨h, h', h''⟩ | ⟨ha, hp, hs, ht, hk⟩
  case' inr.inr.inr => rcases hp with rfl | hp <;> rcases hs with rfl | hs <;> rcases ht with rfl | ht <;> rcases hk with rfl | rfl | rfl | rfl | rfl | ⟨e0, e1, e2, e3, e4⟩
  all_goals
    go_enter Try.func57, Try.ntmps57
    go_wp2_with fail
    generalize World.alloc w _ = w1 at *
    have hcl := HB.out.2
    have k0 := hcl.cell 0
    have k1 := hcl.cell 1
    have k2 := hcl.cell 2
    have k3 := hcl.cell 3
    have k4 := hcl.cell 4
    simp at k0 k1 k2 k3 k4
    clear hcl
    go_quiet (fail)
    go_wp2_with fail
    all_goals
      go_ret
      refine ⟨ret_bool ?_, below_drewN HB.out.1 _⟩
      clear k0 k1 k2 k3 k4
      first
        | (simp at *; simp [formB]; omega)
        | (simp at *; simp [formB, *]; done)
        | (simp at *; rw [Bool.eq_iff_iff]; simp [formB]; omega)

theorem infoB3 : (Try.prog.info? 4).map (fun i => (i.zero, i.size, i.bytes)) = some (some (.bool false), 1, 1) := by kernel_rfl
theorem cellsB3 : Try.prog.cellsOf 4 = 1 := by kernel_rfl
theorem partB0 (x y z : Bool) (w : World) : (part 4 #[.bool x, .bool y, .bool z] 0).run Try.prog w = .ok (.bool x) w := by kernel_rfl
theorem partB1 (x y z : Bool) (w : World) : (part 4 #[.bool x, .bool y, .bool z] 1).run Try.prog w = .ok (.bool y) w := by kernel_rfl
theorem partB2 (x y z : Bool) (w : World) : (part 4 #[.bool x, .bool y, .bool z] 2).run Try.prog w = .ok (.bool z) w := by kernel_rfl
theorem eqB0 (x y : Bool) (w : World) : (Op.equalIn 9999 4 (.bool x) (.bool y)).run Try.prog w = .ok (x == y) w := by kernel_rfl
theorem equal_b3 (x y z p q r : Bool) (w : World) : (Op.equalIn 10000 123 (.agg #[.bool x, .bool y, .bool z]) (.agg #[.bool p, .bool q, .bool r])).run Try.prog w = .ok (x == p && (y == q && z == r)) w := by
  obtain ⟨i0, hi, _⟩ := info_parts infoB3
  have h := run_equalIn_array (P := Try.prog) (w := w) 9999 #[.bool x, .bool y, .bool z] #[.bool p, .bool q, .bool r] Try.underlying123 hi
  rw [h, cellsB3]
  simp only [Op.eqItems, List.range, List.range.loop, Sem.run_bind, Nat.zero_mul, Nat.one_mul, partB0, eqB0, Result.andThen_ok]
  cases hx : x == p <;> cases hy : y == q <;> cases hz : z == r <;> simp [partB1, partB2, eqB0, hy, hz]
set_option maxHeartbeats 8000000 in
theorem formis_any (x : Stp) (w : World) : Calls Try.prog 58 #[sv x] w fun e w' => e = .returned (.bool (formB x)) ∧ Below w.heap.size w w' := by
  obtain ⟨k, a, p, s, t⟩ := x
  unfold sv
  dsimp only
  have HB := Lib.hid (sboxed w #[.int .i64 k, .int .i64 a, .int .i64 p, .int .i64 s, .int .i64 t])
  have heq2 := equal_b3
  have heq : ∀ (x y z p q r : Bool) (w : World), (Op.equal 123 (.agg #[.bool x, .bool y, .bool z]) (.agg #[.bool p, .bool q, .bool r])).run Try.prog w = .ok (x == p && (y == q && z == r)) w := equal_b3
  rcases form_cases k a p s t with h | ⟨h, h'⟩ | ⟨h, h', h''⟩ | ⟨ha, hp, hs, ht, hk⟩
  case' inr.inr.inr => rcases hp with rfl | hp <;> rcases hs with rfl | hs <;> rcases ht with rfl | ht <;> rcases hk with rfl | rfl | rfl | rfl | rfl | ⟨e0, e1, e2, e3, e4⟩
  all_goals
    go_enter Try.func58, Try.ntmps58
    go_wp2_with fail
    all_goals
      go_ret
      refine ⟨ret_bool ?_, ?_⟩
      · clear heq heq2
        first
          | (simp at *; simp [formB]; omega)
          | (simp at *; simp [formB, *]; done)
          | (simp at *; rw [Bool.eq_iff_iff]; simp [formB]; omega)
      · first | exact HB.out.1 | exact HB.out.1.alloc HB.out.1.size _
end Go.Proofs.Ytnaiflokmihmeaa
