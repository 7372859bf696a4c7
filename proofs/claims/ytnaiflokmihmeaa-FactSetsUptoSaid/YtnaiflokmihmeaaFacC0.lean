/- Facts: two facts in variables. -/
import Derived.Test.YtnaiflokmihmeaaFacA
import Derived.ChangeKeysEq
namespace Go.Proofs.Ytnaiflokmihmeaa
open Go.RowKit
set_option linter.unusedVariables false
set_option linter.unusedSimpArgs false

abbrev celF (f : Ft) : Array Value := #[.int .i64 f.k, .int .i64 f.a, .int .i64 f.b]
theorem two_boxes (w : World) (f g : Ft) : Below w.heap.size w ((w.alloc (.cells (celF f) 45)).alloc (.cells (celF g) 45)) ∧ Blk ((w.alloc (.cells (celF f) 45)).alloc (.cells (celF g) 45)) w.heap.size 45 (celF f) ∧ Blk ((w.alloc (.cells (celF f) 45)).alloc (.cells (celF g) 45)) (w.heap.size + 1) 45 (celF g) := by
  refine ⟨((Below.refl _ _).alloc (Nat.le_refl _) _).alloc (by simp) _, (Blk.new _ _ _).alloc _, Blk.at_ (by simp)⟩
theorem beq_pos {x y : Int} (h : (x == y) = true) : x = y := by simpa using h
/-- the two variables -/
structure Two2 (w : World) (f g : Ft) (wr : World) : Prop where
  bel : Below w.heap.size w wr
  one : Blk wr w.heap.size 45 (celF f)
  two : Blk wr (w.heap.size + 1) 45 (celF g)
theorem Two2.next {w wr w' : World} {f g : Ft} (h : Two2 w f g wr) (hb : Below wr.heap.size wr w') : Two2 w f g w' := ⟨h.bel.trans (hb.mono h.bel.size), h.one.belowB hb, h.two.belowB hb⟩

/-! ### == of two facts -/
theorem stoodF (w : World) : Try.prog.stoodInHeld 45 = false := by kernel_rfl
theorem eqI0 (x y : Int) (w : World) : (Op.equalIn 9999 3 (.int .i64 x) (.int .i64 y)).run Try.prog w = .ok (x == y) w := by kernel_rfl
theorem partF0 (x y z : Int) (w : World) : (part 3 #[.int .i64 x, .int .i64 y, .int .i64 z] 0).run Try.prog w = .ok (.int .i64 x) w := by kernel_rfl
theorem partF1 (x y z : Int) (w : World) : (part 3 #[.int .i64 x, .int .i64 y, .int .i64 z] 1).run Try.prog w = .ok (.int .i64 y) w := by kernel_rfl
theorem partF2 (x y z : Int) (w : World) : (part 3 #[.int .i64 x, .int .i64 y, .int .i64 z] 2).run Try.prog w = .ok (.int .i64 z) w := by kernel_rfl
/-- == of two facts -/
theorem equal_ft2 (x y z p q r : Int) {b : Bool} (hb : decide ((⟨x, y, z⟩ : Ft) = ⟨p, q, r⟩) = b) (w : World) : (Op.equalIn 10000 45 (.agg #[.int .i64 x, .int .i64 y, .int .i64 z]) (.agg #[.int .i64 p, .int .i64 q, .int .i64 r])).run Try.prog w = .ok b w := by
  have e : b = (x == p && (y == q && z == r)) := by rw [← hb, Bool.eq_iff_iff]; simp
  rw [e, Op.equalIn]
  simp only [Sem.run_bind, run_underlying Try.underlying45, Result.andThen_ok]
  cases hx : x == p <;> cases hy : y == q <;> cases hz : z == r <;> simp [partF0, partF1, partF2, eqI0, hx, hy, hz, stoodF]
theorem equal_ft (x y z p q r : Int) {b : Bool} (hb : decide ((⟨x, y, z⟩ : Ft) = ⟨p, q, r⟩) = b) (w : World) : (Op.equal 45 (.agg #[.int .i64 x, .int .i64 y, .int .i64 z]) (.agg #[.int .i64 p, .int .i64 q, .int .i64 r])).run Try.prog w = .ok b w := equal_ft2 x y z p q r hb w
end Go.Proofs.Ytnaiflokmihmeaa
