/- Facts: Compare (package fact). -/
import Derived.Test.YtnaiflokmihmeaaFacI
namespace Go.Proofs.Ytnaiflokmihmeaa
open Go.RowKit
set_option linter.unusedVariables false
set_option linter.unusedSimpArgs false

def cmpF (f g : Ft) : Int := lexC [f.k, f.a, f.b] [g.k, g.a, g.b]
theorem ints_3 {w : World} {g : Nat} {t : TypeId} {x y z : Int} (h : Blk w g t #[.int .i64 x, .int .i64 y, .int .i64 z]) : IntsAt w w.heap.size (some ⟨g, 0, none⟩) [x, y, z] := by
  intro k u hk
  refine ⟨g, 0, rfl, h.lt, ?_⟩
  rw [Nat.zero_add, h.cell]
  rcases k with _ | _ | _ | k
  · simp at hk; subst hk; rfl
  · simp at hk; subst hk; rfl
  · simp at hk; subst hk; rfl
  · simp at hk

theorem cmp_blks (w : World) {k a b kk aa bb : Int} {v w4 : World} (h2 : v = (w.alloc (.cells #[.int .i64 k, .int .i64 a, .int .i64 b] 45)).alloc (.cells #[.int .i64 kk, .int .i64 aa, .int .i64 bb] 45))
    (h4 : w4 = (v.alloc (.cells #[.int .i64 k, .int .i64 a, .int .i64 b] 3)).alloc (.cells #[.int .i64 kk, .int .i64 aa, .int .i64 bb] 3)) :
    Below w.heap.size w w4 ∧ IntsAt w4 w4.heap.size (some ⟨w.heap.size + 1 + 1, 0, none⟩) [k, a, b] ∧ IntsAt w4 w4.heap.size (some ⟨w.heap.size + 1 + 1 + 1, 0, none⟩) [kk, aa, bb] := by
  have hz : v.heap.size = w.heap.size + 1 + 1 := by rw [h2]; simp
  have hb : Below w.heap.size w v := by rw [h2]; exact ((Below.refl _ _).alloc (Nat.le_refl _) _).alloc (by simp) _
  subst h4
  refine ⟨(hb.alloc (by omega) _).alloc (by simp; omega) _, ?_, ?_⟩
  · exact ints_3 ((Blk.at_ (by omega)).alloc _)
  · exact ints_3 (Blk.at_ (by simp; omega))

set_option maxHeartbeats 2000000 in
set_option maxRecDepth 20000 in
theorem cmpF_any (f g : Ft) (w : World) : Calls Try.prog 22 #[valF f, valF g] w fun e w' => e = .returned (.int .i64 (cmpF f g)) ∧ Below w.heap.size w w' := by
  obtain ⟨k, a, b⟩ := f
  obtain ⟨kk, aa, bb⟩ := g
  show Calls Try.prog 22 #[.agg #[.int .i64 k, .int .i64 a, .int .i64 b], .agg #[.int .i64 kk, .int .i64 aa, .int .i64 bb]] w fun e w' => e = .returned (.int .i64 (lexC [k, a, b] [kk, aa, bb])) ∧ Below w.heap.size w w'
  go_enter Try.func22, Try.ntmps22
  go_wp2_with fail
  have hbl := cmp_blks w (k := k) (a := a) (b := b) (kk := kk) (aa := aa) (bb := bb) rfl rfl
  generalize World.alloc (World.alloc (World.alloc (World.alloc w _) _) _) _ = w4 at *
  refine (compareI_any [k, a, b] [kk, aa, bb] _ _ 3 3 3 w4 rfl rfl (by omega) hbl.2.1 hbl.2.2).mono ?_
  rintro e w' ⟨rfl, rfl⟩
  have HB := Lib.hid hbl.1
  clear hbl
  go_wp2_with fail
  go_ret
  exact ⟨rfl, HB.out⟩
end Go.Proofs.Ytnaiflokmihmeaa
