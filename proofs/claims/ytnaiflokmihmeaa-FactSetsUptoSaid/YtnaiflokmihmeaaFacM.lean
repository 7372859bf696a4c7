/- fact.Compare lays blocks and nothing else. -/
import Derived.Shelf.SlSortCmp.WholeK
import Derived.Test.YtnaiflokmihmeaaFacJ
namespace Go.Proofs.Ytnaiflokmihmeaa
open Go.RowKit
set_option linter.unusedVariables false
set_option linter.unusedSimpArgs false

set_option maxHeartbeats 2000000 in
set_option maxRecDepth 20000 in
theorem cmpF_grow (f g : Ft) (w : World) : Calls Try.prog 22 #[valF f, valF g] w fun e w' => e = .returned (.int .i64 (cmpF f g)) ∧ ∃ q os, w' = Go.Sort.grow (w.drewN q) os := by
  obtain ⟨k, a, b⟩ := f
  obtain ⟨kk, aa, bb⟩ := g
  show Calls Try.prog 22 #[.agg #[.int .i64 k, .int .i64 a, .int .i64 b], .agg #[.int .i64 kk, .int .i64 aa, .int .i64 bb]] w fun e w' => e = .returned (.int .i64 (lexC [k, a, b] [kk, aa, bb])) ∧ ∃ q os, w' = Go.Sort.grow (w.drewN q) os
  go_enter Try.func22, Try.ntmps22
  go_wp2_with fail
  have hbl := cmp_blks w (k := k) (a := a) (b := b) (kk := kk) (aa := aa) (bb := bb) rfl rfl
  have hgr : Go.Sort.grow (w.drewN 0) #[.cells #[.int .i64 k, .int .i64 a, .int .i64 b] 45, .cells #[.int .i64 kk, .int .i64 aa, .int .i64 bb] 45, .cells #[.int .i64 k, .int .i64 a, .int .i64 b] 3, .cells #[.int .i64 kk, .int .i64 aa, .int .i64 bb] 3] = ((((w.alloc (.cells #[.int .i64 k, .int .i64 a, .int .i64 b] 45)).alloc (.cells #[.int .i64 kk, .int .i64 aa, .int .i64 bb] 45)).alloc (.cells #[.int .i64 k, .int .i64 a, .int .i64 b] 3)).alloc (.cells #[.int .i64 kk, .int .i64 aa, .int .i64 bb] 3)) := rfl
  generalize World.alloc (World.alloc (World.alloc (World.alloc w _) _) _) _ = w4 at *
  refine (compareI_any [k, a, b] [kk, aa, bb] _ _ 3 3 3 w4 rfl rfl (by omega) hbl.2.1 hbl.2.2).mono ?_
  rintro e w' ⟨rfl, rfl⟩
  have HG := Lib.hid hgr.symm
  clear hbl hgr
  go_wp2_with fail
  go_ret
  exact ⟨rfl, 0, _, HG.out⟩

end Go.Proofs.Ytnaiflokmihmeaa
