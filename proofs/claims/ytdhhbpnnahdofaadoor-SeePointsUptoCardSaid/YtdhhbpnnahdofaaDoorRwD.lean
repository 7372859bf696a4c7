/- Rational functions at numbers that came in: Sub, mixed forms. -/
import Derived.Test.YtdhhbpnnahdofaaDoorRwC

namespace Go.Proofs.YtdhhbpnnahdofaaDoor
open Go.RowKit
set_option linter.unusedVariables false
set_option linter.unusedSimpArgs false

section
variable {W : World} {l : List Own} {k : Nat} {x y : Rat} {g1 g2 : Bool} {t1 t2 : RT}
end

section
variable {W : World} {l : List Own} {k : Nat} {x y : Rat} {g1 g2 : Bool} {t1 t2 : RT}
theorem cmp_wq {v : Int} (hT : Tab W) (h1 : RawT k x g1 t1) (h2 : Rz k y) (hv : cmpQ x y = v) (hk : k ≤ 4398046511104) (w : World) (h : St W l w) :
    Calls Tryd.prog 32 #[.agg t1.c, .agg (RC y)] w fun e w' => e = .returned (.int .i64 v) ∧ Below w.heap.size w w' := cmp_w (t1 := t1) (t2 := rt y) hT h1 (RawT.rc h2) hv hk w h
theorem cmp_qw {v : Int} (hT : Tab W) (h1 : Rz k x) (h2 : RawT k y g2 t2) (hv : cmpQ x y = v) (hk : k ≤ 4398046511104) (w : World) (h : St W l w) :
    Calls Tryd.prog 32 #[.agg (RC x), .agg t2.c] w fun e w' => e = .returned (.int .i64 v) ∧ Below w.heap.size w w' := cmp_w (t1 := rt x) (t2 := t2) hT (RawT.rc h1) h2 hv hk w h
theorem mul_qw {z : Rat} (hT : Tab W) (h1 : Rz k x) (h2 : RawT k y g2 t2) (hz : x * y = z) (hk : k ≤ 4398046511104) (w : World) (h : St W l w) :
    Calls Tryd.prog 33 #[.agg (RC x), .agg t2.c] w fun e w' => e = .returned (.agg (RC z)) ∧ Below w.heap.size w w' := mul_w (t1 := rt x) (t2 := t2) hT (RawT.rc h1) h2 hz hk w h
end
end Go.Proofs.YtdhhbpnnahdofaaDoor
