/- Joined texts. -/
import Derived.Test.YtiejgkmjaphbcaaDoorRatWrittenW
import Derived.Test.YtiejgkmjaphbcaaDoorBunLib
import Derived.Test.YtiejgkmjaphbcaaDoorRows
import Derived.OpenShut
import Derived.ProofKit

/- RatWritten: the walk from the arguments as they come. -/
namespace Go.Proofs.YtiejgkmjaphbcaaDoor
open Go.RowKit Go.ChangeShapes Go.WideShapes
set_option linter.unusedVariables false
set_option maxRecDepth 100000

theorem int_range {n : Int} (h : (Lit.int .i64 n).wf = true) : -9223372036854775808 ≤ n ∧ n ≤ 9223372036854775807 := by
  simp only [Lit.wf, IntKind.min, IntKind.max, IntKind.signed, IntKind.bits, Bool.and_eq_true, decide_eq_true_eq, if_true] at h
  omega
theorem ratWritten_walk {H : Type} {enc : TypeId × Value → H} (W : World) (v0 v1 : Value) {d0 d1 : DataW H} {p0 p1 : List MemPlace} {base : Nat}
    (h0 : DataW.Trod enc Tryd.prog W 0 (fun _ => true) true 3 v0 d0 p0) (h1 : DataW.Trod enc Tryd.prog W 0 (fun _ => true) true 3 v1 d1 p1)
    (o0 : Value.okWide Tryd.prog W .any base 3 v0) (o1 : Value.okWide Tryd.prog W .any base 3 v1)
    (w0 : Light Tryd.prog 3 d0) (w1 : Light Tryd.prog 3 d1) (hL : laidMetH Tryd.prog Rows.ratWrittenRow.laid W) :
    Calls Tryd.prog 3 #[v0, v1] W fun e W' => e = .returned (.bool true) ∧ Below W.heap.size W W' := by
  obtain ⟨x0, rfl, _, _, hx0⟩ := open_int Tryd.underlying3 o0 h0
  obtain ⟨x1, rfl, _, _, hx1⟩ := open_int Tryd.underlying3 o1 h1
  exact ratWritten_int x0 x1 W (int_range hx0).1 (int_range hx0).2 (int_range hx1).1 (int_range hx1).2 (tab_of (by kernel_rfl) hL)
end Go.Proofs.YtiejgkmjaphbcaaDoor
