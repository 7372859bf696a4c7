/- NatDivides: the walk from the arguments as they come. -/
import Derived.Test.YtlfddhiimcophaaDoorNatDividesW
import Derived.Test.YtlfddhiimcophaaDoorOpen
import Derived.Test.YtlfddhiimcophaaDoorRows
import Derived.OpenShut
import Derived.ProofKit
namespace Go.Proofs.YtlfddhiimcophaaDoor
open Go.RowKit Go.ChangeShapes Go.WideShapes
set_option linter.unusedVariables false
set_option maxRecDepth 100000

theorem natDivides_walk {H : Type} {enc : TypeId × Value → H} (W : World) (v0 v1 : Value) {d0 d1 : DataW H} {p0 p1 : List MemPlace} {base : Nat}
    (h0 : DataW.Trod enc Tryd.prog W 0 (fun _ => true) true 9 v0 d0 p0) (h1 : DataW.Trod enc Tryd.prog W 0 (fun _ => true) true 9 v1 d1 p1)
    (o0 : Value.okWide Tryd.prog W .any base 9 v0) (o1 : Value.okWide Tryd.prog W .any base 9 v1)
    (w0 : Light Tryd.prog 9 d0) (w1 : Light Tryd.prog 9 d1) (hL : laidMetH Tryd.prog Rows.natDividesRow.laid W) :
    Calls Tryd.prog 5 #[v0, v1] W fun e W' => e = .returned (.bool true) ∧ Below W.heap.size W W' := by
  obtain ⟨s0, rfl, rfl, rfl, hs0⟩ := Go.ChangeMaps.open_string Tryd.underlying9 o0 h0
  obtain ⟨s1, rfl, rfl, rfl, hs1⟩ := Go.ChangeMaps.open_string Tryd.underlying9 o1 h1
  exact natDivides_str s0 s1 W hs0 hs1
end Go.Proofs.YtlfddhiimcophaaDoor
