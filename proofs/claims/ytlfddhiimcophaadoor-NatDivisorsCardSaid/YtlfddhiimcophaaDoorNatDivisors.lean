/- NatDivisors: the walk from the arguments as they come. -/
import Derived.Test.YtlfddhiimcophaaDoorNatDivisorsW
import Derived.Test.YtlfddhiimcophaaDoorOpen
import Derived.Test.YtlfddhiimcophaaDoorRows
import Derived.OpenShut
import Derived.ProofKit
namespace Go.Proofs.YtlfddhiimcophaaDoor
open Go.RowKit Go.ChangeShapes Go.WideShapes
set_option linter.unusedVariables false
set_option maxRecDepth 100000

theorem natDivisors_walk {H : Type} {enc : TypeId × Value → H} (W : World) (v0 v1 v2 : Value) {d0 d1 d2 : DataW H} {p0 p1 p2 : List MemPlace} {base : Nat}
    (h0 : DataW.Trod enc Tryd.prog W 0 (fun _ => true) true 9 v0 d0 p0) (h1 : DataW.Trod enc Tryd.prog W 0 (fun _ => true) true 9 v1 d1 p1) (h2 : DataW.Trod enc Tryd.prog W 0 (fun _ => true) true 9 v2 d2 p2)
    (o0 : Value.okWide Tryd.prog W .any base 9 v0) (o1 : Value.okWide Tryd.prog W .any base 9 v1) (o2 : Value.okWide Tryd.prog W .any base 9 v2)
    (w0 : Light Tryd.prog 9 d0) (w1 : Light Tryd.prog 9 d1) (w2 : Light Tryd.prog 9 d2) (hL : laidMetH Tryd.prog Rows.natDivisorsRow.laid W) :
    Calls Tryd.prog 9 #[v0, v1, v2] W fun e W' => e = .returned (.bool true) ∧ Below W.heap.size W W' := by
  obtain ⟨s0, rfl, rfl, rfl, hs0⟩ := Go.ChangeMaps.open_string Tryd.underlying9 o0 h0
  obtain ⟨s1, rfl, rfl, rfl, hs1⟩ := Go.ChangeMaps.open_string Tryd.underlying9 o1 h1
  obtain ⟨s2, rfl, rfl, rfl, hs2⟩ := Go.ChangeMaps.open_string Tryd.underlying9 o2 h2
  exact natDivisors_str s0 s1 s2 W hs0 hs1 hs2 (tab_of (by kernel_rfl) hL)
end Go.Proofs.YtlfddhiimcophaaDoor
