/- Joined texts. -/
import Derived.Test.YtlfddhiimcophaaDoorNatSquareW
import Derived.Test.YtlfddhiimcophaaDoorBunLib
import Derived.Test.YtlfddhiimcophaaDoorRows
import Derived.OpenShut
import Derived.ProofKit

/- NatSquare: the walk from the arguments as they come. -/
namespace Go.Proofs.YtlfddhiimcophaaDoor
open Go.RowKit Go.ChangeShapes Go.WideShapes
set_option linter.unusedVariables false
set_option maxRecDepth 100000

theorem natSquare_walk {H : Type} {enc : TypeId × Value → H} (W : World) (v0 : Value) {d0 : DataW H} {p0 : List MemPlace} {base : Nat}
    (h0 : DataW.Trod enc Tryd.prog W 0 (fun _ => true) true 9 v0 d0 p0)
    (o0 : Value.okWide Tryd.prog W .any base 9 v0)
    (w0 : Light Tryd.prog 9 d0) (hL : laidMetH Tryd.prog Rows.natSquareRow.laid W) :
    Calls Tryd.prog 10 #[v0] W fun e W' => e = .returned (.bool true) ∧ Below W.heap.size W W' := by
  obtain ⟨s0, rfl, rfl, rfl, hs0⟩ := Go.ChangeMaps.open_string Tryd.underlying9 o0 h0
  exact natSquare_str s0 W hs0
end Go.Proofs.YtlfddhiimcophaaDoor
