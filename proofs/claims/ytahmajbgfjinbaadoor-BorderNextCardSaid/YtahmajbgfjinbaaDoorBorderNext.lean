/- Joined texts. -/
import Derived.Test.YtahmajbgfjinbaaDoorBorderNextW
import Derived.Test.YtahmajbgfjinbaaDoorBunLib
import Derived.Test.YtahmajbgfjinbaaDoorRows
import Derived.OpenShut
import Derived.ProofKit

/- BorderNext: the walk from the arguments as they come. -/
namespace Go.Proofs.YtahmajbgfjinbaaDoor
open Go.RowKit Go.ChangeShapes Go.WideShapes
set_option linter.unusedVariables false
set_option maxRecDepth 100000

theorem u64_range {n : Int} (h : (Lit.int .u64 n).wf = true) : 0 ≤ n ∧ n ≤ 18446744073709551615 := by
  simp only [Lit.wf, IntKind.min, IntKind.max, IntKind.signed, IntKind.bits, Bool.and_eq_true] at h
  simp at h
  omega
theorem borderNext_walk {H : Type} {enc : TypeId × Value → H} (W : World) (v0 : Value) {d0 : DataW H} {p0 : List MemPlace} {base : Nat}
    (h0 : DataW.Trod enc Tryd.prog W 0 (fun _ => true) true 79 v0 d0 p0)
    (o0 : Value.okWide Tryd.prog W .any base 79 v0)
    (w0 : Light Tryd.prog 79 d0) (hL : laidMetH Tryd.prog Rows.borderNextRow.laid W) :
    Calls Tryd.prog 11 #[v0] W fun e W' => e = .returned (.bool true) ∧ Below W.heap.size W W' := by
  obtain ⟨x0, rfl, _, _, hx0⟩ := open_int Tryd.underlying79 o0 h0
  have hr := u64_range hx0
  obtain ⟨n, rfl⟩ := Int.eq_ofNat_of_zero_le hr.1
  exact borderNext_nat n W (by omega) (tab_of (by kernel_rfl) hL)
end Go.Proofs.YtahmajbgfjinbaaDoor
