/- NumbersHold: the walk from the arguments as they come. -/
import Derived.Test.YtmchjmflkaiakaaGreatDoorNumbersHoldW
import Derived.Test.YtmchjmflkaiakaaGreatDoorBunLib
import Derived.Test.YtmchjmflkaiakaaGreatDoorRows
import Derived.OpenShut
import Derived.ProofKit
namespace Go.Proofs.YtmchjmflkaiakaaGreatDoor
open Go.RowKit Go.ChangeShapes Go.WideShapes
set_option linter.unusedVariables false
set_option maxRecDepth 100000
theorem int_range {n : Int} (h : (Lit.int .i64 n).wf = true) : -9223372036854775808 ≤ n ∧ n ≤ 9223372036854775807 := by
 simp only [Lit.wf, IntKind.min, IntKind.max, IntKind.signed, IntKind.bits, Bool.and_eq_true, decide_eq_true_eq, if_true] at h
 omega
theorem u64_range {n : Int} (h : (Lit.int .u64 n).wf = true) : 0 ≤ n ∧ n ≤ 18446744073709551615 := by
 simp only [Lit.wf, IntKind.min, IntKind.max, IntKind.signed, IntKind.bits, Bool.and_eq_true] at h
 simp at h
 omega
theorem numbersHold_walk {H : Type} {enc : TypeId × Value → H} (W : World) (v0 v1 v2 v3 v4 v5 : Value) {d0 d1 d2 d3 d4 d5 : DataW H} {p0 p1 p2 p3 p4 p5 : List MemPlace} {base : Nat}
  (h0 : DataW.Trod enc Tryz.prog W 0 (fun _ => true) true 76 v0 d0 p0) (h1 : DataW.Trod enc Tryz.prog W 0 (fun _ => true) true 76 v1 d1 p1) (h2 : DataW.Trod enc Tryz.prog W 0 (fun _ => true) true 76 v2 d2 p2) (h3 : DataW.Trod enc Tryz.prog W 0 (fun _ => true) true 3 v3 d3 p3) (h4 : DataW.Trod enc Tryz.prog W 0 (fun _ => true) true 3 v4 d4 p4) (h5 : DataW.Trod enc Tryz.prog W 0 (fun _ => true) true 3 v5 d5 p5)
  (o0 : Value.okWide Tryz.prog W .any base 76 v0) (o1 : Value.okWide Tryz.prog W .any base 76 v1) (o2 : Value.okWide Tryz.prog W .any base 76 v2) (o3 : Value.okWide Tryz.prog W .any base 3 v3) (o4 : Value.okWide Tryz.prog W .any base 3 v4) (o5 : Value.okWide Tryz.prog W .any base 3 v5)
  (w0 : Light Tryz.prog 76 d0) (w1 : Light Tryz.prog 76 d1) (w2 : Light Tryz.prog 76 d2) (w3 : Light Tryz.prog 3 d3) (w4 : Light Tryz.prog 3 d4) (w5 : Light Tryz.prog 3 d5) (hL : laidMetH Tryz.prog Rows.numbersHoldRow.laid W) :
  Calls Tryz.prog 7 #[v0, v1, v2, v3, v4, v5] W fun e W' => e = .returned (.bool true) ∧ Below W.heap.size W W' := by
 obtain ⟨x0, rfl, _, _, hx0⟩ := open_int Tryz.underlying76 o0 h0
 obtain ⟨x1, rfl, _, _, hx1⟩ := open_int Tryz.underlying76 o1 h1
 obtain ⟨x2, rfl, _, _, hx2⟩ := open_int Tryz.underlying76 o2 h2
 obtain ⟨x3, rfl, _, _, hx3⟩ := open_int Tryz.underlying3 o3 h3
 obtain ⟨x4, rfl, _, _, hx4⟩ := open_int Tryz.underlying3 o4 h4
 obtain ⟨x5, rfl, _, _, hx5⟩ := open_int Tryz.underlying3 o5 h5
 have hr0 := u64_range hx0
 obtain ⟨n0, rfl⟩ := Int.eq_ofNat_of_zero_le hr0.1
 have hr1 := u64_range hx1
 obtain ⟨n1, rfl⟩ := Int.eq_ofNat_of_zero_le hr1.1
 have hr2 := u64_range hx2
 obtain ⟨n2, rfl⟩ := Int.eq_ofNat_of_zero_le hr2.1
 exact numbersHold_int n0 n1 n2 x3 x4 x5 W (by omega) (by omega) (by omega) (int_range hx3).1 (int_range hx3).2 (int_range hx4).1 (int_range hx4).2 (int_range hx5).1 (int_range hx5).2 (tab_of (by kernel_rfl) hL)
end Go.Proofs.YtmchjmflkaiakaaGreatDoor
