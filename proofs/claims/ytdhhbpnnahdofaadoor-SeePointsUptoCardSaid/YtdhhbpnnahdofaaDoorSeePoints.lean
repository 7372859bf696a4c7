/- SeePoints: the walk from the arguments as they come. -/
import Derived.Test.YtdhhbpnnahdofaaDoorSeePointsA
import Derived.OpenShut
import Derived.ProofKit

namespace Go.Proofs.YtdhhbpnnahdofaaDoor
open Go.RowKit Go.ChangeShapes Go.WideShapes
set_option linter.unusedVariables false
set_option maxRecDepth 100000

theorem seePoints_walk {H : Type} {enc : TypeId × Value → H} (W : World) (v0 v1 v2 : Value) {d0 d1 d2 : DataW H} {p0 p1 p2 : List MemPlace} {base : Nat}
    (h0 : DataW.Trod enc Tryd.prog W 0 (fun _ => true) true 36 v0 d0 p0) (h1 : DataW.Trod enc Tryd.prog W 0 (fun _ => true) true 38 v1 d1 p1) (h2 : DataW.Trod enc Tryd.prog W 0 (fun _ => true) true 69 v2 d2 p2)
    (o0 : Value.okWide Tryd.prog W .any base 36 v0) (o1 : Value.okWide Tryd.prog W .any base 38 v1) (o2 : Value.okWide Tryd.prog W .any base 69 v2)
    (w0 : Light Tryd.prog 36 d0) (w1 : Light Tryd.prog 38 d1) (w2 : Light Tryd.prog 69 d2) (hL : laidMetH Tryd.prog Rows.seePointsRow.laid W) (hk : Rows.uptoBulkAll [d0, d1, d2] ≤ 1048576) :
    Calls Tryd.prog 5 #[v0, v1, v2] W fun e W' => e = .returned (.bool true) ∧ Below W.heap.size W W' := by
  have b0 : Rows.uptoBulk d0 ≤ 1048576 := Nat.le_trans (bulkO_mem (by simp)) hk
  obtain ⟨c0, rfl, z0⟩ := okWide_struct Tryd.underlying36 o0
  obtain ⟨f0_, e0⟩ := h0
  obtain ⟨p1, p2, p3, p4, p5, p6, k0, s_p1, s_p2, s_p3, s_p4, s_p5, s_p6⟩ := open_pose e0
  obtain rfl := arr_eq k0
  obtain ⟨x_p1, g_p1, r_p1⟩ := RawT.any p1 1048576 (by decide) (Nat.le_trans s_p1.1 b0) (Nat.le_trans s_p1.2 b0)
  obtain ⟨x_p2, g_p2, r_p2⟩ := RawT.any p2 1048576 (by decide) (Nat.le_trans s_p2.1 b0) (Nat.le_trans s_p2.2 b0)
  obtain ⟨x_p3, g_p3, r_p3⟩ := RawT.any p3 1048576 (by decide) (Nat.le_trans s_p3.1 b0) (Nat.le_trans s_p3.2 b0)
  obtain ⟨x_p4, g_p4, r_p4⟩ := RawT.any p4 1048576 (by decide) (Nat.le_trans s_p4.1 b0) (Nat.le_trans s_p4.2 b0)
  obtain ⟨x_p5, g_p5, r_p5⟩ := RawT.any p5 1048576 (by decide) (Nat.le_trans s_p5.1 b0) (Nat.le_trans s_p5.2 b0)
  obtain ⟨x_p6, g_p6, r_p6⟩ := RawT.any p6 1048576 (by decide) (Nat.le_trans s_p6.1 b0) (Nat.le_trans s_p6.2 b0)
  have b1 : Rows.uptoBulk d1 ≤ 1048576 := Nat.le_trans (bulkO_mem (by simp)) hk
  obtain ⟨c1, rfl, z1⟩ := okWide_struct Tryd.underlying38 o1
  obtain ⟨f1_, e1⟩ := h1
  obtain ⟨v1, v2, k1, s_v1, s_v2⟩ := open_vec e1
  obtain rfl := arr_eq k1
  obtain ⟨x_v1, g_v1, r_v1⟩ := RawT.any v1 1048576 (by decide) (Nat.le_trans s_v1.1 b1) (Nat.le_trans s_v1.2 b1)
  obtain ⟨x_v2, g_v2, r_v2⟩ := RawT.any v2 1048576 (by decide) (Nat.le_trans s_v2.1 b1) (Nat.le_trans s_v2.2 b1)
  have b2 : Rows.uptoBulk d2 ≤ 1048576 := Nat.le_trans (bulkO_mem (by simp)) hk
  obtain ⟨A, n, c, vx, vy, rfl, hnc, hn, hVI⟩ := open_vecs h2 o2 b2
  obtain ⟨lo_p0, hi_p0, gg_p0, S_p0⟩ := RawS.any r_p1 r_p2
  obtain ⟨lo_p1, hi_p1, gg_p1, S_p1⟩ := RawS.any r_p3 r_p4
  obtain ⟨lo_p2, hi_p2, gg_p2, S_p2⟩ := RawS.any r_p5 r_p6
  have hT := tab_of (by kernel_rfl) hL
  exact seePoints_law (k := 1048576) hT S_p0 S_p1 S_p2 (by omega) hVI r_v1 r_v2 (by decide) (by decide) W St.start
end Go.Proofs.YtdhhbpnnahdofaaDoor
