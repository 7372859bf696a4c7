/- CarrySays: the walk from the arguments as they come. -/
import Derived.Test.YtdhhbpnnahdofaaDoorCarrySaysA
import Derived.Test.YtdhhbpnnahdofaaDoorSeO
import Derived.OpenShut
import Derived.ProofKit

namespace Go.Proofs.YtdhhbpnnahdofaaDoor
open Go.RowKit Go.ChangeShapes Go.WideShapes
set_option linter.unusedVariables false
set_option maxRecDepth 100000

theorem carrySays_walk {H : Type} {enc : TypeId × Value → H} (W : World) (v0 v1 v2 : Value) {d0 d1 d2 : DataW H} {p0 p1 p2 : List MemPlace} {base : Nat}
    (h0 : DataW.Trod enc Tryd.prog W 0 (fun _ => true) true 36 v0 d0 p0) (h1 : DataW.Trod enc Tryd.prog W 0 (fun _ => true) true 42 v1 d1 p1) (h2 : DataW.Trod enc Tryd.prog W 0 (fun _ => true) true 42 v2 d2 p2)
    (o0 : Value.okWide Tryd.prog W .any base 36 v0) (o1 : Value.okWide Tryd.prog W .any base 42 v1) (o2 : Value.okWide Tryd.prog W .any base 42 v2)
    (w0 : Light Tryd.prog 36 d0) (w1 : Light Tryd.prog 42 d1) (w2 : Light Tryd.prog 42 d2) (hL : laidMetH Tryd.prog Rows.carrySaysRow.laid W) (hk : Rows.uptoBulkAll [d0, d1, d2] ≤ 1048576) :
    Calls Tryd.prog 6 #[v0, v1, v2] W fun e W' => e = .returned (.bool true) ∧ Below W.heap.size W W' := by
  have b0 : Rows.uptoBulk d0 ≤ 1048576 := Nat.le_trans (bulkO_mem (by simp)) hk
  obtain ⟨c0, rfl, z0⟩ := okWide_struct Tryd.underlying36 o0
  obtain ⟨f0_, e0⟩ := h0
  obtain ⟨p1, p2, p3, p4, p5, p6, k0, s_p1, s_p2, s_p3, s_p4, s_p5, s_p6⟩ := open_pose e0
  obtain rfl := arr_eq k0
  obtain ⟨x_p1, g_p1, r_p1⟩ := RawT.any p1 1048576 (by decide) (Nat.le_trans s_p1.1 b0) (Nat.le_trans s_p1.2 b0)
  obtain ⟨x_p2, g_p2, r_p2⟩ := RawT.any p2 1048576 (by decide) (Nat.le_trans s_p2.1 b0) (Nat.le_trans s_p2.2 b0)
  obtain ⟨x_p3, g_p3, r_p3⟩ := RawT.any p3 1048576 (by decide) (Nat.le_trans s_p3.1 b0) (Nat.le_trans s_p3.2 b0)
  obtain ⟨x_p4, g_p4, r_p4⟩ := RawT.any p4 1048576 (by decide) (Nat.le_trans s_p4.1 b0) (Nat.le_trans s_p4.2 b0)
  obtain ⟨x_p5, g_p5, r_p5⟩ := RawT.any p5 1048576 (by decide) (Nat.le_trans s_p5.1 b0) (Nat.le_trans s_p5.2 b0)
  obtain ⟨x_p6, g_p6, r_p6⟩ := RawT.any p6 1048576 (by decide) (Nat.le_trans s_p6.1 b0) (Nat.le_trans s_p6.2 b0)
  obtain ⟨lo_p0, hi_p0, gg_p0, S_p0⟩ := RawS.any r_p1 r_p2
  obtain ⟨lo_p1, hi_p1, gg_p1, S_p1⟩ := RawS.any r_p3 r_p4
  obtain ⟨lo_p2, hi_p2, gg_p2, S_p2⟩ := RawS.any r_p5 r_p6
  have b1 : Rows.uptoBulk d1 ≤ 1048576 := Nat.le_trans (bulkO_mem (by simp)) hk
  obtain ⟨c1, rfl, z1⟩ := okWide_struct Tryd.underlying42 o1
  obtain ⟨f1_, e1⟩ := h1
  obtain ⟨g1, g2, gh, g3, k1, s_g1, s_g2, s_g3⟩ := open_frame e1
  obtain rfl := arr_eq k1
  obtain ⟨x_g1, g_g1, r_g1⟩ := RawT.any g1 1048576 (by decide) (Nat.le_trans s_g1.1 b1) (Nat.le_trans s_g1.2 b1)
  obtain ⟨x_g2, g_g2, r_g2⟩ := RawT.any g2 1048576 (by decide) (Nat.le_trans s_g2.1 b1) (Nat.le_trans s_g2.2 b1)
  obtain ⟨x_g3, g_g3, r_g3⟩ := RawT.any g3 1048576 (by decide) (Nat.le_trans s_g3.1 b1) (Nat.le_trans s_g3.2 b1)
  have b2 : Rows.uptoBulk d2 ≤ 1048576 := Nat.le_trans (bulkO_mem (by simp)) hk
  obtain ⟨c2, rfl, z2⟩ := okWide_struct Tryd.underlying42 o2
  obtain ⟨f2_, e2⟩ := h2
  obtain ⟨h1, h2, hh, h3, k2, s_h1, s_h2, s_h3⟩ := open_frame e2
  obtain rfl := arr_eq k2
  obtain ⟨x_h1, g_h1, r_h1⟩ := RawT.any h1 1048576 (by decide) (Nat.le_trans s_h1.1 b2) (Nat.le_trans s_h1.2 b2)
  obtain ⟨x_h2, g_h2, r_h2⟩ := RawT.any h2 1048576 (by decide) (Nat.le_trans s_h2.1 b2) (Nat.le_trans s_h2.2 b2)
  obtain ⟨x_h3, g_h3, r_h3⟩ := RawT.any h3 1048576 (by decide) (Nat.le_trans s_h3.1 b2) (Nat.le_trans s_h3.2 b2)
  have hT := tab_of (by kernel_rfl) hL
  exact carrySays_law (k := 1048576) hT S_p0 S_p1 S_p2 r_g1 r_g2 r_g3 r_h1 r_h2 r_h3 (by decide) (by decide) W St.start
end Go.Proofs.YtdhhbpnnahdofaaDoor
