/- CarryNeeds: the walk from the arguments as they come. -/
import Derived.Test.YtoejojfjiikogaaDoorCarryNeedsA
import Derived.OpenShut
import Derived.ProofKit

namespace Go.Proofs.YtoejojfjiikogaaDoor
open Go.RowKit Go.ChangeShapes Go.WideShapes
set_option linter.unusedVariables false
set_option maxRecDepth 100000

theorem carryNeeds_walk {H : Type} {enc : TypeId × Value → H} (W : World) (v0 v1 v2 v3 v4 : Value) {d0 d1 d2 d3 d4 : DataW H} {p0 p1 p2 p3 p4 : List MemPlace} {base : Nat}
    (h0 : DataW.Trod enc Tryd.prog W 0 (fun _ => true) true 27 v0 d0 p0) (h1 : DataW.Trod enc Tryd.prog W 0 (fun _ => true) true 35 v1 d1 p1) (h2 : DataW.Trod enc Tryd.prog W 0 (fun _ => true) true 36 v2 d2 p2) (h3 : DataW.Trod enc Tryd.prog W 0 (fun _ => true) true 23 v3 d3 p3) (h4 : DataW.Trod enc Tryd.prog W 0 (fun _ => true) true 23 v4 d4 p4)
    (o0 : Value.okWide Tryd.prog W .any base 27 v0) (o1 : Value.okWide Tryd.prog W .any base 35 v1) (o2 : Value.okWide Tryd.prog W .any base 36 v2) (o3 : Value.okWide Tryd.prog W .any base 23 v3) (o4 : Value.okWide Tryd.prog W .any base 23 v4)
    (w0 : Light Tryd.prog 27 d0) (w1 : Light Tryd.prog 35 d1) (w2 : Light Tryd.prog 36 d2) (w3 : Light Tryd.prog 23 d3) (w4 : Light Tryd.prog 23 d4) (hL : laidMetH Tryd.prog Rows.carryNeedsRow.laid W) (hk : Rows.uptoBulkAll [d0, d1, d2, d3, d4] ≤ 1048576) :
    Calls Tryd.prog 3 #[v0, v1, v2, v3, v4] W fun e W' => e = .returned (.bool true) ∧ Below W.heap.size W W' := by
  have b0 : Rows.uptoBulk d0 ≤ 1048576 := Nat.le_trans (bulkO_mem (by simp)) hk
  obtain ⟨c0, rfl, z0⟩ := okWide_struct Tryd.underlying27 o0
  obtain ⟨f0_, e0⟩ := h0
  obtain ⟨p1, p2, p3, p4, p5, p6, k0, s_p1, s_p2, s_p3, s_p4, s_p5, s_p6⟩ := open_pose e0
  obtain rfl := arr_eq k0
  obtain ⟨x_p1, g_p1, r_p1⟩ := RawT.any p1 1048576 (by decide) (Nat.le_trans s_p1.1 b0) (Nat.le_trans s_p1.2 b0)
  obtain ⟨x_p2, g_p2, r_p2⟩ := RawT.any p2 1048576 (by decide) (Nat.le_trans s_p2.1 b0) (Nat.le_trans s_p2.2 b0)
  obtain ⟨x_p3, g_p3, r_p3⟩ := RawT.any p3 1048576 (by decide) (Nat.le_trans s_p3.1 b0) (Nat.le_trans s_p3.2 b0)
  obtain ⟨x_p4, g_p4, r_p4⟩ := RawT.any p4 1048576 (by decide) (Nat.le_trans s_p4.1 b0) (Nat.le_trans s_p4.2 b0)
  obtain ⟨x_p5, g_p5, r_p5⟩ := RawT.any p5 1048576 (by decide) (Nat.le_trans s_p5.1 b0) (Nat.le_trans s_p5.2 b0)
  obtain ⟨x_p6, g_p6, r_p6⟩ := RawT.any p6 1048576 (by decide) (Nat.le_trans s_p6.1 b0) (Nat.le_trans s_p6.2 b0)
  obtain ⟨lo_p0, hi_p0, gg_p0, S_p0⟩ := RawS.any r_p1 r_p2
  obtain ⟨lo_p1, hi_p1, gg_p1, S_p1⟩ := RawS.any r_p3 r_p4
  obtain ⟨lo_p2, hi_p2, gg_p2, S_p2⟩ := RawS.any r_p5 r_p6
  have b1 : Rows.uptoBulk d1 ≤ 1048576 := Nat.le_trans (bulkO_mem (by simp)) hk
  obtain ⟨c1, rfl, z1⟩ := okWide_struct Tryd.underlying35 o1
  obtain ⟨f1_, e1⟩ := h1
  obtain ⟨sn, s1, s2, sh, s3, s4, k1, s_s1, s_s2, s_s3, s_s4⟩ := open_slot e1
  obtain rfl := arr_eq k1
  obtain ⟨x_s1, g_s1, r_s1⟩ := RawT.any s1 1048576 (by decide) (Nat.le_trans s_s1.1 b1) (Nat.le_trans s_s1.2 b1)
  obtain ⟨x_s2, g_s2, r_s2⟩ := RawT.any s2 1048576 (by decide) (Nat.le_trans s_s2.1 b1) (Nat.le_trans s_s2.2 b1)
  obtain ⟨x_s3, g_s3, r_s3⟩ := RawT.any s3 1048576 (by decide) (Nat.le_trans s_s3.1 b1) (Nat.le_trans s_s3.2 b1)
  obtain ⟨x_s4, g_s4, r_s4⟩ := RawT.any s4 1048576 (by decide) (Nat.le_trans s_s4.1 b1) (Nat.le_trans s_s4.2 b1)
  have b2 : Rows.uptoBulk d2 ≤ 1048576 := Nat.le_trans (bulkO_mem (by simp)) hk
  obtain ⟨A2, n2, c2, G2, H2, rfl, hnc2, hn2, hWI2⟩ := open_ways h2 o2 b2
  have b3 : Rows.uptoBulk d3 ≤ 1048576 := Nat.le_trans (bulkO_mem (by simp)) hk
  obtain ⟨c3, rfl, z3⟩ := okWide_struct Tryd.underlying23 o3
  obtain ⟨f3_, e3⟩ := h3
  obtain ⟨b1, k3, s_b1⟩ := open_rat e3
  obtain rfl := arr_eq k3
  obtain ⟨x_b1, g_b1, r_b1⟩ := RawT.any b1 1048576 (by decide) (Nat.le_trans s_b1.1 b3) (Nat.le_trans s_b1.2 b3)
  have b4 : Rows.uptoBulk d4 ≤ 1048576 := Nat.le_trans (bulkO_mem (by simp)) hk
  obtain ⟨c4, rfl, z4⟩ := okWide_struct Tryd.underlying23 o4
  obtain ⟨f4_, e4⟩ := h4
  obtain ⟨u1, k4, s_u1⟩ := open_rat e4
  obtain rfl := arr_eq k4
  obtain ⟨x_u1, g_u1, r_u1⟩ := RawT.any u1 1048576 (by decide) (Nat.le_trans s_u1.1 b4) (Nat.le_trans s_u1.2 b4)
  have hT := tab_of (by kernel_rfl) hL
  by_cases hc : n2 ≤ 40
  · exact carryNeeds_law (k := 1048576) hT S_p0 S_p1 S_p2 r_b1 r_u1 hWI2 r_s1 r_s2 r_s3 r_s4 hc (by decide) (by decide) W St.start
  · exact carryNeeds_big (k := 1048576) hT S_p0 S_p1 S_p2 r_b1 r_u1 hWI2 r_s1 r_s2 r_s3 r_s4 (by omega) (by omega) (by decide) (by decide) W St.start
end Go.Proofs.YtoejojfjiikogaaDoor
