/- SeeSays: the walk from the arguments as they come. -/
import Derived.Test.YtdhhbpnnahdofaaDoorSeeSaysA
import Derived.Test.YtdhhbpnnahdofaaDoorSeeSaysB
import Derived.Test.YtdhhbpnnahdofaaDoorSeO
import Derived.OpenShut
import Derived.ProofKit

namespace Go.Proofs.YtdhhbpnnahdofaaDoor
open Go.RowKit Go.ChangeShapes Go.WideShapes
set_option linter.unusedVariables false
set_option maxRecDepth 100000

theorem seeSays_walk {H : Type} {enc : TypeId × Value → H} (W : World) (v0 v1 v2 v3 v4 : Value) {d0 d1 d2 d3 d4 : DataW H} {p0 p1 p2 p3 p4 : List MemPlace} {base : Nat}
    (h0 : DataW.Trod enc Tryd.prog W 0 (fun _ => true) true 36 v0 d0 p0) (h1 : DataW.Trod enc Tryd.prog W 0 (fun _ => true) true 36 v1 d1 p1) (h2 : DataW.Trod enc Tryd.prog W 0 (fun _ => true) true 42 v2 d2 p2) (h3 : DataW.Trod enc Tryd.prog W 0 (fun _ => true) true 32 v3 d3 p3) (h4 : DataW.Trod enc Tryd.prog W 0 (fun _ => true) true 32 v4 d4 p4)
    (o0 : Value.okWide Tryd.prog W .any base 36 v0) (o1 : Value.okWide Tryd.prog W .any base 36 v1) (o2 : Value.okWide Tryd.prog W .any base 42 v2) (o3 : Value.okWide Tryd.prog W .any base 32 v3) (o4 : Value.okWide Tryd.prog W .any base 32 v4)
    (w0 : Light Tryd.prog 36 d0) (w1 : Light Tryd.prog 36 d1) (w2 : Light Tryd.prog 42 d2) (w3 : Light Tryd.prog 32 d3) (w4 : Light Tryd.prog 32 d4) (hL : laidMetH Tryd.prog Rows.seeSaysRow.laid W) (hk : Rows.uptoBulkAll [d0, d1, d2, d3, d4] ≤ 1048576) :
    Calls Tryd.prog 4 #[v0, v1, v2, v3, v4] W fun e W' => e = .returned (.bool true) ∧ Below W.heap.size W W' := by
  have b0 : Rows.uptoBulk d0 ≤ 1048576 := Nat.le_trans (bulkO_mem (by simp)) hk
  obtain ⟨c0, rfl, z0⟩ := okWide_struct Tryd.underlying36 o0
  obtain ⟨f0_, e0⟩ := h0
  obtain ⟨p1, p2, p3, p4, p5, p6, k0, s_p1, s_p2, s_p3, s_p4, s_p5, s_p6⟩ := open_pose e0
  obtain rfl := arr_eq k0
  obtain ⟨x_p1, g_p1, r_p1⟩ := RawT.any p1 1048576 (by decide) (Nat.le_trans s_p1.1 b0) (Nat.le_trans s_p1.2 b0)
  obtain ⟨x_p2, g_p2, r_p2⟩ := RawT.any p2 1048576 (by decide) (Nat.le_trans s_p2.1 b0) (Nat.le_trans s_p2.2 b0)
  obtain ⟨x_p3, g_p3, r_p3⟩ := RawT.any p3 1048576 (by decide) (Nat.le_trans s_p3.1 b0) (Nat.le_trans s_p3.2 b0)
  obtain ⟨x_p4, g_p4, r_p4⟩ := RawT.any p4 1048576 (by decide) (Nat.le_trans s_p4.1 b0) (Nat.le_trans s_p4.2 b0)
  obtain ⟨x_p5, g_p5, r_p5⟩ := RawT.any p5 1048576 (by decide) (Nat.le_trans s_p5.1 b0) (Nat.le_trans s_p5.2 b0)
  obtain ⟨x_p6, g_p6, r_p6⟩ := RawT.any p6 1048576 (by decide) (Nat.le_trans s_p6.1 b0) (Nat.le_trans s_p6.2 b0)
  have b1 : Rows.uptoBulk d1 ≤ 1048576 := Nat.le_trans (bulkO_mem (by simp)) hk
  obtain ⟨c1, rfl, z1⟩ := okWide_struct Tryd.underlying36 o1
  obtain ⟨f1_, e1⟩ := h1
  obtain ⟨q1, q2, q3, q4, q5, q6, k1, s_q1, s_q2, s_q3, s_q4, s_q5, s_q6⟩ := open_pose e1
  obtain rfl := arr_eq k1
  obtain ⟨x_q1, g_q1, r_q1⟩ := RawT.any q1 1048576 (by decide) (Nat.le_trans s_q1.1 b1) (Nat.le_trans s_q1.2 b1)
  obtain ⟨x_q2, g_q2, r_q2⟩ := RawT.any q2 1048576 (by decide) (Nat.le_trans s_q2.1 b1) (Nat.le_trans s_q2.2 b1)
  obtain ⟨x_q3, g_q3, r_q3⟩ := RawT.any q3 1048576 (by decide) (Nat.le_trans s_q3.1 b1) (Nat.le_trans s_q3.2 b1)
  obtain ⟨x_q4, g_q4, r_q4⟩ := RawT.any q4 1048576 (by decide) (Nat.le_trans s_q4.1 b1) (Nat.le_trans s_q4.2 b1)
  obtain ⟨x_q5, g_q5, r_q5⟩ := RawT.any q5 1048576 (by decide) (Nat.le_trans s_q5.1 b1) (Nat.le_trans s_q5.2 b1)
  obtain ⟨x_q6, g_q6, r_q6⟩ := RawT.any q6 1048576 (by decide) (Nat.le_trans s_q6.1 b1) (Nat.le_trans s_q6.2 b1)
  have b2 : Rows.uptoBulk d2 ≤ 1048576 := Nat.le_trans (bulkO_mem (by simp)) hk
  obtain ⟨c2, rfl, z2⟩ := okWide_struct Tryd.underlying42 o2
  obtain ⟨f2_, e2⟩ := h2
  obtain ⟨f1, f2, fh, f3, k2, s_f1, s_f2, s_f3⟩ := open_frame e2
  obtain rfl := arr_eq k2
  obtain ⟨x_f1, g_f1, r_f1⟩ := RawT.any f1 1048576 (by decide) (Nat.le_trans s_f1.1 b2) (Nat.le_trans s_f1.2 b2)
  obtain ⟨x_f2, g_f2, r_f2⟩ := RawT.any f2 1048576 (by decide) (Nat.le_trans s_f2.1 b2) (Nat.le_trans s_f2.2 b2)
  obtain ⟨x_f3, g_f3, r_f3⟩ := RawT.any f3 1048576 (by decide) (Nat.le_trans s_f3.1 b2) (Nat.le_trans s_f3.2 b2)
  have b3 : Rows.uptoBulk d3 ≤ 1048576 := Nat.le_trans (bulkO_mem (by simp)) hk
  obtain ⟨c3, rfl, z3⟩ := okWide_struct Tryd.underlying32 o3
  obtain ⟨f3_, e3⟩ := h3
  obtain ⟨b1, k3, s_b1⟩ := open_rat e3
  obtain rfl := arr_eq k3
  obtain ⟨x_b1, g_b1, r_b1⟩ := RawT.any b1 1048576 (by decide) (Nat.le_trans s_b1.1 b3) (Nat.le_trans s_b1.2 b3)
  have b4 : Rows.uptoBulk d4 ≤ 1048576 := Nat.le_trans (bulkO_mem (by simp)) hk
  obtain ⟨c4, rfl, z4⟩ := okWide_struct Tryd.underlying32 o4
  obtain ⟨f4_, e4⟩ := h4
  obtain ⟨u1, k4, s_u1⟩ := open_rat e4
  obtain rfl := arr_eq k4
  obtain ⟨x_u1, g_u1, r_u1⟩ := RawT.any u1 1048576 (by decide) (Nat.le_trans s_u1.1 b4) (Nat.le_trans s_u1.2 b4)
  obtain ⟨lo_p0, hi_p0, gg_p0, S_p0⟩ := RawS.any r_p1 r_p2
  obtain ⟨lo_p1, hi_p1, gg_p1, S_p1⟩ := RawS.any r_p3 r_p4
  obtain ⟨lo_p2, hi_p2, gg_p2, S_p2⟩ := RawS.any r_p5 r_p6
  obtain ⟨lo_q0, hi_q0, gg_q0, S_q0⟩ := RawS.any r_q1 r_q2
  obtain ⟨lo_q1, hi_q1, gg_q1, S_q1⟩ := RawS.any r_q3 r_q4
  obtain ⟨lo_q2, hi_q2, gg_q2, S_q2⟩ := RawS.any r_q5 r_q6
  have hT := tab_of (by kernel_rfl) hL
  cases hq : okQ lo_p0 hi_p0 lo_p1 hi_p1 lo_p2 hi_p2 lo_q0 hi_q0 lo_q1 hi_q1 lo_q2 hi_q2 with
  | true => exact seeSays_yes (k := 1048576) hT S_p0 S_p1 S_p2 S_q0 S_q1 S_q2 r_f1 r_f2 r_f3 r_b1 r_u1 hq (by decide) (by decide) W St.start
  | false => exact seeSays_no (k := 1048576) hT S_p0 S_p1 S_p2 S_q0 S_q1 S_q2 r_f1 r_f2 r_f3 r_b1 r_u1 hq (by decide) (by decide) W St.start
end Go.Proofs.YtdhhbpnnahdofaaDoor
