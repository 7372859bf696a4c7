/- TypesBinds, from its arguments. -/
import Derived.Test.YtekbpiooecdopaaDoorTyL

namespace Go.Proofs.YtekbpiooecdopaaDoor
open Go.RowKit Go.ChangeShapes Go.WideShapes Go.Deep
set_option linter.unusedVariables false

theorem maxL_of {w : World} (h : w.ShapedOpen Tryd.prog) : MaxL w := by
  obtain ⟨m, hm⟩ := Tryd.laysM219.s1_3 w h
  have hm' : w.cell? ⟨0, 0, none⟩ = some (.int .i64 m) := hm
  refine ⟨?_, m, hm'⟩
  rcases Nat.eq_zero_or_pos w.heap.size with h0 | h0
  · exfalso
    have : w.heap[0]? = none := Array.getElem?_eq_none (by omega)
    unfold World.cell? at hm'
    simp [this] at hm'
  · exact h0
section
variable {H : Type} {enc : TypeId × Value → H} {w : World} {base : Nat} {held : Bool} {fuel : Nat} {cs : List Value} {x : DataW H × List MemPlace}
set_option maxRecDepth 20000 in
theorem open_stmt (h : DataW.trod enc Tryd.prog w base (fun _ => true) held fuel 33 cs = some x) : ∃ k n A B t X nb cb, cs = (stC k n A B t (.slice X nb cb)).toList ∧ A.size ≤ Rows.uptoBulk x.1 ∧ B.size ≤ Rows.uptoBulk x.1 ∧ t.sz (Rows.uptoBulk x.1) := by
  have hl := (open_struct_b Tryd.underlying33 h).1
  rw [show Tryd.prog.cellsOf 33 = 8 by kernel_rfl] at hl
  obtain ⟨y0, m0, h0, b0⟩ := open_field_b Tryd.underlying33 h 0 (T := 3) (off := 0) (c := 1) rfl (by kernel_rfl)
  obtain ⟨y1, m1, h1, b1⟩ := open_field_b Tryd.underlying33 h 1 (T := 9) (off := 1) (c := 1) rfl (by kernel_rfl)
  obtain ⟨y2, m2, h2, b2⟩ := open_field_b Tryd.underlying33 h 2 (T := 9) (off := 2) (c := 1) rfl (by kernel_rfl)
  obtain ⟨y3, m3, h3, b3⟩ := open_field_b Tryd.underlying33 h 3 (T := 28) (off := 3) (c := 3) rfl (by kernel_rfl)
  obtain ⟨y4, m4, h4, b4⟩ := open_field_b Tryd.underlying33 h 4 (T := 3) (off := 6) (c := 1) rfl (by kernel_rfl)
  obtain ⟨y5, m5, h5, b5⟩ := open_field_b Tryd.underlying33 h 5 (T := 31) (off := 7) (c := 1) rfl (by kernel_rfl)
  obtain ⟨k, e0, _⟩ := DataW.trod_int Tryd.underlying3 h0
  obtain ⟨A, e1, x1, _⟩ := DataW.trod_string Tryd.underlying9 h1
  obtain ⟨B, e2, x2, _⟩ := DataW.trod_string Tryd.underlying9 h2
  obtain ⟨t, e3, st⟩ := open_rat h3
  obtain ⟨n, e4, _⟩ := DataW.trod_int Tryd.underlying3 h4
  obtain ⟨X, nb, cb, e5⟩ := open_slc Tryd.underlying31 h5
  refine ⟨k, n, A, B, t, X, nb, cb, ?_, ?_, ?_, st.more (by omega)⟩
  · match cs, hl with
    | [a, b, c, d, e, f, g, i], _ =>
      simp [RT.c] at e0 e1 e2 e3 e4 e5
      obtain ⟨e3, e6, e7⟩ := e3
      subst e0 e1 e2 e3 e4 e5 e6 e7
      rfl
  · rw [x1] at b1
    simp only [Rows.uptoBulk] at b1
    have hl : A.data.toList.length = A.size := Array.length_toList
    omega
  · rw [x2] at b2
    simp only [Rows.uptoBulk] at b2
    have hl : B.data.toList.length = B.size := Array.length_toList
    omega
end
set_option maxRecDepth 20000 in
theorem typesBinds_walk {H : Type} {enc : TypeId × Value → H} (W : World) (v0 v1 v2 : Value) {d0 d1 d2 : DataW H} {p0 p1 p2 : List MemPlace} {base : Nat}
    (h0 : DataW.Trod enc Tryd.prog W 0 (fun _ => true) true 30 v0 d0 p0) (h1 : DataW.Trod enc Tryd.prog W 0 (fun _ => true) true 9 v1 d1 p1) (h2 : DataW.Trod enc Tryd.prog W 0 (fun _ => true) true 33 v2 d2 p2)
    (o0 : Value.okWide Tryd.prog W .any base 30 v0) (o1 : Value.okWide Tryd.prog W .any base 9 v1) (o2 : Value.okWide Tryd.prog W .any base 33 v2)
    (w0 : Light Tryd.prog 30 d0) (w1 : Light Tryd.prog 9 d1) (w2 : Light Tryd.prog 33 d2) (hL : laidMetH Tryd.prog Rows.typesBindsRow.laid W) (hk : Rows.uptoBulkAll [d0, d1, d2] ≤ 1048576) (hS : W.ShapedOpen Tryd.prog) :
    Calls Tryd.prog 3 #[v0, v1, v2] W fun e W' => e = .returned (.bool true) ∧ Below W.heap.size W W' := by
  have b0 : Rows.uptoBulk d0 ≤ 1048576 := Nat.le_trans (bulkO_mem (by simp)) hk
  obtain ⟨c0, rfl, z0⟩ := okWide_struct Tryd.underlying30 o0
  obtain ⟨f0_, e0⟩ := h0
  obtain ⟨K, n0, n2, n3, n4, k0, hK⟩ := open_works e0 b0
  obtain rfl := arr_eq k0
  obtain ⟨s, rfl, _⟩ := ChangeMaps.open_string Tryd.underlying9 o1 h1
  have b2 : Rows.uptoBulk d2 ≤ 1048576 := Nat.le_trans (bulkO_mem (by simp)) hk
  obtain ⟨c2, rfl, z2⟩ := okWide_struct Tryd.underlying33 o2
  obtain ⟨f2_, e2⟩ := h2
  obtain ⟨k, n, A, B, t, X, nb, cb, k2, sA, sB, st⟩ := open_stmt e2
  obtain rfl := arr_eq k2
  obtain ⟨q, g, hq⟩ := RawT.any t 1048576 (by decide) (Nat.le_trans st.1 b2) (Nat.le_trans st.2 b2)
  exact typesBinds_main W (tab_of (by kernel_rfl) hL) hK hq (Nat.le_trans sA b2) (Nat.le_trans sB b2) (maxL_of hS)
end Go.Proofs.YtekbpiooecdopaaDoor
