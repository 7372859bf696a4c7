/- ToolsChecks: the walk of the law, its arguments opened. No condition. -/
import Derived.Test.YtkoibebejhmpaaaToolsChecks
namespace Go.Proofs.Ytkoibebejhmpaaa
open Go.RowKit Go.ChangeShapes Go.WideShapes Go.Deep
set_option linter.unusedVariables false

/-- uses that came in, with their weight -/
theorem open_uses_w {H : Type} {enc : TypeId × Value → H} {w : World} {base b0 : Nat} {held : Bool} {v : Value} {d : DataW H} {p : List MemPlace} {r : Reach}
    (h : DataW.Trod enc Try.prog w base (fun _ => true) held 22 v d p) (o : Value.okWide Try.prog w r b0 22 v) (l : Light Try.prog 22 d) :
    ∃ A c us, v = .slice A (List.length us) c ∧ us.length ≤ c ∧ c ≤ maxLen ∧ c * 24 ≤ 140737488351232 ∧ UsesAt w w.heap.size A us := by
  obtain ⟨A, len, cap, rfl⟩ := okWide_slice Try.underlying22 o
  obtain ⟨fuel, hf⟩ := h
  obtain ⟨A', len', cap', hcs, hl, hm, hr24, hi⟩ := open_elems_w (C := 3) Try.underlying22 (by kernel_rfl) (by omega) hf l
  simp [Value.cells] at hcs
  obtain ⟨rfl, rfl, rfl⟩ := hcs
  obtain ⟨us, hus, hr⟩ := list_of (n := len) (R := fun k (u : U) => ∃ b off, A = some ⟨b, off, none⟩ ∧ b < w.heap.size ∧ w.cell? ⟨b, off + k*3, none⟩ = some (.int .i64 u.t) ∧ w.cell? ⟨b, off + k*3+1, none⟩ = some (.int .i64 u.f) ∧ w.cell? ⟨b, off + k*3+2, none⟩ = some (.int .i64 u.l)) (by
    intro i hlt
    obtain ⟨b, off, cs', n', y, hA, hb, hlen, hc, ht, _⟩ := hi i hlt
    obtain ⟨n, hfs⟩ := open_fields Try.underlying29 (by kernel_rfl) hlen ht
    obtain ⟨x0, y0, hx0, ht0⟩ := hfs 0 _ rfl
    obtain ⟨x1, y1, hx1, ht1⟩ := hfs 1 _ rfl
    obtain ⟨x2, y2, hx2, ht2⟩ := hfs 2 _ rfl
    obtain ⟨i0, rfl, _⟩ := open_i64 Try.underlying3 ht0
    obtain ⟨i1, rfl, _⟩ := open_i64 Try.underlying3 ht1
    obtain ⟨i2, rfl, _⟩ := open_i64 Try.underlying3 ht2
    exact ⟨⟨i0, i1, i2⟩, b, off, hA, hb, hc 0 _ hx0, hc 1 _ hx1, hc 2 _ hx2⟩)
  have hb24 : Try.prog.bytesOf 29 = 24 := by kernel_rfl
  rw [hb24] at hr24
  exact ⟨A, cap, us, by rw [hus], by omega, hm, hr24, fun k u hu => hr k u hu⟩

theorem open_use {H : Type} {enc : TypeId × Value → H} {w : World} {base b0 : Nat} {spare : Nat → Bool} {held : Bool} {v : Value} {d : DataW H} {p : List MemPlace} {r : Reach}
    (h : DataW.Trod enc Try.prog w base spare held 29 v d p) (o : Value.okWide Try.prog w r b0 29 v) : ∃ u : U, v = u.v := by
  obtain ⟨cs, rfl, hsz⟩ := okWide_struct Try.underlying29 o
  obtain ⟨fuel, hf⟩ := h
  have h3 : Try.prog.cellsOf 29 = 3 := by kernel_rfl
  rw [h3] at hsz
  obtain ⟨n, hfs⟩ := open_fields Try.underlying29 (by kernel_rfl) (by simpa [Value.cells] using hsz) hf
  obtain ⟨x0, y0, hx0, ht0⟩ := hfs 0 _ rfl
  obtain ⟨x1, y1, hx1, ht1⟩ := hfs 1 _ rfl
  obtain ⟨x2, y2, hx2, ht2⟩ := hfs 2 _ rfl
  obtain ⟨i0, rfl, _⟩ := open_i64 Try.underlying3 ht0
  obtain ⟨i1, rfl, _⟩ := open_i64 Try.underlying3 ht1
  obtain ⟨i2, rfl, _⟩ := open_i64 Try.underlying3 ht2
  refine ⟨⟨i0, i1, i2⟩, ?_⟩
  obtain ⟨l⟩ := cs
  match l, hsz with
  | [a, b, c], _ =>
    simp [Value.cells] at hx0 hx1 hx2
    subst hx0 hx1 hx2
    rfl

theorem toolsChecks_walk {H : Type} {enc : TypeId × Value → H} (W : World) (v0 v1 v2 v3 v4 v5 : Value) {d0 d1 d2 d3 d4 d5 : DataW H} {p0 p1 p2 p3 p4 p5 : List MemPlace} {base : Nat}
    (h0 : DataW.Trod enc Try.prog W 0 (fun _ => true) true 22 v0 d0 p0) (h1 : DataW.Trod enc Try.prog W 0 (fun _ => true) true 29 v1 d1 p1) (h2 : DataW.Trod enc Try.prog W 0 (fun _ => true) true 29 v2 d2 p2) (h3 : DataW.Trod enc Try.prog W 0 (fun _ => true) true 3 v3 d3 p3) (h4 : DataW.Trod enc Try.prog W 0 (fun _ => true) true 3 v4 d4 p4) (h5 : DataW.Trod enc Try.prog W 0 (fun _ => true) true 3 v5 d5 p5)
    (o0 : Value.okWide Try.prog W .any base 22 v0) (o1 : Value.okWide Try.prog W .any base 29 v1) (o2 : Value.okWide Try.prog W .any base 29 v2) (o3 : Value.okWide Try.prog W .any base 3 v3) (o4 : Value.okWide Try.prog W .any base 3 v4) (o5 : Value.okWide Try.prog W .any base 3 v5)
    (w0 : Light Try.prog 22 d0) (w1 : Light Try.prog 29 d1) (w2 : Light Try.prog 29 d2) (w3 : Light Try.prog 3 d3) (w4 : Light Try.prog 3 d4) (w5 : Light Try.prog 3 d5) :
    Calls Try.prog 4 #[v0, v1, v2, v3, v4, v5] W fun e W' => e = .returned (.bool true) ∧ Below W.heap.size W W' := by
  obtain ⟨A, c, us, rfl, hl, hm, hr, hu⟩ := open_uses_w h0 o0 w0
  obtain ⟨u, rfl⟩ := open_use h1 o1
  obtain ⟨v, rfl⟩ := open_use h2 o2
  obtain ⟨t, rfl, _, _, _⟩ := open_int Try.underlying3 o3 h3
  obtain ⟨f, rfl, _, _, hf⟩ := open_int Try.underlying3 o4 h4
  obtain ⟨l, rfl, _, _, hl'⟩ := open_int Try.underlying3 o5 h5
  exact toolsChecks_core us A c u v t f l W hl hm hr hf hl' hu
end Go.Proofs.Ytkoibebejhmpaaa
