/- Facts that came in. -/
import Derived.Test.YtnaiflokmihmeaaFacG
import Derived.Test.YtnaiflokmihmeaaOpen
namespace Go.Proofs.Ytnaiflokmihmeaa
open Go.RowKit Go.ChangeShapes Go.WideShapes Go.Deep
set_option linter.unusedVariables false
set_option linter.unusedSimpArgs false

def okI (x : Int) : Prop := -9223372036854775808 ≤ x ∧ x ≤ 9223372036854775807
set_option maxRecDepth 20000 in
/-- a fact that came in -/
theorem open_fact {H : Type} {enc : TypeId × Value → H} {w : World} {base b0 : Nat} {v : Value} {d : DataW H} {p : List MemPlace} {r : Reach} {held : Bool}
    (h : DataW.Trod enc Try.prog w base (fun _ => true) held 45 v d p) (o : Value.okWide Try.prog w r b0 45 v) : ∃ f : Ft, v = valF f ∧ okI f.k ∧ okI f.a ∧ okI f.b := by
  obtain ⟨cs, rfl, hsz⟩ := okWide_struct Try.underlying45 o
  have hsz3 : cs.size = 3 := by rw [hsz]; kernel_rfl
  obtain ⟨fuel, hf⟩ := h
  obtain ⟨n, hfs⟩ := open_fields Try.underlying45 (by kernel_rfl) (cs := cs.toList) (by simpa using hsz3) hf
  obtain ⟨x0, y0, hx0, ht0⟩ := hfs 0 _ rfl
  obtain ⟨x1, y1, hx1, ht1⟩ := hfs 1 _ rfl
  obtain ⟨x2, y2, hx2, ht2⟩ := hfs 2 _ rfl
  obtain ⟨i0, rfl, q0⟩ := open_i64 Try.underlying3 ht0
  obtain ⟨i1, rfl, q1⟩ := open_i64 Try.underlying3 ht1
  obtain ⟨i2, rfl, q2⟩ := open_i64 Try.underlying3 ht2
  refine ⟨⟨i0, i1, i2⟩, ?_, wf_i64 q0, wf_i64 q1, wf_i64 q2⟩
  have : cs = #[.int .i64 i0, .int .i64 i1, .int .i64 i2] := by
    apply Array.ext (by simpa using hsz3)
    intro i h1 h2
    simp at hx0 hx1 hx2
    simp only [hsz3] at h1
    have h3 : i = 0 ∨ i = 1 ∨ i = 2 := by omega
    rcases h3 with rfl | rfl | rfl <;> simp_all
  rw [this]
  rfl
set_option maxRecDepth 20000 in
/-- facts that came in -/
theorem open_facts {H : Type} {enc : TypeId × Value → H} {w : World} {base b0 : Nat} {held : Bool} {v : Value} {d : DataW H} {p : List MemPlace} {r : Reach}
    (h : DataW.Trod enc Try.prog w base (fun _ => true) held 43 v d p) (o : Value.okWide Try.prog w r b0 43 v) (hl : Light Try.prog 43 d) :
    ∃ A c ss, v = .slice A (List.length ss) c ∧ ss.length ≤ c ∧ c ≤ maxLen ∧ ss.length * 24 ≤ 140737488351232 ∧ FactsAt w w.heap.size A ss := by
  obtain ⟨A, len, cap, rfl⟩ := okWide_slice Try.underlying43 o
  obtain ⟨fuel, hf⟩ := h
  obtain ⟨A', len', cap', hcs, hlc, hm, hrb, hi⟩ := open_elems_w (C := 3) Try.underlying43 (by kernel_rfl) (by omega) hf hl
  simp [Value.cells] at hcs
  obtain ⟨rfl, rfl, rfl⟩ := hcs
  have hb24 : Try.prog.bytesOf 45 = 24 := by kernel_rfl
  rw [hb24] at hrb
  unfold reachBytes at hrb
  obtain ⟨ss, hss, hr⟩ := list_of (n := len) (R := fun k (s : Ft) => ∃ b off, A = some ⟨b, off, none⟩ ∧ b < w.heap.size ∧ ∀ j v, (valG s)[j]? = some v → w.cell? ⟨b, off + (k*3+j), none⟩ = some v) (by
    intro i hlt
    obtain ⟨b, off, cs', n', y, hA, hb, hlen, hc, ht, _⟩ := hi i hlt
    obtain ⟨n, hfs⟩ := open_fields Try.underlying45 (by kernel_rfl) hlen ht
    obtain ⟨x0, y0, hx0, ht0⟩ := hfs 0 _ rfl
    obtain ⟨x1, y1, hx1, ht1⟩ := hfs 1 _ rfl
    obtain ⟨x2, y2, hx2, ht2⟩ := hfs 2 _ rfl
    obtain ⟨i0, rfl, _⟩ := open_i64 Try.underlying3 ht0
    obtain ⟨i1, rfl, _⟩ := open_i64 Try.underlying3 ht1
    obtain ⟨i2, rfl, _⟩ := open_i64 Try.underlying3 ht2
    refine ⟨⟨i0, i1, i2⟩, b, off, hA, hb, fun j v hj => ?_⟩
    rcases j with _ | _ | _ | j
    · have := Option.some.inj hj; subst this; exact hc 0 _ hx0
    · have := Option.some.inj hj; subst this; exact hc 1 _ hx1
    · have := Option.some.inj hj; subst this; exact hc 2 _ hx2
    · simp [valG] at hj)
  exact ⟨A, cap, ss, by rw [hss], by omega, hm, by omega, fun k u hu => hr k u hu⟩
end Go.Proofs.Ytnaiflokmihmeaa
