/- Uses that came in; a fact about tools. -/
import Derived.Test.YtogjfmgecnoceaaToolsC
import Derived.Test.YtogjfmgecnoceaaToolsD
import Derived.Test.YtogjfmgecnoceaaOpen
namespace Go.Proofs.Ytogjfmgecnoceaa
open Go.RowKit Go.ChangeShapes Go.WideShapes Go.Deep
set_option linter.unusedVariables false
set_option linter.unusedSimpArgs false

set_option maxRecDepth 20000 in
/-- uses that came in -/
theorem open_uses {H : Type} {enc : TypeId × Value → H} {w : World} {base b0 : Nat} {spare : Nat → Bool} {held : Bool} {v : Value} {d : DataW H} {p : List MemPlace} {r : Reach}
    (h : DataW.Trod enc Try.prog w base spare held 99 v d p) (o : Value.okWide Try.prog w r b0 99 v) :
    ∃ A c us, v = .slice A (List.length us) c ∧ us.length ≤ c ∧ c ≤ maxLen ∧ UsesAt w w.heap.size A us := by
  obtain ⟨A, len, cap, rfl⟩ := okWide_slice Try.underlying99 o
  obtain ⟨fuel, hf⟩ := h
  obtain ⟨A', len', cap', hcs, hl, hm, hi⟩ := open_elems (C := 3) Try.underlying99 (by kernel_rfl) (by omega) hf
  simp [Value.cells] at hcs
  obtain ⟨rfl, rfl, rfl⟩ := hcs
  obtain ⟨us, hus, hr⟩ := list_of (n := len) (R := fun k (u : U) => ∃ b off, A = some ⟨b, off, none⟩ ∧ b < w.heap.size ∧ w.cell? ⟨b, off + k*3, none⟩ = some (.int .i64 u.t) ∧ w.cell? ⟨b, off + k*3+1, none⟩ = some (.int .i64 u.f) ∧ w.cell? ⟨b, off + k*3+2, none⟩ = some (.int .i64 u.l)) (by
    intro i hlt
    obtain ⟨b, off, cs', n', y, hA, hb, hlen, hc, ht⟩ := hi i hlt
    obtain ⟨n, hfs⟩ := open_fields Try.underlying102 (by kernel_rfl) hlen ht
    obtain ⟨x0, y0, hx0, ht0⟩ := hfs 0 _ rfl
    obtain ⟨x1, y1, hx1, ht1⟩ := hfs 1 _ rfl
    obtain ⟨x2, y2, hx2, ht2⟩ := hfs 2 _ rfl
    obtain ⟨i0, rfl, _⟩ := open_i64 Try.underlying3 ht0
    obtain ⟨i1, rfl, _⟩ := open_i64 Try.underlying3 ht1
    obtain ⟨i2, rfl, _⟩ := open_i64 Try.underlying3 ht2
    exact ⟨⟨i0, i1, i2⟩, b, off, hA, hb, hc 0 _ hx0, hc 1 _ hx1, hc 2 _ hx2⟩)
  exact ⟨A, cap, us, by rw [hus], by omega, hm, fun k u hu => hr k u hu⟩

set_option maxRecDepth 20000 in
theorem tooled_any (w : World) : Calls Try.prog 14 #[] w fun e w' => e = .returned (.bool true) ∧ Below w.heap.size w w' := by
  have hf : firstU [⟨0,0,5⟩,⟨0,6,4⟩] ⟨0,0,2⟩ = (10, 0) := by decide +kernel
  have HF := Lib.hid hf; clear hf
  have hok : okU ⟨5,1,1⟩ = true := by decide
  have HOK := Lib.hid hok; clear hok
  go_enter Try.func14, Try.ntmps14
  go_wp2_with fail
  refine (first_any [⟨0,0,5⟩,⟨0,6,4⟩] _ _ _ _ _ _ _ rfl (by simp) (by unfold maxLen; omega) ?_).mono ?_
  · intro k u hu
    match k, hu with
    | 0, hu => simp at hu; subst hu; exact ⟨w.heap.size, 0, rfl, by simp, by simp, by simp, by simp⟩
    | 1, hu => simp at hu; subst hu; exact ⟨w.heap.size, 0, rfl, by simp, by simp, by simp, by simp⟩
    | k+2, hu => simp at hu
  rw [HF.out]
  rintro e w1 ⟨rfl, hb1⟩
  go_wp2_with fail
  refine (valid_is _ _ _ _ HOK.out).mono ?_
  rintro e w2 ⟨rfl, hb2⟩
  go_wp2_with fail
  go_ret
  exact ⟨rfl, (((Below.refl _ _).alloc (Nat.le_refl _) _).trans (hb1.mono (by simp))).trans (hb2.mono (by have := hb1.size; simp at this; omega))⟩

end Go.Proofs.Ytogjfmgecnoceaa
