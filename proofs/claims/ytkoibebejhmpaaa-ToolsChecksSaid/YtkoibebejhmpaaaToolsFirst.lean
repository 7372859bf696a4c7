/- ToolsFirst: First returns what the reference says, for every list of uses and all arguments: the walk of the law, with no condition. -/
import Derived.Test.YtkoibebejhmpaaaToolsC
import Derived.Test.YtkoibebejhmpaaaToolsD
import Derived.Test.YtkoibebejhmpaaaOpen
namespace Go.Proofs.Ytkoibebejhmpaaa
open Go.RowKit Go.ChangeShapes Go.WideShapes Go.Deep
set_option linter.unusedVariables false
set_option linter.unusedSimpArgs false

/-- uses that came in -/
theorem open_uses {H : Type} {enc : TypeId × Value → H} {w : World} {base b0 : Nat} {spare : Nat → Bool} {held : Bool} {v : Value} {d : DataW H} {p : List MemPlace} {r : Reach}
    (h : DataW.Trod enc Try.prog w base spare held 22 v d p) (o : Value.okWide Try.prog w r b0 22 v) :
    ∃ A c us, v = .slice A (List.length us) c ∧ us.length ≤ c ∧ c ≤ maxLen ∧ UsesAt w w.heap.size A us := by
  obtain ⟨A, len, cap, rfl⟩ := okWide_slice Try.underlying22 o
  obtain ⟨fuel, hf⟩ := h
  obtain ⟨A', len', cap', hcs, hl, hm, hi⟩ := open_elems (C := 3) Try.underlying22 (by kernel_rfl) (by omega) hf
  simp [Value.cells] at hcs
  obtain ⟨rfl, rfl, rfl⟩ := hcs
  obtain ⟨us, hus, hr⟩ := list_of (n := len) (R := fun k (u : U) => ∃ b off, A = some ⟨b, off, none⟩ ∧ b < w.heap.size ∧ w.cell? ⟨b, off + k*3, none⟩ = some (.int .i64 u.t) ∧ w.cell? ⟨b, off + k*3+1, none⟩ = some (.int .i64 u.f) ∧ w.cell? ⟨b, off + k*3+2, none⟩ = some (.int .i64 u.l)) (by
    intro i hlt
    obtain ⟨b, off, cs', n', y, hA, hb, hlen, hc, ht⟩ := hi i hlt
    obtain ⟨n, hfs⟩ := open_fields Try.underlying29 (by kernel_rfl) hlen ht
    obtain ⟨x0, y0, hx0, ht0⟩ := hfs 0 _ rfl
    obtain ⟨x1, y1, hx1, ht1⟩ := hfs 1 _ rfl
    obtain ⟨x2, y2, hx2, ht2⟩ := hfs 2 _ rfl
    obtain ⟨i0, rfl, _⟩ := open_i64 Try.underlying3 ht0
    obtain ⟨i1, rfl, _⟩ := open_i64 Try.underlying3 ht1
    obtain ⟨i2, rfl, _⟩ := open_i64 Try.underlying3 ht2
    exact ⟨⟨i0, i1, i2⟩, b, off, hA, hb, hc 0 _ hx0, hc 1 _ hx1, hc 2 _ hx2⟩)
  exact ⟨A, cap, us, by rw [hus], by omega, hm, fun k u hu => hr k u hu⟩

theorem tooled_any (w : World) : Calls Try.prog 10 #[] w fun e w' => e = .returned (.bool true) ∧ Below w.heap.size w w' := by
  have hf : firstU [⟨0,0,5⟩,⟨0,6,4⟩] ⟨0,0,2⟩ = (10, 0) := by decide +kernel
  have HF := Lib.hid hf; clear hf
  have hok : okU ⟨5,1,1⟩ = true := by decide
  have HOK := Lib.hid hok; clear hok
  go_enter Try.func10, Try.ntmps10
  go_wp2_with fail
  refine (first_any [⟨0,0,5⟩,⟨0,6,4⟩] _ _ _ _ _ _ _ rfl (by simp) (by unfold maxLen; omega) ?_).mono ?_
  · intro k u hu
    match k, hu with
    | 0, hu => simp at hu; subst hu; exact ⟨w.heap.size, 0, rfl, by simp, by simp, by simp, by simp⟩
    | 1, hu => simp at hu; subst hu; exact ⟨w.heap.size, 0, rfl, by simp, by simp, by simp, by simp⟩
    | k+2, hu => simp at hu
  rw [HF.out]
  rintro e w1 ⟨rfl, hb1⟩
  go_wp2_with fail
  refine (valid_is _ _ _ _ HOK.out).mono ?_
  rintro e w2 ⟨rfl, hb2⟩
  go_wp2_with fail
  go_ret
  exact ⟨rfl, (((Below.refl _ _).alloc (Nat.le_refl _) _).trans (hb1.mono (by simp))).trans (hb2.mono (by have := hb1.size; simp at this; omega))⟩

/-- the law, the arguments opened -/
theorem toolsFirst_core (us : List U) (A : Option Addr) (c : Nat) (a f l : Int) (w : World) (hnc : us.length ≤ c) (hm : c ≤ maxLen) (h : UsesAt w w.heap.size A us) :
    Calls Try.prog 3 #[.slice A us.length c, .int .i64 a, .int .i64 f, .int .i64 l] w fun e w' => e = .returned (.bool true) ∧ Below w.heap.size w w' := by
  have H := Lib.hid h; clear h
  have HM := Lib.hid hm; clear hm
  generalize hn : us.length = n at *
  have HN := Lib.hid hn.symm; clear hn
  by_cases hchk : chk us = 0
  · cases hok : okU ⟨a, f, l⟩ with
    | false =>
      have hf : firstU us ⟨a,f,l⟩ = (0, 1) := firstU_arg hchk hok
      have HF := Lib.hid hf; clear hf
      have HOK := Lib.hid hok; clear hok
      have HC := Lib.hid hchk; clear hchk
      go_enter Try.func3, Try.ntmps3
      go_wp2_with fail
      refine (first_any us _ _ _ _ _ _ _ HN.out hnc HM.out H.out).mono ?_
      rw [HF.out]
      rintro e w1 ⟨rfl, hb1⟩
      go_wp2_with fail
      refine (fault_any us _ _ _ _ HN.out hnc HM.out ((H.out.below hb1 (Nat.le_refl _)).more hb1.size)).mono ?_
      rw [HC.out]
      rintro e w2 ⟨rfl, hb2⟩
      go_wp2_with fail
      refine (useis_is _ _ _ _ HOK.out).mono ?_
      rintro e w3 ⟨rfl, hb3⟩
      go_wp2_with fail
      refine (tooled_any _).mono ?_
      rintro e w4 ⟨rfl, hb4⟩
      go_wp2_with fail
      go_ret
      have := hb1.size; have := hb2.size; have := hb3.size
      exact ⟨rfl, ((hb1.trans (hb2.mono (by omega))).trans (hb3.mono (by omega))).trans (hb4.mono (by omega))⟩
    | true =>
      obtain ⟨t0, t1, f0, l0, l1, fl⟩ := okU_iff.1 hok
      dsimp only at t0 t1 f0 l0 l1 fl
      obtain ⟨a, rfl⟩ := Int.eq_ofNat_of_zero_le t0
      obtain ⟨f, rfl⟩ := Int.eq_ofNat_of_zero_le f0
      obtain ⟨l, rfl⟩ := Int.eq_ofNat_of_zero_le (show 0 ≤ l by omega)
      have hf : firstU us ⟨a,f,l⟩ = if ff us a f l < 0 then (0, 19) else (ff us a f l, 0) := by simp [firstU, hchk, hok]
      have hall := all_ok hchk
      have HALL := Lib.hid hall; clear hall
      have HF := Lib.hid hf; clear hf
      have HOK := Lib.hid hok; clear hok
      have HC := Lib.hid hchk; clear hchk
      by_cases hff : ff us a f l < 0
      · have HF2 := HF.out
        rw [if_pos hff] at HF2
        clear HF
        have HF := Lib.hid HF2; clear HF2
        generalize hx : ff us a f l = x at *
        have HX := Lib.hid hx; clear hx
        go_enter Try.func3, Try.ntmps3
        go_wp2_with fail
        refine (first_any us _ _ _ _ _ _ _ HN.out hnc HM.out H.out).mono ?_
        rw [HF.out]
        rintro e w1 ⟨rfl, hb1⟩
        go_wp2_with fail
        refine (fault_any us _ _ _ _ HN.out hnc HM.out ((H.out.below hb1 (Nat.le_refl _)).more hb1.size)).mono ?_
        rw [HC.out]
        rintro e w2 ⟨rfl, hb2⟩
        go_wp2_with fail
        refine (useis_is _ _ _ _ HOK.out).mono ?_
        rintro e w3 ⟨rfl, hb3⟩
        go_wp2_with fail
        refine (firstof_any us _ _ _ a f l _ HN.out hnc HM.out ?_ HALL.out (by omega) (by omega) (by omega)).mono ?_
        · have h12 := (hb1.trans (hb2.mono hb1.size)).trans (hb3.mono (Nat.le_trans hb1.size hb2.size))
          exact (H.out.below h12 (Nat.le_refl _)).more h12.size
        rw [HX.out]
        rintro e w4 ⟨rfl, hb4⟩
        go_wp2_with fail
        refine (tooled_any _).mono ?_
        rintro e w5 ⟨rfl, hb5⟩
        go_wp2_with fail
        go_ret
        have := hb1.size; have := hb2.size; have := hb3.size; have := hb4.size
        exact ⟨rfl, (((hb1.trans (hb2.mono (by omega))).trans (hb3.mono (by omega))).trans (hb4.mono (by omega))).trans (hb5.mono (by omega))⟩
      · have HF2 := HF.out
        rw [if_neg hff] at HF2
        clear HF
        generalize hx : ff us a f l = x at *
        have HF := Lib.hid HF2; clear HF2
        have HX := Lib.hid hx; clear hx
        go_enter Try.func3, Try.ntmps3
        go_wp2_with fail
        refine (first_any us _ _ _ _ _ _ _ HN.out hnc HM.out H.out).mono ?_
        rw [HF.out]
        rintro e w1 ⟨rfl, hb1⟩
        go_wp2_with fail
        refine (fault_any us _ _ _ _ HN.out hnc HM.out ((H.out.below hb1 (Nat.le_refl _)).more hb1.size)).mono ?_
        rw [HC.out]
        rintro e w2 ⟨rfl, hb2⟩
        go_wp2_with fail
        refine (useis_is _ _ _ _ HOK.out).mono ?_
        rintro e w3 ⟨rfl, hb3⟩
        go_wp2_with fail
        refine (firstof_any us _ _ _ a f l _ HN.out hnc HM.out ?_ HALL.out (by omega) (by omega) (by omega)).mono ?_
        · have h12 := (hb1.trans (hb2.mono hb1.size)).trans (hb3.mono (Nat.le_trans hb1.size hb2.size))
          exact (H.out.below h12 (Nat.le_refl _)).more h12.size
        rw [HX.out]
        rintro e w4 ⟨rfl, hb4⟩
        go_wp2_with fail
        refine (tooled_any _).mono ?_
        rintro e w5 ⟨rfl, hb5⟩
        go_wp2_with fail
        go_ret
        have := hb1.size; have := hb2.size; have := hb3.size; have := hb4.size
        exact ⟨rfl, (((hb1.trans (hb2.mono (by omega))).trans (hb3.mono (by omega))).trans (hb4.mono (by omega))).trans (hb5.mono (by omega))⟩
  · have hf : firstU us ⟨a,f,l⟩ = (0, chk us) := firstU_bad hchk
    have HF := Lib.hid hf; clear hf
    generalize hcc : chk us = cc at *
    have HCC := Lib.hid hcc; clear hcc
    have hb : (cc == 0) = false := by simpa using hchk
    go_enter Try.func3, Try.ntmps3
    go_wp2_with fail
    refine (first_any us _ _ _ _ _ _ _ HN.out hnc HM.out H.out).mono ?_
    rw [HF.out]
    rintro e w1 ⟨rfl, hb1⟩
    go_wp2_with fail
    refine (fault_any us _ _ _ _ HN.out hnc HM.out ((H.out.below hb1 (Nat.le_refl _)).more hb1.size)).mono ?_
    rw [HCC.out]
    rintro e w2 ⟨rfl, hb2⟩
    go_wp2_with fail
    refine (tooled_any _).mono ?_
    rintro e w4 ⟨rfl, hb4⟩
    go_wp2_with fail
    go_ret
    have := hb1.size; have := hb2.size
    exact ⟨rfl, (hb1.trans (hb2.mono (by omega))).trans (hb4.mono (by omega))⟩

theorem toolsFirst_walk {H : Type} {enc : TypeId × Value → H} (W : World) (v0 v1 v2 v3 : Value) {d0 d1 d2 d3 : DataW H} {p0 p1 p2 p3 : List MemPlace} {base : Nat}
    (h0 : DataW.Trod enc Try.prog W 0 (fun _ => true) true 22 v0 d0 p0) (h1 : DataW.Trod enc Try.prog W 0 (fun _ => true) true 3 v1 d1 p1) (h2 : DataW.Trod enc Try.prog W 0 (fun _ => true) true 3 v2 d2 p2) (h3 : DataW.Trod enc Try.prog W 0 (fun _ => true) true 3 v3 d3 p3)
    (o0 : Value.okWide Try.prog W .any base 22 v0) (o1 : Value.okWide Try.prog W .any base 3 v1) (o2 : Value.okWide Try.prog W .any base 3 v2) (o3 : Value.okWide Try.prog W .any base 3 v3) :
    Calls Try.prog 3 #[v0, v1, v2, v3] W fun e W' => e = .returned (.bool true) ∧ Below W.heap.size W W' := by
  obtain ⟨A, c, us, rfl, hl, hm, hu⟩ := open_uses h0 o0
  obtain ⟨a, rfl, _⟩ := open_int Try.underlying3 o1 h1
  obtain ⟨f, rfl, _⟩ := open_int Try.underlying3 o2 h2
  obtain ⟨l, rfl, _⟩ := open_int Try.underlying3 o3 h3
  exact toolsFirst_core us A c a f l W hl hm hu
end Go.Proofs.Ytkoibebejhmpaaa
