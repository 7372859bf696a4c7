/- Walk: WorldFacts (reference). -/
import Derived.Test.YtnaiflokmihmeaaAwD
import Derived.Test.YtnaiflokmihmeaaActRuns
namespace Go.Proofs.Ytnaiflokmihmeaa
open Go.RowKit
set_option linter.unusedVariables false
set_option linter.unusedSimpArgs false

theorem nodup_len {α : Type} [DecidableEq α] : ∀ {l r : List α}, l.Nodup → (∀ x ∈ l, x ∈ r) → l.length ≤ r.length
  | [], r, _, _ => Nat.zero_le _
  | x :: l, r, hn, hs => by
    obtain ⟨h1, h2⟩ := List.nodup_cons.1 hn
    have hx := hs x List.mem_cons_self
    have h3 := nodup_len (l := l) (r := r.erase x) h2 (fun y hy => (List.mem_erase_of_ne (fun e => h1 (by rw [← e]; exact hy))).2 (hs y (List.mem_cons_of_mem _ hy)))
    rw [List.length_erase_of_mem hx] at h3
    have h4 := List.length_pos_of_mem hx
    simp only [List.length_cons]
    omega
/-- all facts of a world lie in a short list -/
def inL (d : Wd) : List Ft := (List.range d.sl.toNat).map (fun i : Nat => (⟨4, (i : Int), 0⟩ : Ft)) ++ ((List.range d.sp.length).map (fun i : Nat => (⟨3, (i : Int), 0⟩ : Ft)) ++ ((List.range d.sp.length).map (fun i : Nat => (⟨6, (i : Int), nthI d.sp i⟩ : Ft)) ++
  ((List.range d.pl.length).map (fun i : Nat => (⟨1, (i : Int), nthI d.pl i⟩ : Ft)) ++ ((List.range d.pl.length).map (fun i : Nat => (⟨2, -2 - nthI d.pl i, (i : Int)⟩ : Ft)) ++ (List.range d.pl.length).map (fun i : Nat => (⟨5, (i : Int), 0⟩ : Ft))))))
theorem in_inL {d : Wd} {f : Ft} (h : inS d f) : f ∈ inL d := by
  obtain ⟨k, a, b⟩ := f
  unfold inL
  simp only [List.mem_append, List.mem_map, List.mem_range]
  rcases h with ⟨h1, h2, h3, h4, _⟩ | ⟨h1, h2, h3, h4, _⟩ | ⟨h1, h2, q, h3, h4, h5⟩ | ⟨h1, h2, q, h3, h4, h5⟩ | ⟨h1, h2, q, h3, h4, h5⟩ | ⟨h1, h2, q, h3, h4, h5⟩
  all_goals dsimp only at h1 h2 h3 h4; subst h1
  · subst h2; exact .inl ⟨a.toNat, by omega, by congr 1; omega⟩
  · subst h2; exact .inr (.inl ⟨a.toNat, by omega, by congr 1; omega⟩)
  · subst h3; exact .inr (.inr (.inl ⟨q, h4, by rw [nthI_get h5]⟩))
  · subst h3; exact .inr (.inr (.inr (.inl ⟨q, h4, by rw [nthI_get h5]⟩)))
  · subst h3; exact .inr (.inr (.inr (.inr (.inl ⟨q, h4, by rw [nthI_get h5]; congr 1; dsimp only; omega⟩))))
  · subst h2 h3; exact .inr (.inr (.inr (.inr (.inr ⟨q, h4, rfl⟩))))
theorem set_len {d : Wd} {s : List Ft} (hv : Vd d) (hn : s.Nodup) (hm : ∀ f, f ∈ s ↔ inS d f) : s.length ≤ 100 := by
  have h1 := nodup_len hn (fun f hf => in_inL ((hm f).1 hf))
  have h2 : (inL d).length ≤ 100 := by
    have h3 := hv.sl8
    have h4 := hv.p6
    have h5 := hv.s4
    have h6 := hv.sl0
    unfold inL
    simp only [List.length_append, List.length_map, List.length_range]
    omega
  omega
theorem FRow.rne {w wr : World} {v : Value} {xs : List Ft} {ri b : Nat} {left : List Ft} (h : FRow w v xs wr) (hi : SIter valF wr ri b left) : some ri ≠ v.ownBlock := by
  intro e
  obtain ⟨es, clock, since, c0, seen, hm, _⟩ := hi
  rcases (Rws.head h).2 with ⟨hv, _⟩ | ⟨g, cap, cur, hv, hg, hh, _⟩
  · dsimp only at hv; rw [hv] at e; cases e
  · dsimp only at hv; rw [hv] at e
    have e2 : ri = g := by simpa [Value.ownBlock] using e
    subst e2
    rw [hm] at hh
    cases hh
theorem FRow.nextI {w wr w' : World} {v : Value} {xs : List Ft} {ri b : Nat} {left : List Ft} (h : FRow w v xs wr) (hi : SIter valF wr ri b left) (hg : wr.grownBy w' (some ri)) (hr : w.heap.size ≤ ri) : FRow w v xs w' := by
  have hne := h.rne hi
  refine ⟨Below.grown h.below hg h.below.size (fun k hk => by cases hk; exact hr), fun r hr2 => (h.own r hr2).kept hg ?_, h.apart⟩
  have : r = ⟨v, 45, 3, xs.length, cellsF xs⟩ := by simpa using hr2
  subst this
  exact .inr (fun e => hne e.symm)
theorem SIter.appF {w wr w' : World} {v : Value} {xs : List Ft} {ri b : Nat} {left : List Ft} {o : Obj} (h : FRow w v xs wr) (hi : SIter valF wr ri b left) (hb : b < w.heap.size) (hg : (wr.alloc o).grownBy w' v.ownBlock) : SIter valF w' ri b left := by
  refine (hi.next ((Below.refl _ _).alloc (Nat.le_refl _) o)).grown hg (h.rne hi) (fun e => ?_)
  have := ((Rws.head h).lt b e.symm).1
  omega
set_option maxHeartbeats 4000000 in
set_option maxRecDepth 20000 in
theorem wfacts_any (d : Wd) (r : Raw) (w : World) (h : WOk w r d) (hlo : ∀ x ∈ d.pl, -9223372036854775808 ≤ x) : Calls Try.prog 49 #[wv d.sl r] w (FcPost d w) := by
  have HCK := Lib.hid (fun W (hb : Below w.heap.size w W) => wfault_any d r W (h.next hb) hlo)
  have HS0 := Lib.hid (W1S.start w d.sl r)
  by_cases hw0 : wErr d = 0
  · rw [hw0] at HCK
    have HW0 := Lib.hid hw0
    have hv := vd_of hw0
    have HV := Lib.hid hv
    have HSO := Lib.hid (fun W (hb : Below w.heap.size w W) => stateOf_any d r W (h.next hb) hv)
    clear hv hw0 h hlo
    obtain ⟨A1, n1, c1, A2, n2, c2, A3, n3, c3⟩ := r
    unfold wv wcs
    unfold wv wcs at HCK HSO
    unfold wcs at HS0
    dsimp only at HCK HSO HS0 ⊢
    generalize d.sl = sl at *
    go_enter Try.func49, Try.ntmps49
    go_upto_region 1 with (fail)
    generalize World.alloc w _ = w1 at *
    obtain ⟨k0, k1, k2, k3⟩ := HS0.out.all
    dsimp only at k0 k1 k2 k3
    go_wp2_with fail
    refine (HCK.out _ HS0.out.bel).mono ?_
    rintro e w2 ⟨rfl, hb2⟩
    have HS2 := Lib.hid (HS0.out.next hb2)
    clear hb2 HS0 k0 k1 k2 k3
    obtain ⟨k0, k1, k2, k3⟩ := HS2.out.all
    dsimp only at k0 k1 k2 k3
    go_wp2_with fail
    refine (HSO.out _ HS2.out.bel).mono ?_
    rintro e w3 ⟨b, rfl, hbb, ⟨s, hset, hnd, hin⟩, hb3⟩
    have HB3 := Lib.hid (HS2.out.next hb3).bel
    have HIN := Lib.hid hin
    have hsl := set_len HV.out hnd hin
    have HSET := Lib.hid hset
    have hblt := hset.lt
    clear hset hnd hin hb3 k0 k1 k2 k3 HS2
    generalize hsn : s.length = m2 at *
    have HSN := Lib.hid hsn; clear hsn
    go_wp2_with (at_range; refine wpList_set_range _ rfl _ 114 rfl Try.underlying114 HSET.out rfl ?_; intro w4 hi4 hb4 hz4)
    have HI4 := Lib.hid hi4
    have HF4 := Lib.hid (FRow.nil hb4)
    clear hi4 hb4 hz4
    try go_frame
    go_loopg [3] m2 (fun k o wr => ∃ (left done : List Ft) (vn vc : Nat) (VA : Option Addr) (xs : List Ft), k = left.length ∧ o = .slice VA vn vc ∧ vn + left.length = m2 ∧ Hid (xs.length = vn) ∧ Hid (s.Perm (done ++ left)) ∧ Hid (∀ f, f ∈ xs ↔ f ∈ done) ∧ Hid (SIter valF wr w3.heap.size b left) ∧ Hid (FRow w3 (.slice VA vn vc) xs wr))
    case atStart => exact ⟨s, [], 0, 0, none, [], HSN.out.symm, rfl, by rw [HSN.out]; omega, Lib.hid rfl, Lib.hid (List.Perm.refl _), Lib.hid (fun f => Iff.rfl), HI4, HF4⟩
    case round =>
      clear HI4 HF4
      obtain ⟨left, done, vn, vc, VA, xs, hgk, rfl, hvn, HXN, hperm, HXD, hit, HF⟩ := hrel
      have HGK := Lib.hid hgk; clear hgk
      go_wp2_with (at_next; refine wpList_fset_next _ rfl _ rfl hit.out rfl ?_ ?_)
      · intro hl0
        have HMM := Lib.hid (show ∀ f, f ∈ xs ↔ inS d f from fun f => by
          have h8 := hperm.out
          rw [hl0, List.append_nil] at h8
          rw [HXD.out f, ← h8.mem_iff, HIN.out f])
        obtain ⟨B, cb, hv9, hl9, hm9, hI9⟩ := HF.out.facts
        have hfa : VA = B := by injection hv9
        subst hfa
        have HOF := Lib.hid ((factsof_any xs VA vn vc wr HXN.out.symm (by omega) hI9).mono fun e W h9 => fc_ok HW0.out (HB3.out.trans (HF.out.bel.mono HB3.out.size)) HMM.out h9)
        clear hv9 hl9 hm9 hI9 hl0 hvn
        go_wp2_with fail
        refine HOF.out.mono ?_
        intro e w9 h9
        obtain ⟨l9, A9, c9, rfl, h92⟩ := h9
        have HE9 := Lib.hid h92
        clear h92
        go_wp2_with fail
        go_ret
        exact ⟨l9, A9, c9, rfl, HE9.out⟩
      · intro fk fa fb left' w5 hp5 hi5 hg5 hz5 hen
        have HF5 := Lib.hid (HF.out.nextI hit.out hg5 (Nat.le_refl _))
        have hbx : Below w5.heap.size w5 (w5.alloc (.cells #[.int .i64 fk, .int .i64 fa, .int .i64 fb] 45)) := (Below.refl _ _).alloc (Nat.le_refl _) _
        have HI6 := Lib.hid (hi5.next hbx)
        have HF6 := Lib.hid (HF5.out.next hbx)
        have HX6 := Lib.hid (Blk.new w5 45 #[.int .i64 fk, .int .i64 fa, .int .i64 fb])
        have HP6 : Hid (s.Perm (((⟨fk, fa, fb⟩ : Ft) :: done) ++ left')) := Lib.hid (hperm.out.trans ((hp5.append_left done).trans List.perm_middle))
        have HLN : Hid (left.length = left'.length + 1) := Lib.hid (by have := hp5.length_eq; simpa using this)
        have HXD2 : Hid (∀ f, f ∈ xs ++ [(⟨fk, fa, fb⟩ : Ft)] ↔ f ∈ (⟨fk, fa, fb⟩ : Ft) :: done) := Lib.hid (fun f => by rw [List.mem_append, List.mem_singleton, HXD.out f, List.mem_cons]; exact Or.comm)
        have hvn2 : vn + 1 + left'.length = m2 := by have := HLN.out; omega
        clear hp5 hi5 hg5 hz5 hperm hit HF HF5 HXD hvn
        go_upto_region 7 with (fail)
        clear hbx
        generalize World.alloc w5 _ = w6 at *
        generalize w5.heap.size = px at *
        have k0 := HX6.out.cell 0
        have k1 := HX6.out.cell 1
        have k2 := HX6.out.cell 2
        simp at k0 k1 k2
        go_upto_region 5 with (at_builtin; refine wpList_append_oneG rfl _ _ _ rfl Try.underlying43 infoFt rfl rfl (n := vn) (xs := cellsF xs) (HF6.out.row HXN.out) rfl rfl rfl (one_ft ⟨fk, fa, fb⟩) (by omega) ?_; intro v' w7 hR7 hb7 hg7; obtain ⟨A7, c7, rfl⟩ := own_sliceR hR7)
        have HI7 := Lib.hid (SIter.appF HF6.out HI6.out hblt hg7)
        have HF7 : Hid (FRow w3 (.slice A7 (vn + 1) c7) (xs ++ [(⟨fk, fa, fb⟩ : Ft)]) w7) := Lib.hid (FRow.add (x := ⟨fk, fa, fb⟩) HXN.out hR7)
        have HXN2 : Hid ((xs ++ [(⟨fk, fa, fb⟩ : Ft)]).length = vn + 1) := Lib.hid (by rw [List.length_append, HXN.out]; rfl)
        clear hR7 hb7 hg7 k0 k1 k2 HX6 HF6 HI6
        try go_wp2_with fail
        go_roundg left'.length
        case measure => rw [HGK.out, HLN.out]; omega
        case rel => exact ⟨left', _, _, _, _, _, rfl, rfl, hvn2, HXN2, HP6, HXD2, HI7, HF7⟩
  · have hne : (wErr d != 0) = true := by simp [hw0]
    have HBAD := Lib.hid (fun W hb => fc_bad (d := d) (w := w) (W := W) hw0 hb)
    clear hw0 h hlo
    generalize wErr d = ce at *
    obtain ⟨A1, n1, c1, A2, n2, c2, A3, n3, c3⟩ := r
    unfold wv wcs
    unfold wv wcs at HCK
    unfold wcs at HS0
    dsimp only at HCK HS0 ⊢
    generalize d.sl = sl at *
    go_enter Try.func49, Try.ntmps49
    go_upto_region 1 with (fail)
    generalize World.alloc w _ = w1 at *
    obtain ⟨k0, k1, k2, k3⟩ := HS0.out.all
    dsimp only at k0 k1 k2 k3
    go_wp2_with fail
    refine (HCK.out _ HS0.out.bel).mono ?_
    rintro e w2 ⟨rfl, hb2⟩
    have HS2 := Lib.hid (HS0.out.next hb2)
    go_wp2_with fail
    go_ret
    exact HBAD.out _ HS2.out.bel
end Go.Proofs.Ytnaiflokmihmeaa
