/- Walk: Moved (package replan). -/
import Derived.Test.YtnaiflokmihmeaaMgK
namespace Go.Proofs.Ytnaiflokmihmeaa
open Go.RowKit
set_option linter.unusedVariables false
set_option linter.unusedSimpArgs false

/-- the error of Moved -/
def mvE (d : Wd) (part place : Int) : Int :=
  if wErr d ≠ 0 then wErr d else if part < 0 ∨ (d.pl.length : Int) ≤ part then 4 else if place < -1 ∨ d.sl ≤ place then 1
  else if nthI d.pl part.toNat < -1 then 7 else if 0 ≤ place ∧ place ∈ d.pl ∧ nthI d.pl part.toNat ≠ place then 5 else 0
def mvN (d : Wd) (part place : Int) : Wd := { d with pl := d.pl.set part.toNat place, se := d.se.set part.toNat false }
def mvD (d : Wd) (part place : Int) : Wd := if mvE d part place = 0 then mvN d part place else noWd
def MvPost (d : Wd) (part place : Int) (w : World) (e : Ending) (w' : World) : Prop :=
  ∃ r', e = .returned (.tuple #[wv (mvD d part place).sl r', .int .i64 (mvE d part place)]) ∧ WOk w' r' (mvD d part place) ∧ Below w.heap.size w w'
theorem mv_bad {d : Wd} {part place : Int} {w W : World} {c : Int} (hw : mvE d part place = c) (h0 : c ≠ 0) (hb : Below w.heap.size w W) : MvPost d part place w (.returned (.tuple #[.agg #[.int .i64 0, .slice none 0 0, .slice none 0 0, .slice none 0 0], .int .i64 c])) W := by
  have h1 : mvD d part place = noWd := by unfold mvD; rw [if_neg (by rw [hw]; exact h0)]
  exact ⟨noRaw, by rw [h1, hw]; rfl, by rw [h1]; exact WOk.no W, hb⟩
theorem mv_ok {d : Wd} {part place : Int} {w W : World} {r : Raw} (hw : mvE d part place = 0) (ho : WOk W r (mvN d part place)) (hb : Below w.heap.size w W) : MvPost d part place w (.returned (.tuple #[.agg #[.int .i64 d.sl, .slice r.A1 r.n1 r.c1, .slice r.A2 r.n2 r.c2, .slice r.A3 r.n3 r.c3], .int .i64 0])) W := by
  have h1 : mvD d part place = mvN d part place := by unfold mvD; rw [if_pos hw]
  exact ⟨r, by rw [h1, hw]; rfl, by rw [h1]; exact ho, hb⟩
section
variable {d : Wd} {part place : Int}
theorem mvE_w (h : wErr d ≠ 0) : mvE d part place = wErr d := by unfold mvE; rw [if_pos h]
theorem mvE_p (h : wErr d = 0) (h1 : part < 0 ∨ (d.pl.length : Int) ≤ part) : mvE d part place = 4 := by unfold mvE; rw [if_neg (by simp [h]), if_pos h1]
theorem mvE_a (h : wErr d = 0) (h1 : ¬ (part < 0 ∨ (d.pl.length : Int) ≤ part)) (h2 : place < -1 ∨ d.sl ≤ place) : mvE d part place = 1 := by unfold mvE; rw [if_neg (by simp [h]), if_neg h1, if_pos h2]
theorem mvE_s {kp : Nat} {x : Int} (h : wErr d = 0) (hx : d.pl[kp]? = some x) (h2 : ¬ (place < -1 ∨ d.sl ≤ place)) (h3 : x < -1) : mvE d (kp : Int) place = 7 := by
  have hl := (List.getElem?_eq_some_iff.1 hx).1
  unfold mvE; rw [if_neg (by simp [h]), if_neg (by omega), if_neg h2, if_pos (by rw [Int.toNat_natCast, nthI_get hx]; exact h3)]
theorem mvE_t {kp : Nat} {x : Int} (h : wErr d = 0) (hx : d.pl[kp]? = some x) (h2 : ¬ (place < -1 ∨ d.sl ≤ place)) (h3 : ¬ x < -1) (h4 : 0 ≤ place) (h5 : place ∈ d.pl) (h6 : x ≠ place) : mvE d (kp : Int) place = 5 := by
  have hl := (List.getElem?_eq_some_iff.1 hx).1
  unfold mvE; rw [if_neg (by simp [h]), if_neg (by omega), if_neg h2, if_neg (by rw [Int.toNat_natCast, nthI_get hx]; exact h3), if_pos ⟨h4, h5, by rw [Int.toNat_natCast, nthI_get hx]; exact h6⟩]
theorem mvE_0 {kp : Nat} {x : Int} (h : wErr d = 0) (hx : d.pl[kp]? = some x) (h2 : ¬ (place < -1 ∨ d.sl ≤ place)) (h3 : ¬ x < -1) (h4 : place < 0 ∨ place ∉ d.pl ∨ x = place) : mvE d (kp : Int) place = 0 := by
  have hl := (List.getElem?_eq_some_iff.1 hx).1
  unfold mvE; rw [if_neg (by simp [h]), if_neg (by omega), if_neg h2, if_neg (by rw [Int.toNat_natCast, nthI_get hx]; exact h3), if_neg (by
    rw [Int.toNat_natCast, nthI_get hx]
    rintro ⟨a, b, c⟩
    rcases h4 with h4 | h4 | h4
    · omega
    · exact h4 b
    · exact c h4)]
theorem inn_mem {x : Int} (h : 0 ≤ x) : 0 ≤ inn d x ↔ x ∈ d.pl := by
  have h3 := ixI_any (fun y => x == y) d.pl
  rw [← inn_ge h] at h3
  constructor
  · intro h4
    rw [decide_eq_true h4] at h3
    obtain ⟨y, hy, hy2⟩ := List.any_eq_true.1 h3.symm
    have : x = y := by simpa using hy2
    rw [this]; exact hy
  · intro h4
    refine Classical.byContradiction fun h5 => ?_
    rw [decide_eq_false h5] at h3
    have := List.any_eq_false.1 h3.symm _ h4
    simp at this
end
/-- a world of one's own in a variable -/
structure BoxS (W : World) (po : Nat) (sl : Int) (ro : Raw) (d : Wd) (wr : World) : Prop where
  ge : W.heap.size ≤ po
  out : Blk wr po 25 (wcs sl ro)
  row : Rws W (rows3 ro d) wr
section
variable {W wr w' : World} {sl : Int} {ro : Raw} {po : Nat} {d : Wd}
theorem BoxS.of (hR : Rws W (rows3 ro d) w') : BoxS W w'.heap.size sl ro d (w'.alloc (.cells (wcs sl ro) 25)) :=
  ⟨hR.below.size, Blk.new _ _ _, hR.alloc _⟩
theorem BoxS.next (h : BoxS W po sl ro d wr) (hb : Below wr.heap.size wr w') : BoxS W po sl ro d w' := ⟨h.ge, h.out.belowB hb, h.row.next hb⟩
theorem BoxS.drew (h : BoxS W po sl ro d wr) : BoxS W po sl ro d wr.drew := h.next (Below.refl _ _).drew
theorem BoxS.all (h : BoxS W po sl ro d wr) : wr.cell? ⟨po, 0, none⟩ = some (.int .i64 sl) ∧ wr.cell? ⟨po, 1, none⟩ = some (.slice ro.A1 ro.n1 ro.c1) ∧ wr.cell? ⟨po, 2, none⟩ = some (.slice ro.A2 ro.n2 ro.c2) ∧ wr.cell? ⟨po, 3, none⟩ = some (.slice ro.A3 ro.n3 ro.c3) :=
  ⟨h.out.cell 0, h.out.cell 1, h.out.cell 2, h.out.cell 3⟩
theorem BoxS.put (h : BoxS W po sl ro d wr) {i : Nat} {q : Rw} (hi : (rows3 ro d)[i]? = some q) {n c g : Nat} (hv : q.v = .slice (some ⟨g, 0, none⟩) n c) (hn : q.n = n) {j : Nat} {u : Value} {d' : Wd} (hd : (rows3 ro d).set i { q with xs := q.xs.set j u } = rows3 ro d') : BoxS W po sl ro d' (wr.setCell ⟨g, j, none⟩ u) := by
  obtain ⟨h1, h5, h6⟩ := h
  have hq := h6.own q (List.mem_of_getElem? hi)
  have hob : q.v.ownBlock = some g := by rw [hv]; rfl
  have hne : q.e ≠ 25 := by
    have := List.mem_of_getElem? hi
    simp only [rows3, List.mem_cons, List.not_mem_nil, or_false] at this
    rcases this with rfl | rfl | rfl <;> (dsimp only; decide)
  have ne : po ≠ g := fun e => own_blk_ne hq h5 hne (by rw [hob, e])
  refine ⟨h1, h5.far ne _, ?_⟩
  have := h6.store hi hv hn (j := j) (u := u)
  rwa [hd] at this
theorem BoxS.put2 (h : BoxS W po sl ro d wr) {g : Nat} (hA : ro.A2 = some ⟨g, 0, none⟩) (j : Nat) (u : Bool) : BoxS W po sl ro { d with se := d.se.set j u } (wr.setCell ⟨g, j, none⟩ (.bool u)) :=
  h.put (i := 1) (q := ⟨.slice ro.A2 ro.n2 ro.c2, 4, 1, ro.n2, cellsB d.se⟩) rfl (by rw [hA]) rfl (by simp [rows3, cellsB, List.map_set])
theorem BoxS.put1 (h : BoxS W po sl ro d wr) {g : Nat} (hA : ro.A1 = some ⟨g, 0, none⟩) (j : Nat) (u : Int) : BoxS W po sl ro { d with pl := d.pl.set j u } (wr.setCell ⟨g, j, none⟩ (.int .i64 u)) :=
  h.put (i := 2) (q := ⟨.slice ro.A1 ro.n1 ro.c1, 3, 1, ro.n1, cellsI d.pl⟩) rfl (by rw [hA]) rfl (by simp [rows3, cellsI, List.map_set])
theorem BoxS.at2 (h : BoxS W po sl ro d wr) {k : Nat} {x : Bool} (hx : d.se[k]? = some x) : ∃ g, ro.A2 = some ⟨g, 0, none⟩ ∧ k < ro.n2 ∧ ∀ j, wr.frozen? ⟨g, j, none⟩ = false ∧ (j < ro.n2 → (wr.cell? ⟨g, j, none⟩).isSome = true) := by
  have ho := h.row.own _ (List.mem_cons_of_mem _ List.mem_cons_self)
  dsimp only at ho
  have hl := (List.getElem?_eq_some_iff.1 hx).1
  have hn : ro.n2 = d.se.length := by have := ho.1; simp [cellsB] at this; omega
  rcases ho.2 with ⟨hv, h0⟩ | ⟨g, cap, cur, hv, hg, hh, hnc, hm, hs, hc⟩
  · omega
  · injection hv with e1 e2 e3
    have hB : Blk wr g 4 cur := hh
    exact ⟨g, e1, by omega, fun j => ⟨hB.frozen j, fun hj => by rw [hB.cell, Array.getElem?_eq_getElem (by omega)]; rfl⟩⟩
theorem BoxS.at1 (h : BoxS W po sl ro d wr) {k : Nat} {x : Int} (hx : d.pl[k]? = some x) : ∃ g, ro.A1 = some ⟨g, 0, none⟩ ∧ k < ro.n1 ∧ ∀ j, wr.frozen? ⟨g, j, none⟩ = false ∧ (j < ro.n1 → (wr.cell? ⟨g, j, none⟩).isSome = true) := by
  have ho := h.row.own _ (List.mem_cons_of_mem _ (List.mem_cons_of_mem _ List.mem_cons_self))
  dsimp only at ho
  have hl := (List.getElem?_eq_some_iff.1 hx).1
  have hn : ro.n1 = d.pl.length := by have := ho.1; simp [cellsI] at this; omega
  rcases ho.2 with ⟨hv, h0⟩ | ⟨g, cap, cur, hv, hg, hh, hnc, hm, hs, hc⟩
  · omega
  · injection hv with e1 e2 e3
    have hB : Blk wr g 3 cur := hh
    exact ⟨g, e1, by omega, fun j => ⟨hB.frozen j, fun hj => by rw [hB.cell, Array.getElem?_eq_getElem (by omega)]; rfl⟩⟩
theorem BoxS.ne12 (h : BoxS W po sl ro d wr) {g g' : Nat} (h1 : ro.A1 = some ⟨g, 0, none⟩) (h2 : ro.A2 = some ⟨g', 0, none⟩) : g ≠ g' := by
  have ho1 := h.row.own _ (List.mem_cons_of_mem _ (List.mem_cons_of_mem _ List.mem_cons_self))
  have ho2 := h.row.own _ (List.mem_cons_of_mem _ List.mem_cons_self)
  dsimp only at ho1 ho2
  intro e
  subst e
  rcases ho1.2 with ⟨hv, _⟩ | ⟨g1, cap, cur, hv, hg, hh, _⟩
  · injection hv with e1; rw [h1] at e1; cases e1
  · rcases ho2.2 with ⟨hv2, _⟩ | ⟨g2, cap2, cur2, hv2, hg2, hh2, _⟩
    · injection hv2 with e1; rw [h2] at e1; cases e1
    · injection hv with e1
      injection hv2 with e2
      rw [h1] at e1; rw [h2] at e2
      cases e1; cases e2
      rw [hh] at hh2
      injection hh2 with e3
      injection e3 with e4 e5
      exact absurd e5 (by decide)
theorem BoxS.rns {w : World} {pw : Nat} {dj : Wd} {rj : Raw} (h : RnS w pw dj rj W) (hB : BoxS W po sl ro d wr) (hs : sl = d.sl) : RnS w po d ro wr := by
  subst hs
  have hl := h.lt
  have hb := hB.row.below
  obtain ⟨h1, h2, h3, h4, ⟨x, y, z, u, h5⟩, h6, h7⟩ := h
  exact ⟨h1.trans (hb.mono h1.size), hB.out, Nat.le_trans h1.size hB.ge, by have := hB.ge; omega, ⟨x, y, z, u, h5.belowB hb⟩, rows3_ok hB.row, Off.of_fr (rows3_fresh hB.row) hl.2⟩
end
set_option maxHeartbeats 3000000 in
set_option maxRecDepth 20000 in
theorem moved_any (d : Wd) (r : Raw) (part place : Int) (w : World) (h : WOk w r d) :
    Calls Try.prog 13 #[wv d.sl r, .int .i64 part, .int .i64 place] w (MvPost d part place w) := by
  have HCK := Lib.hid (fun W (hb : Below w.heap.size w W) => acheck_any d r W (h.next hb))
  have HIN := Lib.hid (fun W (hb : Below w.heap.size w W) => inn_any d r place W (h.next hb))
  have HS0 := Lib.hid (RnS.start w h)
  have HBAD := Lib.hid (fun W c (hw : mvE d part place = c) (h0 : c ≠ 0) hb => mv_bad (w := w) (W := W) hw h0 hb)
  have E1 := Lib.hid h.h1
  by_cases hw0 : wErr d = 0
  · rw [hw0] at HCK
    have HCP : Hid (∀ W, Below w.heap.size w W → Calls Try.prog 47 #[wv d.sl r] W (CopyPost d r W)) := Lib.hid (fun W hb => by
      have hv := vd_of hw0
      have a1 := h.h1
      have a2 := h.h2
      have a3 := h.h3
      have a4 := hv.p6
      have a5 := hv.se
      have a6 := hv.s4
      exact copy_any d r W (h.next hb) (by omega) (by omega) (by omega))
    unfold CopyPost at HCP
    have HSE := Lib.hid (vd_of hw0).se
    by_cases hp0 : part < 0
    · have HP := Lib.hid (mvE_p (place := place) hw0 (.inl hp0))
      clear hw0
      have HD8 := Lib.hid (fun W hb => HBAD.out W 4 (HP.out) (by omega) hb)
      clear HBAD h
      obtain ⟨A1, n1, c1, A2, n2, c2, A3, n3, c3⟩ := r
      unfold wv wcs
      unfold wv wcs at HCK HIN
      unfold wcs at HS0
      dsimp only at HCK HIN HS0 ⊢
      try unfold wv wcs at HCP
      try dsimp only at HCP
      generalize hsl : d.sl = sl at *
      have HSL := Lib.hid hsl
      clear hsl
      go_enter Try.func13, Try.ntmps13
      go_wp2_with fail
      generalize World.alloc (World.alloc w _) _ = w1 at *
      obtain ⟨k0, k1, k2, k3⟩ := HS0.out.one4
      dsimp only at k0 k1 k2 k3
      rw [HSL.out] at k0
      go_wp2_with fail
      refine (HCK.out _ HS0.out.bel).mono ?_
      rintro e w2 ⟨rfl, hb2⟩
      have HW2 := Lib.hid (HS0.out.next hb2); clear hb2 k0 k1 k2 k3 HS0
      obtain ⟨k0, k1, k2, k3⟩ := HW2.out.one4
      dsimp only at k0 k1 k2 k3
      rw [HSL.out] at k0
      obtain ⟨x0, y0, z0, u0, ⟨q0, q1, q2, q3⟩, q4, q5, q6, q7⟩ := HW2.out.room
      have HST := Lib.hid (HW2.out.stored (.int .i64 0) (.slice none 0 0) (.slice none 0 0) (.slice none 0 0))
      have HD9 := Lib.hid (HD8.out _ HST.out.2)
      go_wp2_with fail
      exact ret_blk2 rfl rfl rfl rfl HST.out.1 (n := 4) rfl (by kernel_rfl) HD9.out
    · by_cases hp1 : (d.pl.length : Int) ≤ part
      · have HP := Lib.hid (mvE_p (place := place) hw0 (.inr hp1))
        clear hw0
        rw [← E1.out] at hp1
        have HD8 := Lib.hid (fun W hb => HBAD.out W 4 (HP.out) (by omega) hb)
        clear HBAD h
        obtain ⟨A1, n1, c1, A2, n2, c2, A3, n3, c3⟩ := r
        unfold wv wcs
        unfold wv wcs at HCK HIN
        unfold wcs at HS0
        dsimp only at HCK HIN HS0 ⊢
        try unfold wv wcs at HCP
        try dsimp only at HCP
        dsimp only at hp1
        generalize hsl : d.sl = sl at *
        have HSL := Lib.hid hsl
        clear hsl
        go_enter Try.func13, Try.ntmps13
        go_wp2_with fail
        generalize World.alloc (World.alloc w _) _ = w1 at *
        obtain ⟨k0, k1, k2, k3⟩ := HS0.out.one4
        dsimp only at k0 k1 k2 k3
        rw [HSL.out] at k0
        go_wp2_with fail
        refine (HCK.out _ HS0.out.bel).mono ?_
        rintro e w2 ⟨rfl, hb2⟩
        have HW2 := Lib.hid (HS0.out.next hb2); clear hb2 k0 k1 k2 k3 HS0
        obtain ⟨k0, k1, k2, k3⟩ := HW2.out.one4
        dsimp only at k0 k1 k2 k3
        rw [HSL.out] at k0
        obtain ⟨x0, y0, z0, u0, ⟨q0, q1, q2, q3⟩, q4, q5, q6, q7⟩ := HW2.out.room
        have HST := Lib.hid (HW2.out.stored (.int .i64 0) (.slice none 0 0) (.slice none 0 0) (.slice none 0 0))
        have HD9 := Lib.hid (HD8.out _ HST.out.2)
        go_wp2_with fail
        exact ret_blk2 rfl rfl rfl rfl HST.out.1 (n := 4) rfl (by kernel_rfl) HD9.out
      · obtain ⟨kp, rfl⟩ := Int.eq_ofNat_of_zero_le (show 0 ≤ part by omega)
        have hnp : ¬ ((kp : Int) < 0 ∨ (d.pl.length : Int) ≤ (kp : Int)) := by omega
        obtain ⟨x, hx⟩ := get_ex (xs := d.pl) (k := kp) (by omega)
        rw [← E1.out] at hp1
        have i2 : (kp : Int) < (r.n1 : Int) := by omega
        clear hp0 hp1
        have i1 : (0 : Int) ≤ (kp : Int) := by omega
        obtain ⟨b, off, hA, hb, hc0⟩ := h.i1 kp x hx
        by_cases ha0 : place < -1
        · have HP := Lib.hid (mvE_a hw0 hnp (.inl ha0))
          clear hw0 hnp hx hA hb hc0
          have HD8 := Lib.hid (fun W hb => HBAD.out W 1 (HP.out) (by omega) hb)
          clear HBAD h
          obtain ⟨A1, n1, c1, A2, n2, c2, A3, n3, c3⟩ := r
          unfold wv wcs
          unfold wv wcs at HCK HIN
          unfold wcs at HS0
          dsimp only at HCK HIN HS0 ⊢
          try unfold wv wcs at HCP
          try dsimp only at HCP
          dsimp only at i2
          generalize hsl : d.sl = sl at *
          have HSL := Lib.hid hsl
          clear hsl
          go_enter Try.func13, Try.ntmps13
          go_wp2_with fail
          generalize World.alloc (World.alloc w _) _ = w1 at *
          obtain ⟨k0, k1, k2, k3⟩ := HS0.out.one4
          dsimp only at k0 k1 k2 k3
          rw [HSL.out] at k0
          go_wp2_with fail
          refine (HCK.out _ HS0.out.bel).mono ?_
          rintro e w2 ⟨rfl, hb2⟩
          have HW2 := Lib.hid (HS0.out.next hb2); clear hb2 k0 k1 k2 k3 HS0
          obtain ⟨k0, k1, k2, k3⟩ := HW2.out.one4
          dsimp only at k0 k1 k2 k3
          rw [HSL.out] at k0
          obtain ⟨x0, y0, z0, u0, ⟨q0, q1, q2, q3⟩, q4, q5, q6, q7⟩ := HW2.out.room
          have HST := Lib.hid (HW2.out.stored (.int .i64 0) (.slice none 0 0) (.slice none 0 0) (.slice none 0 0))
          have HD9 := Lib.hid (HD8.out _ HST.out.2)
          go_wp2_with fail
          exact ret_blk2 rfl rfl rfl rfl HST.out.1 (n := 4) rfl (by kernel_rfl) HD9.out
        · by_cases ha1 : d.sl ≤ place
          · have HP := Lib.hid (mvE_a hw0 hnp (.inr ha1))
            clear hw0 hnp hx hA hb hc0
            have HD8 := Lib.hid (fun W hb => HBAD.out W 1 (HP.out) (by omega) hb)
            clear HBAD h
            obtain ⟨A1, n1, c1, A2, n2, c2, A3, n3, c3⟩ := r
            unfold wv wcs
            unfold wv wcs at HCK HIN
            unfold wcs at HS0
            dsimp only at HCK HIN HS0 ⊢
            try unfold wv wcs at HCP
            try dsimp only at HCP
            dsimp only at i2
            generalize hsl : d.sl = sl at *
            have HSL := Lib.hid hsl
            clear hsl
            go_enter Try.func13, Try.ntmps13
            go_wp2_with fail
            generalize World.alloc (World.alloc w _) _ = w1 at *
            obtain ⟨k0, k1, k2, k3⟩ := HS0.out.one4
            dsimp only at k0 k1 k2 k3
            rw [HSL.out] at k0
            go_wp2_with fail
            refine (HCK.out _ HS0.out.bel).mono ?_
            rintro e w2 ⟨rfl, hb2⟩
            have HW2 := Lib.hid (HS0.out.next hb2); clear hb2 k0 k1 k2 k3 HS0
            obtain ⟨k0, k1, k2, k3⟩ := HW2.out.one4
            dsimp only at k0 k1 k2 k3
            rw [HSL.out] at k0
            obtain ⟨x0, y0, z0, u0, ⟨q0, q1, q2, q3⟩, q4, q5, q6, q7⟩ := HW2.out.room
            have HST := Lib.hid (HW2.out.stored (.int .i64 0) (.slice none 0 0) (.slice none 0 0) (.slice none 0 0))
            have HD9 := Lib.hid (HD8.out _ HST.out.2)
            go_wp2_with fail
            exact ret_blk2 rfl rfl rfl rfl HST.out.1 (n := 4) rfl (by kernel_rfl) HD9.out
          · have hna : ¬ (place < -1 ∨ d.sl ≤ place) := by omega
            by_cases hs0 : x < -1
            · have HP := Lib.hid (mvE_s hw0 hx hna hs0)
              clear hw0 hnp hx hna
              have HD8 := Lib.hid (fun W hb => HBAD.out W 7 (HP.out) (by omega) hb)
              clear HBAD h
              obtain ⟨A1, n1, c1, A2, n2, c2, A3, n3, c3⟩ := r
              unfold wv wcs
              unfold wv wcs at HCK HIN
              unfold wcs at HS0
              dsimp only at HCK HIN HS0 ⊢
              try unfold wv wcs at HCP
              try dsimp only at HCP
              dsimp only at hA i2
              subst hA
              generalize hsl : d.sl = sl at *
              have HSL := Lib.hid hsl
              clear hsl
              go_enter Try.func13, Try.ntmps13
              go_wp2_with fail
              generalize World.alloc (World.alloc w _) _ = w1 at *
              obtain ⟨k0, k1, k2, k3⟩ := HS0.out.one4
              dsimp only at k0 k1 k2 k3
              rw [HSL.out] at k0
              go_wp2_with fail
              refine (HCK.out _ HS0.out.bel).mono ?_
              rintro e w2 ⟨rfl, hb2⟩
              have HW2 := Lib.hid (HS0.out.next hb2); clear hb2 k0 k1 k2 k3 HS0
              obtain ⟨k0, k1, k2, k3⟩ := HW2.out.one4
              dsimp only at k0 k1 k2 k3
              rw [HSL.out] at k0
              have g0 := (HW2.out.bel.cell (p := ⟨b, off + kp, none⟩) hb).trans hc0
              obtain ⟨x0, y0, z0, u0, ⟨q0, q1, q2, q3⟩, q4, q5, q6, q7⟩ := HW2.out.room
              have HST := Lib.hid (HW2.out.stored (.int .i64 0) (.slice none 0 0) (.slice none 0 0) (.slice none 0 0))
              have HD9 := Lib.hid (HD8.out _ HST.out.2)
              go_wp2_with fail
              exact ret_blk2 rfl rfl rfl rfl HST.out.1 (n := 4) rfl (by kernel_rfl) HD9.out
            · obtain ⟨xb, hxb⟩ := get_ex (xs := d.se) (k := kp) (by rw [HSE.out]; omega)
              have HX1 := Lib.hid hx
              have HX2 := Lib.hid hxb
              clear hxb
              by_cases hq0 : place < 0
              · have HP := Lib.hid (mvE_0 hw0 hx hna hs0 (.inl hq0))
                clear hw0 hnp hx hna
                have HD8 := Lib.hid (HP.out)
                clear HBAD h
                obtain ⟨A1, n1, c1, A2, n2, c2, A3, n3, c3⟩ := r
                unfold wv wcs
                unfold wv wcs at HCK HIN
                unfold wcs at HS0
                dsimp only at HCK HIN HS0 ⊢
                try unfold wv wcs at HCP
                try dsimp only at HCP
                dsimp only at hA i2
                subst hA
                generalize hsl : d.sl = sl at *
                have HSL := Lib.hid hsl
                clear hsl
                go_enter Try.func13, Try.ntmps13
                go_wp2_with fail
                generalize World.alloc (World.alloc w _) _ = w1 at *
                obtain ⟨k0, k1, k2, k3⟩ := HS0.out.one4
                dsimp only at k0 k1 k2 k3
                rw [HSL.out] at k0
                go_wp2_with fail
                refine (HCK.out _ HS0.out.bel).mono ?_
                rintro e w2 ⟨rfl, hb2⟩
                have HW2 := Lib.hid (HS0.out.next hb2); clear hb2 k0 k1 k2 k3 HS0
                obtain ⟨k0, k1, k2, k3⟩ := HW2.out.one4
                dsimp only at k0 k1 k2 k3
                rw [HSL.out] at k0
                have g0 := (HW2.out.bel.cell (p := ⟨b, off + kp, none⟩) hb).trans hc0
                go_wp2_with fail
                refine (HCP.out _ HW2.out.bel).mono ?_
                rintro e w4 ⟨⟨B1, m1, e1, B2, m2, e2, B3, m3, e3⟩, rfl, hm1, hm2, hm3, hR4⟩
                dsimp only at hm1 hm2 hm3
                subst hm1 hm2 hm3
                have HB5 := Lib.hid (BoxS.of (sl := sl) hR4)
                clear hR4 k0 k1 k2 k3 g0
                unfold wcs at HB5
                dsimp only at HB5 ⊢
                go_upto_region 13 with (fail)
                generalize w4.heap.size = po at *
                generalize World.alloc w4 _ = w5 at *
                obtain ⟨g, hA, hlt, hfr⟩ := HB5.out.at1 HX1.out
                dsimp only at hA hlt hfr
                subst hA
                obtain ⟨gb, hA2, hlt2, hfrb⟩ := HB5.out.at2 HX2.out
                dsimp only at hA2 hlt2 hfrb
                subst hA2
                have f1 := (hfr kp).1
                obtain ⟨cu, hcu⟩ := Option.isSome_iff_exists.1 ((hfr kp).2 hlt)
                have f2 := (hfrb kp).1
                obtain ⟨cv, hcv⟩ := Option.isSome_iff_exists.1 ((hfrb kp).2 hlt2)
                have HT := Lib.hid ((HB5.out.put1 rfl kp place).put2 rfl kp false)
                have HGN : Hid (g ≠ gb) := Lib.hid (HB5.out.ne12 rfl rfl)
                have hgn := HGN.out
                obtain ⟨o0, o1, o2, o3⟩ := HB5.out.all
                dsimp only at o0 o1 o2 o3
                have j2 : (kp : Int) < (m1 : Int) := by omega
                have j3 : (kp : Int) < (m2 : Int) := by omega
                have ht1 := HB5.out.put1 rfl kp place
                obtain ⟨gt, hgt, _, hfrt⟩ := ht1.at2 HX2.out
                cases hgt
                have f3 := (hfrt kp).1
                obtain ⟨cx, hcx⟩ := Option.isSome_iff_exists.1 ((hfrt kp).2 hlt2)
                obtain ⟨c00, c01, c02, c03⟩ := ht1.all
                dsimp only at c00 c01 c02 c03
                clear hfr hfrb hfrt ht1
                go_wp2_with fail
                go_region
                all_goals
                  clear o0 o1 o2 o3 c00 c01 c02 c03
                  have HRN := Lib.hid (BoxS.rns HW2.out HT.out HSL.out.symm)
                  obtain ⟨k0, k1, k2, k3⟩ := HRN.out.one4
                  dsimp only at k0 k1 k2 k3
                  obtain ⟨x0, y0, z0, u0, ⟨q0, q1, q2, q3⟩, q4, q5, q6, q7⟩ := HRN.out.room
                  have HFI := Lib.hid HRN.out.fin
                  have HD9 := Lib.hid (mv_ok (w := w) HD8.out (HFI.out.2.1.next (Below.refl _ _).drew) HFI.out.2.2.drew)
                  have HST := Lib.hid HFI.out.1.drew
                  clear HFI HRN HT
                  unfold wcs at HST
                  dsimp only at HST HD9
                  go_wp2_with fail
                  exact ret_blk2 rfl rfl rfl rfl HST.out (n := 4) rfl (by kernel_rfl) HD9.out
              · have hq1 : 0 ≤ place := by omega
                clear hq0 ha0
                by_cases hmm : place ∈ d.pl
                · have hin := (inn_mem (d := d) hq1).2 hmm
                  by_cases hxe : x = place
                  · have HP := Lib.hid (mvE_0 hw0 hx hna hs0 (.inr (.inr hxe)))
                    subst hxe
                    clear hw0 hnp hx hna hmm
                    generalize inn d x = iv at *
                    have HD8 := Lib.hid (HP.out)
                    clear HBAD h
                    obtain ⟨A1, n1, c1, A2, n2, c2, A3, n3, c3⟩ := r
                    unfold wv wcs
                    unfold wv wcs at HCK HIN
                    unfold wcs at HS0
                    dsimp only at HCK HIN HS0 ⊢
                    try unfold wv wcs at HCP
                    try dsimp only at HCP
                    dsimp only at hA i2
                    subst hA
                    generalize hsl : d.sl = sl at *
                    have HSL := Lib.hid hsl
                    clear hsl
                    go_enter Try.func13, Try.ntmps13
                    go_wp2_with fail
                    generalize World.alloc (World.alloc w _) _ = w1 at *
                    obtain ⟨k0, k1, k2, k3⟩ := HS0.out.one4
                    dsimp only at k0 k1 k2 k3
                    rw [HSL.out] at k0
                    go_wp2_with fail
                    refine (HCK.out _ HS0.out.bel).mono ?_
                    rintro e w2 ⟨rfl, hb2⟩
                    have HW2 := Lib.hid (HS0.out.next hb2); clear hb2 k0 k1 k2 k3 HS0
                    obtain ⟨k0, k1, k2, k3⟩ := HW2.out.one4
                    dsimp only at k0 k1 k2 k3
                    rw [HSL.out] at k0
                    have g0 := (HW2.out.bel.cell (p := ⟨b, off + kp, none⟩) hb).trans hc0
                    go_wp2_with fail
                    refine (HIN.out _ HW2.out.bel).mono ?_
                    rintro e w3 ⟨rfl, hb3⟩
                    have HW3 := Lib.hid (HW2.out.next hb3); clear hb3 k0 k1 k2 k3 g0
                    obtain ⟨k0, k1, k2, k3⟩ := HW3.out.one4
                    dsimp only at k0 k1 k2 k3
                    rw [HSL.out] at k0
                    have g0 := (HW3.out.bel.cell (p := ⟨b, off + kp, none⟩) hb).trans hc0
                    go_wp2_with fail
                    refine (HCP.out _ HW3.out.bel).mono ?_
                    rintro e w4 ⟨⟨B1, m1, e1, B2, m2, e2, B3, m3, e3⟩, rfl, hm1, hm2, hm3, hR4⟩
                    dsimp only at hm1 hm2 hm3
                    subst hm1 hm2 hm3
                    have HB5 := Lib.hid (BoxS.of (sl := sl) hR4)
                    clear hR4 k0 k1 k2 k3 g0
                    unfold wcs at HB5
                    dsimp only at HB5 ⊢
                    go_upto_region 13 with (fail)
                    generalize w4.heap.size = po at *
                    generalize World.alloc w4 _ = w5 at *
                    obtain ⟨g, hA, hlt, hfr⟩ := HB5.out.at1 HX1.out
                    dsimp only at hA hlt hfr
                    subst hA
                    obtain ⟨gb, hA2, hlt2, hfrb⟩ := HB5.out.at2 HX2.out
                    dsimp only at hA2 hlt2 hfrb
                    subst hA2
                    have f1 := (hfr kp).1
                    obtain ⟨cu, hcu⟩ := Option.isSome_iff_exists.1 ((hfr kp).2 hlt)
                    have f2 := (hfrb kp).1
                    obtain ⟨cv, hcv⟩ := Option.isSome_iff_exists.1 ((hfrb kp).2 hlt2)
                    have HT := Lib.hid ((HB5.out.put1 rfl kp x).put2 rfl kp false)
                    have HGN : Hid (g ≠ gb) := Lib.hid (HB5.out.ne12 rfl rfl)
                    have hgn := HGN.out
                    obtain ⟨o0, o1, o2, o3⟩ := HB5.out.all
                    dsimp only at o0 o1 o2 o3
                    have j2 : (kp : Int) < (m1 : Int) := by omega
                    have j3 : (kp : Int) < (m2 : Int) := by omega
                    have ht1 := HB5.out.put1 rfl kp x
                    obtain ⟨gt, hgt, _, hfrt⟩ := ht1.at2 HX2.out
                    cases hgt
                    have f3 := (hfrt kp).1
                    obtain ⟨cx, hcx⟩ := Option.isSome_iff_exists.1 ((hfrt kp).2 hlt2)
                    obtain ⟨c00, c01, c02, c03⟩ := ht1.all
                    dsimp only at c00 c01 c02 c03
                    clear hfr hfrb hfrt ht1
                    go_wp2_with fail
                    go_region
                    all_goals
                      clear o0 o1 o2 o3 c00 c01 c02 c03
                      have HRN := Lib.hid (BoxS.rns HW3.out HT.out HSL.out.symm)
                      obtain ⟨k0, k1, k2, k3⟩ := HRN.out.one4
                      dsimp only at k0 k1 k2 k3
                      obtain ⟨x0, y0, z0, u0, ⟨q0, q1, q2, q3⟩, q4, q5, q6, q7⟩ := HRN.out.room
                      have HFI := Lib.hid HRN.out.fin
                      have HD9 := Lib.hid (mv_ok (w := w) HD8.out (HFI.out.2.1.next (Below.refl _ _).drew) HFI.out.2.2.drew)
                      have HST := Lib.hid HFI.out.1.drew
                      clear HFI HRN HT
                      unfold wcs at HST
                      dsimp only at HST HD9
                      go_wp2_with fail
                      exact ret_blk2 rfl rfl rfl rfl HST.out (n := 4) rfl (by kernel_rfl) HD9.out
                  · have HP := Lib.hid (mvE_t hw0 hx hna hs0 hq1 hmm hxe)
                    have hxn : (x != place) = true := by simp [hxe]
                    clear hw0 hnp hx hna hmm hxe
                    generalize inn d place = iv at *
                    have HD8 := Lib.hid (fun W hb => HBAD.out W 5 (HP.out) (by omega) hb)
                    clear HBAD h
                    obtain ⟨A1, n1, c1, A2, n2, c2, A3, n3, c3⟩ := r
                    unfold wv wcs
                    unfold wv wcs at HCK HIN
                    unfold wcs at HS0
                    dsimp only at HCK HIN HS0 ⊢
                    try unfold wv wcs at HCP
                    try dsimp only at HCP
                    dsimp only at hA i2
                    subst hA
                    generalize hsl : d.sl = sl at *
                    have HSL := Lib.hid hsl
                    clear hsl
                    go_enter Try.func13, Try.ntmps13
                    go_wp2_with fail
                    generalize World.alloc (World.alloc w _) _ = w1 at *
                    obtain ⟨k0, k1, k2, k3⟩ := HS0.out.one4
                    dsimp only at k0 k1 k2 k3
                    rw [HSL.out] at k0
                    go_wp2_with fail
                    refine (HCK.out _ HS0.out.bel).mono ?_
                    rintro e w2 ⟨rfl, hb2⟩
                    have HW2 := Lib.hid (HS0.out.next hb2); clear hb2 k0 k1 k2 k3 HS0
                    obtain ⟨k0, k1, k2, k3⟩ := HW2.out.one4
                    dsimp only at k0 k1 k2 k3
                    rw [HSL.out] at k0
                    have g0 := (HW2.out.bel.cell (p := ⟨b, off + kp, none⟩) hb).trans hc0
                    go_wp2_with fail
                    refine (HIN.out _ HW2.out.bel).mono ?_
                    rintro e w3 ⟨rfl, hb3⟩
                    have HW3 := Lib.hid (HW2.out.next hb3); clear hb3 k0 k1 k2 k3 g0
                    obtain ⟨k0, k1, k2, k3⟩ := HW3.out.one4
                    dsimp only at k0 k1 k2 k3
                    rw [HSL.out] at k0
                    have g0 := (HW3.out.bel.cell (p := ⟨b, off + kp, none⟩) hb).trans hc0
                    obtain ⟨x0, y0, z0, u0, ⟨q0, q1, q2, q3⟩, q4, q5, q6, q7⟩ := HW3.out.room
                    have HST := Lib.hid (HW3.out.stored (.int .i64 0) (.slice none 0 0) (.slice none 0 0) (.slice none 0 0))
                    have HD9 := Lib.hid (HD8.out _ HST.out.2)
                    go_wp2_with fail
                    exact ret_blk2 rfl rfl rfl rfl HST.out.1 (n := 4) rfl (by kernel_rfl) HD9.out
                · have hin : inn d place < 0 := by
                    exact Int.not_le.1 fun h9 => hmm ((inn_mem (d := d) hq1).1 h9)
                  have HP := Lib.hid (mvE_0 hw0 hx hna hs0 (.inr (.inl hmm)))
                  clear hw0 hnp hx hna hmm
                  generalize inn d place = iv at *
                  have HD8 := Lib.hid (HP.out)
                  clear HBAD h
                  obtain ⟨A1, n1, c1, A2, n2, c2, A3, n3, c3⟩ := r
                  unfold wv wcs
                  unfold wv wcs at HCK HIN
                  unfold wcs at HS0
                  dsimp only at HCK HIN HS0 ⊢
                  try unfold wv wcs at HCP
                  try dsimp only at HCP
                  dsimp only at hA i2
                  subst hA
                  generalize hsl : d.sl = sl at *
                  have HSL := Lib.hid hsl
                  clear hsl
                  go_enter Try.func13, Try.ntmps13
                  go_wp2_with fail
                  generalize World.alloc (World.alloc w _) _ = w1 at *
                  obtain ⟨k0, k1, k2, k3⟩ := HS0.out.one4
                  dsimp only at k0 k1 k2 k3
                  rw [HSL.out] at k0
                  go_wp2_with fail
                  refine (HCK.out _ HS0.out.bel).mono ?_
                  rintro e w2 ⟨rfl, hb2⟩
                  have HW2 := Lib.hid (HS0.out.next hb2); clear hb2 k0 k1 k2 k3 HS0
                  obtain ⟨k0, k1, k2, k3⟩ := HW2.out.one4
                  dsimp only at k0 k1 k2 k3
                  rw [HSL.out] at k0
                  have g0 := (HW2.out.bel.cell (p := ⟨b, off + kp, none⟩) hb).trans hc0
                  go_wp2_with fail
                  refine (HIN.out _ HW2.out.bel).mono ?_
                  rintro e w3 ⟨rfl, hb3⟩
                  have HW3 := Lib.hid (HW2.out.next hb3); clear hb3 k0 k1 k2 k3 g0
                  obtain ⟨k0, k1, k2, k3⟩ := HW3.out.one4
                  dsimp only at k0 k1 k2 k3
                  rw [HSL.out] at k0
                  have g0 := (HW3.out.bel.cell (p := ⟨b, off + kp, none⟩) hb).trans hc0
                  go_wp2_with fail
                  refine (HCP.out _ HW3.out.bel).mono ?_
                  rintro e w4 ⟨⟨B1, m1, e1, B2, m2, e2, B3, m3, e3⟩, rfl, hm1, hm2, hm3, hR4⟩
                  dsimp only at hm1 hm2 hm3
                  subst hm1 hm2 hm3
                  have HB5 := Lib.hid (BoxS.of (sl := sl) hR4)
                  clear hR4 k0 k1 k2 k3 g0
                  unfold wcs at HB5
                  dsimp only at HB5 ⊢
                  go_upto_region 13 with (fail)
                  generalize w4.heap.size = po at *
                  generalize World.alloc w4 _ = w5 at *
                  obtain ⟨g, hA, hlt, hfr⟩ := HB5.out.at1 HX1.out
                  dsimp only at hA hlt hfr
                  subst hA
                  obtain ⟨gb, hA2, hlt2, hfrb⟩ := HB5.out.at2 HX2.out
                  dsimp only at hA2 hlt2 hfrb
                  subst hA2
                  have f1 := (hfr kp).1
                  obtain ⟨cu, hcu⟩ := Option.isSome_iff_exists.1 ((hfr kp).2 hlt)
                  have f2 := (hfrb kp).1
                  obtain ⟨cv, hcv⟩ := Option.isSome_iff_exists.1 ((hfrb kp).2 hlt2)
                  have HT := Lib.hid ((HB5.out.put1 rfl kp place).put2 rfl kp false)
                  have HGN : Hid (g ≠ gb) := Lib.hid (HB5.out.ne12 rfl rfl)
                  have hgn := HGN.out
                  obtain ⟨o0, o1, o2, o3⟩ := HB5.out.all
                  dsimp only at o0 o1 o2 o3
                  have j2 : (kp : Int) < (m1 : Int) := by omega
                  have j3 : (kp : Int) < (m2 : Int) := by omega
                  have ht1 := HB5.out.put1 rfl kp place
                  obtain ⟨gt, hgt, _, hfrt⟩ := ht1.at2 HX2.out
                  cases hgt
                  have f3 := (hfrt kp).1
                  obtain ⟨cx, hcx⟩ := Option.isSome_iff_exists.1 ((hfrt kp).2 hlt2)
                  obtain ⟨c00, c01, c02, c03⟩ := ht1.all
                  dsimp only at c00 c01 c02 c03
                  clear hfr hfrb hfrt ht1
                  go_wp2_with fail
                  go_region
                  all_goals
                    clear o0 o1 o2 o3 c00 c01 c02 c03
                    have HRN := Lib.hid (BoxS.rns HW3.out HT.out HSL.out.symm)
                    obtain ⟨k0, k1, k2, k3⟩ := HRN.out.one4
                    dsimp only at k0 k1 k2 k3
                    obtain ⟨x0, y0, z0, u0, ⟨q0, q1, q2, q3⟩, q4, q5, q6, q7⟩ := HRN.out.room
                    have HFI := Lib.hid HRN.out.fin
                    have HD9 := Lib.hid (mv_ok (w := w) HD8.out (HFI.out.2.1.next (Below.refl _ _).drew) HFI.out.2.2.drew)
                    have HST := Lib.hid HFI.out.1.drew
                    clear HFI HRN HT
                    unfold wcs at HST
                    dsimp only at HST HD9
                    go_wp2_with fail
                    exact ret_blk2 rfl rfl rfl rfl HST.out (n := 4) rfl (by kernel_rfl) HD9.out
  · have HP := Lib.hid (mvE_w (part := part) (place := place) hw0)
    have hne : (wErr d != 0) = true := by simp [hw0]
    have HD8 := Lib.hid (fun W hb => HBAD.out W _ HP.out hw0 hb)
    clear HBAD h HP hw0
    generalize wErr d = ce at *
    obtain ⟨A1, n1, c1, A2, n2, c2, A3, n3, c3⟩ := r
    unfold wv wcs
    unfold wv wcs at HCK HIN
    unfold wcs at HS0
    dsimp only at HCK HIN HS0 ⊢
    try unfold wv wcs at HCP
    try dsimp only at HCP
    generalize hsl : d.sl = sl at *
    have HSL := Lib.hid hsl
    clear hsl
    go_enter Try.func13, Try.ntmps13
    go_wp2_with fail
    generalize World.alloc (World.alloc w _) _ = w1 at *
    obtain ⟨k0, k1, k2, k3⟩ := HS0.out.one4
    dsimp only at k0 k1 k2 k3
    rw [HSL.out] at k0
    go_wp2_with fail
    refine (HCK.out _ HS0.out.bel).mono ?_
    rintro e w2 ⟨rfl, hb2⟩
    have HW2 := Lib.hid (HS0.out.next hb2); clear hb2 k0 k1 k2 k3 HS0
    obtain ⟨k0, k1, k2, k3⟩ := HW2.out.one4
    dsimp only at k0 k1 k2 k3
    rw [HSL.out] at k0
    obtain ⟨x0, y0, z0, u0, ⟨q0, q1, q2, q3⟩, q4, q5, q6, q7⟩ := HW2.out.room
    have HST := Lib.hid (HW2.out.stored (.int .i64 0) (.slice none 0 0) (.slice none 0 0) (.slice none 0 0))
    have HD9 := Lib.hid (HD8.out _ HST.out.2)
    go_wp2_with fail
    exact ret_blk2 rfl rfl rfl rfl HST.out.1 (n := 4) rfl (by kernel_rfl) HD9.out
end Go.Proofs.Ytnaiflokmihmeaa
