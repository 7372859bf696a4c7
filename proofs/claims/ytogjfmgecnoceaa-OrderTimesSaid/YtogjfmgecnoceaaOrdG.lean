/- Walks: LatestOf (reference). -/
import Derived.Test.YtogjfmgecnoceaaOrdF
import Derived.Test.YtogjfmgecnoceaaGrowB
import Derived.Deep.RegionHeld3
namespace Go.Proofs.Ytogjfmgecnoceaa
open Go.RowKit
set_option linter.unusedVariables false
set_option linter.unusedSimpArgs false

theorem infoS : (Try.prog.info? 23).map (fun i => (i.zero, i.size, i.bytes)) = some (some (.slice none 0 0), 1, 24) := by kernel_rfl
theorem make_s (n : Nat) (hn : n ≤ 4294967296) (w : World) : (Instr.makeSlice 29 (.int .i64 (n : Int)) (.int .i64 (n : Int))).run Try.prog w = .ok (.slice (some ⟨w.heap.size, 0, none⟩) n n) (w.alloc (.cells (Array.replicate n (.slice none 0 0)) 23)) := by
  obtain ⟨i0, hi0, hz0, hz1, hz2⟩ := info_parts infoS
  exact run_make_ Try.underlying29 hi0 hz0 hz1 rfl n (by rw [hz2]; omega) (by omega) w
/-- the rows of a slice of slices -/
def rowsB (vs : List Value) (B : List (List Int)) : List Rw := (vs.zip B).map fun p => ⟨p.1, 3, 1, p.2.length, cellsI p.2⟩
theorem rowsB_get {vs : List Value} {B : List (List Int)} {i : Nat} {v : Value} {ys : List Int} (hv : vs[i]? = some v) (hy : B[i]? = some ys) : (rowsB vs B)[i]? = some ⟨v, 3, 1, ys.length, cellsI ys⟩ := by
  have h1 : (vs.zip B)[i]? = some (v, ys) := List.getElem?_zip_eq_some.2 ⟨hv, hy⟩
  simp [rowsB, h1]
theorem rowsB_set {vs : List Value} {B : List (List Int)} {i : Nat} {v : Value} {ys : List Int} : (rowsB vs B).set i ⟨v, 3, 1, ys.length, cellsI ys⟩ = rowsB (vs.set i v) (B.set i ys) := by
  unfold rowsB
  induction vs generalizing B i with
  | nil => simp
  | cons a vs ih =>
    cases B with
    | nil => simp
    | cons b B =>
      cases i with
      | zero => simp
      | succ i => simp only [List.zip_cons_cons, List.set_cons_succ, List.map_cons, List.cons.injEq, true_and]; exact ih
/-- the slice of slices in block G under way -/
structure BkS (w w3 : World) (G g2 : Nat) (vs : List Value) (B : List (List Int)) (own : List Int) (wr : World) : Prop where
  blk : Blk wr G 23 vs.toArray
  own : IBlk wr g2 own
  len : vs.length = B.length
  rows : RwsB w3.heap.size (rowsB vs B) wr
  size : w3.heap.size ≤ wr.heap.size
  bel : Below w.heap.size w wr
section
variable {w w3 wr w' : World} {G g2 : Nat} {vs : List Value} {B : List (List Int)} {own : List Int}
theorem BkS.at_ (h : BkS w w3 G g2 vs B own wr) {i : Nat} {ys : List Int} (hy : B[i]? = some ys) : ∃ v, vs[i]? = some v ∧ wr.cell? ⟨G, i, none⟩ = some v ∧ (rowsB vs B)[i]? = some ⟨v, 3, 1, ys.length, cellsI ys⟩ ∧ ∃ A c, v = .slice A ys.length c := by
  obtain ⟨v, hv⟩ := get_of_lt rfl (show i < vs.length by rw [h.len]; exact (List.getElem?_eq_some_iff.1 hy).1)
  have hr := rowsB_get hv hy
  have ho := h.rows.own _ (List.mem_of_getElem? hr)
  refine ⟨v, hv, ?_, hr, ?_⟩
  · rw [h.blk.cell]; simp [hv]
  · obtain ⟨A, c, e, _⟩ := IntsAt.of_own ho
    exact ⟨A, c, e⟩
theorem BkS.setOwn (h : BkS w w3 G g2 vs B own wr) (hne : G ≠ g2) (h2 : g2 < w3.heap.size) (hw : w.heap.size ≤ g2) (k : Nat) (y : Int) : BkS w w3 G g2 vs B (own.set k y) (wr.setCell ⟨g2, k, none⟩ (.int .i64 y)) :=
  ⟨h.blk.far (p := ⟨g2, k, none⟩) hne _, h.own.set_ k y, h.len, h.rows.setCell (p := ⟨g2, k, none⟩) h2 _, by simp; exact h.size, h.bel.setCell hw _⟩
theorem BkS.setRow (h : BkS w w3 G g2 vs B own wr) (hne : G ≠ g2) (hG : G < w3.heap.size) (h2 : g2 < w3.heap.size) (hw : w.heap.size ≤ G) (hw3 : w.heap.size ≤ w3.heap.size) {i : Nat} {v : Value} {ys : List Int}
    (hR : RwsB w3.heap.size ((rowsB vs B).set i ⟨v, 3, 1, ys.length, cellsI ys⟩) w') (hk : ∀ k, k < w3.heap.size → w'.heap[k]? = wr.heap[k]?) (hb : Below w3.heap.size wr w') : BkS w w3 G g2 (vs.set i v) (B.set i ys) own (w'.setCell ⟨G, i, none⟩ v) := by
  have h1 : Blk w' G 23 vs.toArray := (hk G hG).trans h.blk
  have h3 := h1.set_ i v
  rw [show vs.toArray.setIfInBounds i v = (vs.set i v).toArray by simp] at h3
  refine ⟨h3, ?_, by simp [h.len], ?_, by simp; exact Nat.le_trans h.size hb.size, (h.bel.trans (hb.mono hw3)).setCell hw _⟩
  · have h4 : IBlk w' g2 own := (hk g2 h2).trans h.own
    exact h4.far (p := ⟨G, i, none⟩) (Ne.symm hne) _
  · rw [← rowsB_set]
    exact hR.setCell (p := ⟨G, i, none⟩) hG _
theorem BkS.frozen (h : BkS w w3 G g2 vs B own wr) (i : Nat) : wr.frozen? ⟨G, i, none⟩ = false := h.blk.frozen i
theorem BkS.read (h : BkS w w3 G g2 vs B own wr) : ∃ rsB : List Row, ll rsB = B ∧ rsB.length = B.length ∧ RowsAt wr wr.heap.size (some ⟨G, 0, none⟩) rsB := by
  obtain ⟨rsB, hl, hr⟩ := list_of (n := B.length) (R := fun i (r : Row) => B[i]? = some r.xs ∧ vs[i]? = some (.slice r.A r.xs.length r.c) ∧ r.xs.length ≤ 9223372036854775807 ∧ IntsAt wr wr.heap.size r.A r.xs) (by
    intro i hi
    obtain ⟨ys, hy⟩ := get_of_lt rfl hi
    obtain ⟨v, hv, _, hr, _⟩ := h.at_ hy
    obtain ⟨A, c, rfl, h1, h2, h3⟩ := IntsAt.of_own (h.rows.own _ (List.mem_of_getElem? hr))
    exact ⟨⟨A, c, ys⟩, hy, hv, by unfold maxLen at h2; show ys.length ≤ _; omega, h3⟩)
  refine ⟨rsB, ?_, hl, fun k r hk => ?_⟩
  · refine List.ext_getElem? fun i => ?_
    by_cases hi : i < B.length
    · obtain ⟨r, hri⟩ := get_of_lt hl.symm hi
      rw [ll_get hri, (hr i r hri).1]
    · rw [List.getElem?_eq_none (by rw [ll_len]; omega), List.getElem?_eq_none (by omega)]
  · obtain ⟨h1, h2, h3, h4⟩ := hr k r hk
    refine ⟨G, 0, rfl, h.blk.lt, ?_, h3, h4⟩
    rw [Nat.zero_add, h.blk.cell]; simp [h2]
end
/-- the edges looked at, before row k and up to q of it -/
def Up (rs : List (List Int)) (k q : Nat) (k' x : Nat) : Prop := (k' < k ∧ Edge rs k' x) ∨ (k' = k ∧ ∃ xs, rs[k]? = some xs ∧ (x : Int) ∈ xs.take q)
theorem Up.zero {rs : List (List Int)} {k k' x : Nat} : Up rs k 0 k' x ↔ (k' < k ∧ Edge rs k' x) := by
  unfold Up
  constructor
  · rintro (h | ⟨_, xs, _, h⟩)
    · exact h
    · simp at h
  · exact .inl
theorem Up.all {rs : List (List Int)} {k k' x : Nat} {xs : List Int} (h : rs[k]? = some xs) {m : Nat} (hm : xs.length = m) : Up rs (k+1) 0 k' x ↔ Up rs k m k' x := by
  rw [Up.zero]
  unfold Up
  constructor
  · rintro ⟨h1, h2⟩
    by_cases e : k' = k
    · subst e
      obtain ⟨ys, h3, h4⟩ := h2
      rw [h] at h3; injection h3 with h3; subst h3
      exact .inr ⟨rfl, xs, h, by rw [← hm, List.take_length]; exact h4⟩
    · exact .inl ⟨by omega, h2⟩
  · rintro (⟨h1, h2⟩ | ⟨rfl, ys, h1, h2⟩)
    · exact ⟨by omega, h2⟩
    · exact ⟨by omega, ys, h1, List.mem_of_mem_take h2⟩
theorem Up.step {rs : List (List Int)} {k q : Nat} {xs : List Int} (h : rs[k]? = some xs) {x : Nat} (hx : xs[q]? = some (x : Int)) (k' x' : Nat) : Up rs k (q+1) k' x' ↔ Up rs k q k' x' ∨ (k' = k ∧ x' = x) := by
  unfold Up
  constructor
  · rintro (h1 | ⟨rfl, ys, h1, h2⟩)
    · exact .inl (.inl h1)
    · rw [h] at h1; injection h1 with h1; subst h1
      rw [List.take_add_one, hx] at h2
      simp only [Option.toList_some, List.mem_append, List.mem_singleton] at h2
      rcases h2 with h2 | h2
      · exact .inl (.inr ⟨rfl, xs, h, h2⟩)
      · exact .inr ⟨rfl, by omega⟩
  · rintro ((h1 | ⟨rfl, ys, h1, h2⟩) | ⟨rfl, rfl⟩)
    · exact .inl h1
    · rw [h] at h1; injection h1 with h1; subst h1
      refine .inr ⟨rfl, xs, h, ?_⟩
      rw [List.take_add_one]; exact List.mem_append_left _ h2
    · refine .inr ⟨rfl, xs, h, ?_⟩
      rw [List.take_add_one, hx]; simp
theorem Up.last {rs : List (List Int)} {n k' x : Nat} (hn : n = rs.length) : Edge rs k' x ↔ Up rs n 0 k' x := by
  rw [Up.zero]
  constructor
  · intro h
    obtain ⟨xs, h1, h2⟩ := h
    exact ⟨by rw [hn]; exact (List.getElem?_eq_some_iff.1 h1).1, xs, h1, h2⟩
  · exact fun h => h.2
/-- what has been built -/
structure Bld (n : Nat) (rs : List (List Int)) (ts : List Int) (k q kk : Nat) (B : List (List Int)) (own : List Int) : Prop where
  bi : BI n (Up rs k q) B
  own : own.length = n ∧ ∀ j, j < kk → j < n → own[n - 1 - j]? = some (nth ts j)
  short : ∀ ys ∈ B, ys.length ≤ 41 * k + q
theorem Bld.zero (n : Nat) (rs : List (List Int)) (ts : List Int) : Bld n rs ts 0 0 0 (List.replicate n []) (List.replicate n 0) := by
  refine ⟨⟨by simp, fun j hj => ⟨[], by simp [List.getElem?_replicate]; omega, fun y => ?_⟩⟩, ⟨by simp, fun j hj => by omega⟩, fun ys hy => by rw [(List.mem_replicate.1 hy).2]; simp⟩
  constructor
  · intro h; simp at h
  · rintro ⟨k, h, _⟩
    rw [Up.zero] at h
    omega
theorem Bld.setOwn {n : Nat} {rs : List (List Int)} {ts : List Int} {k : Nat} {B : List (List Int)} {own : List Int} (h : Bld n rs ts k 0 k B own) (hk : k < n) {t : Int} (ht : nth ts k = t) : Bld n rs ts k 0 (k+1) B (own.set (n - 1 - k) t) :=
  ⟨h.bi, ⟨by rw [List.length_set, h.own.1], fun j hj hjn => by
    by_cases e : j = k
    · subst e; rw [List.getElem?_set_self (by rw [h.own.1]; omega), ht]
    · rw [List.getElem?_set_ne (by omega)]; exact h.own.2 j (by omega) hjn⟩, h.short⟩
theorem Bld.push {n : Nat} {rs : List (List Int)} {ts : List Int} {k q kk : Nat} {B : List (List Int)} {own : List Int} (h : Bld n rs ts k q kk B own) {xs : List Int} (hxs : rs[k]? = some xs) {x : Nat} (hx : xs[q]? = some (x : Int)) (hxn : x < n) {ys : List Int} (hy : B[n - 1 - x]? = some ys) : Bld n rs ts k (q+1) kk (B.set (n - 1 - x) (ys ++ [((n - 1 - k : Nat) : Int)])) own := by
  refine ⟨h.bi.step hxn hy (Up.step hxs hx), h.own, fun zs hz => ?_⟩
  rcases List.mem_or_eq_of_mem_set hz with hz | rfl
  · have := h.short zs hz; omega
  · have := h.short ys (List.mem_of_getElem? hy)
    simp; omega
theorem Bld.next {n : Nat} {rs : List (List Int)} {ts : List Int} {k m : Nat} {B : List (List Int)} {own : List Int} (h : Bld n rs ts k m (k+1) B own) {xs : List Int} (hxs : rs[k]? = some xs) (hm : xs.length = m) (hm40 : m ≤ 41) : Bld n rs ts (k+1) 0 (k+1) B own :=
  ⟨h.bi.congr fun k' x => Up.all hxs hm, h.own, fun ys hy => by have := h.short ys hy; omega⟩
end Go.Proofs.Ytogjfmgecnoceaa
