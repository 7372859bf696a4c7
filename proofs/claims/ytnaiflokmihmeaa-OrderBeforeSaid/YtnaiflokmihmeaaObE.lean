/- Walk: Things (package order). -/
import Derived.Test.YtnaiflokmihmeaaObD
import Derived.Test.YtnaiflokmihmeaaMgK
namespace Go.Proofs.Ytnaiflokmihmeaa
open Go.RowKit
set_option linter.unusedVariables false
set_option linter.unusedSimpArgs false

abbrev Row := Od.Row
def cellR (r : Row) : Value := .slice r.A r.xs.length r.c
/-- ints that lie behind block p and not in block o -/
def IntsO (w : World) (p : Nat) (o : Option Nat) (A : Option Addr) (xs : List Int) : Prop := ∀ k x, xs[k]? = some x → ∃ b off, A = some ⟨b, off, none⟩ ∧ p < b ∧ b < w.heap.size ∧ some b ≠ o ∧ w.cell? ⟨b, off + k, none⟩ = some (.int .i64 x)
theorem IntsO.ints {w : World} {p : Nat} {o : Option Nat} {A : Option Addr} {xs : List Int} (h : IntsO w p o A xs) : IntsAt w w.heap.size A xs := fun k x hx => by
  obtain ⟨b, off, h1, _, h3, _, h5⟩ := h k x hx
  exact ⟨b, off, h1, h3, h5⟩
theorem IntsO.next {w w' : World} {p : Nat} {o : Option Nat} {A : Option Addr} {xs : List Int} (h : IntsO w p o A xs) (hb : Below w.heap.size w w') : IntsO w' p o A xs := fun k x hx => by
  obtain ⟨b, off, h1, h2, h3, h4, h5⟩ := h k x hx
  exact ⟨b, off, h1, h2, Nat.lt_of_lt_of_le h3 hb.size, h4, (hb.cell (p := ⟨b, _, none⟩) h3).trans h5⟩
/-- the world's slices lie elsewhere -/
def OffB (o : Option Nat) (r : Raw) (d : Wd) : Prop := (∀ b k, r.A1 = some ⟨b, k, none⟩ → d.pl ≠ [] → some b ≠ o) ∧ (∀ b k, r.A2 = some ⟨b, k, none⟩ → d.se ≠ [] → some b ≠ o) ∧ (∀ b k, r.A3 = some ⟨b, k, none⟩ → d.sp ≠ [] → some b ≠ o)
theorem WOk.grownO {w w' : World} {r : Raw} {d : Wd} {o : Option Nat} (h : WOk w r d) (hf : OffB o r d) (hg : w.grownBy w' o) : WOk w' r d := by
  have hz := hg.size
  have hc : ∀ b k, b < w.heap.size → some b ≠ o → w'.cell? ⟨b, k, none⟩ = w.cell? ⟨b, k, none⟩ := fun b k hb hn => World.cell?_of_block (a := ⟨b, k, none⟩) (hg.block b hb hn)
  refine { h with i1 := ?_, i2 := ?_, i3 := ?_ } <;> intro k x hx
  · obtain ⟨b, off, hA, hb, h0⟩ := h.i1 k x hx
    exact ⟨b, off, hA, by omega, by rw [hc b _ hb (hf.1 _ _ hA (ne_nil_of_get hx))]; exact h0⟩
  · obtain ⟨b, off, hA, hb, h0⟩ := h.i2 k x hx
    exact ⟨b, off, hA, by omega, by rw [hc b _ hb (hf.2.1 _ _ hA (ne_nil_of_get hx))]; exact h0⟩
  · obtain ⟨b, off, hA, hb, h0⟩ := h.i3 k x hx
    exact ⟨b, off, hA, by omega, by rw [hc b _ hb (hf.2.2 _ _ hA (ne_nil_of_get hx))]; exact h0⟩
theorem OffB.new {w : World} {r : Raw} {d : Wd} (h : WOk w r d) : OffB (some w.heap.size) r d := by
  refine ⟨fun b o ha hx e => ?_, fun b o ha hx e => ?_, fun b o ha hx e => ?_⟩ <;> obtain ⟨x, hx⟩ := get_zero hx
  · obtain ⟨b', o', hA, hb, _⟩ := h.i1 0 x hx
    rw [hA] at ha; injection ha with ha; injection ha with ha; injection e with e; omega
  · obtain ⟨b', o', hA, hb, _⟩ := h.i2 0 x hx
    rw [hA] at ha; injection ha with ha; injection ha with ha; injection e with e; omega
  · obtain ⟨b', o', hA, hb, _⟩ := h.i3 0 x hx
    rw [hA] at ha; injection ha with ha; injection ha with ha; injection e with e; omega
theorem OffB.of_fr {B : Nat} {r : Raw} {d : Wd} {o : Option Nat} (h : FrB B r) (hp : ∀ k, o = some k → k < B) : OffB o r d :=
  ⟨fun b k ha _ e => by have h1 := h _ (.inl ha); have h2 := hp b e.symm; dsimp only at h1; omega, fun b k ha _ e => by have h1 := h _ (.inr (.inl ha)); have h2 := hp b e.symm; dsimp only at h1; omega, fun b k ha _ e => by have h1 := h _ (.inr (.inr ha)); have h2 := hp b e.symm; dsimp only at h1; omega⟩
theorem setCell_grownO (w : World) (p : Addr) (u : Value) : w.grownBy (w.setCell p u) (some p.block) :=
  ⟨by unfold World.setCell; split <;> rfl, by unfold World.setCell; split <;> rfl, by unfold World.setCell; split <;> rfl, by simp, fun i _ hi => Below.heap_setCell w p u i (fun e => hi (by rw [e]))⟩
/-- while Things works: the box with the world, the rows so far -/
structure ThS (w : World) (dj : Wd) (rj : Raw) (v : Value) (rows : List Row) (wr : World) : Prop where
  bel : Below w.heap.size w wr
  one : Blk wr w.heap.size 25 (wcs dj.sl rj)
  ok : WOk wr rj dj
  okf : OffB v.ownBlock rj dj
  row : wr.ownsRow w.heap.size 22 1 v rows.length (rows.map cellR)
  off : ∀ r ∈ rows, IntsO wr w.heap.size v.ownBlock r.A r.xs
  len : ∀ r ∈ rows, r.xs.length ≤ 64
section
variable {w wr w' : World} {dj d' : Wd} {rj r' : Raw} {v v' : Value} {rows : List Row}
theorem ThS.next (h : ThS w dj rj v rows wr) (hb : Below wr.heap.size wr w') : ThS w dj rj v rows w' :=
  ⟨h.bel.trans (hb.mono h.bel.size), h.one.belowB hb, h.ok.next hb, h.okf, own_below h.row hb, fun r hr => (h.off r hr).next hb, h.len⟩
theorem ThS.four (h : ThS w dj rj v rows wr) : wr.cell? ⟨w.heap.size, 0, none⟩ = some (.int .i64 dj.sl) ∧ wr.cell? ⟨w.heap.size, 1, none⟩ = some (.slice rj.A1 rj.n1 rj.c1) ∧ wr.cell? ⟨w.heap.size, 2, none⟩ = some (.slice rj.A2 rj.n2 rj.c2) ∧ wr.cell? ⟨w.heap.size, 3, none⟩ = some (.slice rj.A3 rj.n3 rj.c3) :=
  ⟨h.one.cell 0, h.one.cell 1, h.one.cell 2, h.one.cell 3⟩
theorem ThS.froz (h : ThS w dj rj v rows wr) : wr.frozen? ⟨w.heap.size, 0, none⟩ = false ∧ wr.frozen? ⟨w.heap.size, 1, none⟩ = false ∧ wr.frozen? ⟨w.heap.size, 2, none⟩ = false ∧ wr.frozen? ⟨w.heap.size, 3, none⟩ = false := ⟨h.one.frozen 0, h.one.frozen 1, h.one.frozen 2, h.one.frozen 3⟩
theorem ThS.start (w : World) {d : Wd} {r : Raw} (hw : Below w.heap.size (w.alloc (.cells (wcs d.sl r) 25)) w') (h : WOk w r d) (hb : Below (w.alloc (.cells (wcs d.sl r) 25)).heap.size (w.alloc (.cells (wcs d.sl r) 25)) w') : ThS w d r (.slice none 0 0) [] w' := by
  have e1 : Below w.heap.size w (w.alloc (.cells (wcs d.sl r) 25)) := (Below.refl _ _).alloc (Nat.le_refl _) _
  exact ⟨e1.trans hw, (Blk.new w _ _).belowB hb, (h.next e1).next hb, ⟨fun _ _ _ _ e => (by cases e), fun _ _ _ _ e => (by cases e), fun _ _ _ _ e => (by cases e)⟩, ⟨by simp, .inl ⟨rfl, rfl⟩⟩, fun r hr => by simp at hr, fun r hr => by simp at hr⟩
/-- new ints may be put behind -/
theorem ints_o {W : World} {A : Option Addr} {xs : List Int} (h : ThS w dj rj v rows wr) (hi : IntsAt W W.heap.size A xs) (hf : ∀ ad, A = some ad → wr.heap.size ≤ ad.block) : IntsO W w.heap.size v.ownBlock A xs := fun k x hx => by
  obtain ⟨b, off, h1, h2, h3⟩ := hi k x hx
  have h4 := hf _ h1
  have h5 := h.one.lt
  dsimp only at h4
  exact ⟨b, off, h1, by omega, h2, fun e => by have := (h.row.lt b e.symm).2; omega, h3⟩
theorem ThS.grown {r0 : Row} (h : ThS w dj rj v rows wr) (h0 : IntsO wr w.heap.size v.ownBlock r0.A r0.xs) (hl : r0.xs.length ≤ 64) (a1 : w'.ownsRow w.heap.size 22 1 v' (rows.length + 1) (rows.map cellR ++ [cellR r0])) (a2 : wr.grownBy w' v.ownBlock) (a3 : v'.ownBlock = v.ownBlock ∨ v'.ownBlock = some wr.heap.size) : ThS w dj rj v' (rows ++ [r0]) w' := by
  have key : ∀ (A : Option Addr) (xs : List Int), IntsO wr w.heap.size v.ownBlock A xs → IntsO w' w.heap.size v'.ownBlock A xs := fun A xs hi k x hx => by
    obtain ⟨b, off, h1, h2, h3, h4, h5⟩ := hi k x hx
    refine ⟨b, off, h1, h2, Nat.lt_of_lt_of_le h3 a2.size, fun e => ?_, ?_⟩
    · rcases a3 with e3 | e3
      · rw [e3] at e; exact h4 e
      · rw [e3] at e; injection e with e; omega
    · have hbk : w'.heap[b]? = wr.heap[b]? := a2.block b h3 h4
      exact (World.cell?_of_block (a := ⟨b, off + k, none⟩) hbk).trans h5
  refine ⟨h.bel.grown a2 h.bel.size (fun k hk => (h.row.lt k hk).1), h.one.grown a2 (own_blk_ne h.row h.one (by decide)), h.ok.grownO h.okf a2, ?_, by rw [List.length_append, List.map_append]; exact a1, fun r hr => ?_, fun r hr => ?_⟩
  · rcases a3 with e3 | e3
    · rw [e3]; exact h.okf
    · rw [e3]; exact OffB.new h.ok
  · rcases List.mem_append.1 hr with hr | hr
    · exact key _ _ (h.off r hr)
    · rw [List.mem_singleton] at hr; subst hr; exact key _ _ h0
  · rcases List.mem_append.1 hr with hr | hr
    · exact h.len r hr
    · rw [List.mem_singleton] at hr; subst hr; exact hl
theorem ThS.move (h : ThS w dj rj v rows wr) (ho : WOk wr r' d') {B : Nat} (hf : FrB B r') (hB : w.heap.size < B) (hB2 : ∀ k, v.ownBlock = some k → k < B) : ThS w d' r' v rows (put4 wr w.heap.size (.int .i64 d'.sl) (.slice r'.A1 r'.n1 r'.c1) (.slice r'.A2 r'.n2 r'.c2) (.slice r'.A3 r'.n3 r'.c3)) := by
  have hs : ∀ {w1 : World} {cs : Array Value} (i : Nat) (u : Value), Blk w1 w.heap.size 25 cs → w1.ownsRow w.heap.size 22 1 v rows.length (rows.map cellR) → (w1.setCell ⟨w.heap.size, i, none⟩ u).ownsRow w.heap.size 22 1 v rows.length (rows.map cellR) := fun {w1 cs} i u hb hr =>
    hr.kept (setCell_grownO w1 ⟨w.heap.size, i, none⟩ u) (.inr (Ne.symm (own_blk_ne hr hb (by decide))))
  have b1 := h.one
  have r1 := hs 0 (.int .i64 d'.sl) b1 h.row
  have r2 := hs 1 (.slice r'.A1 r'.n1 r'.c1) (b1.set_ 0 _) r1
  have r3 := hs 2 (.slice r'.A2 r'.n2 r'.c2) ((b1.set_ 0 _).set_ 1 _) r2
  have r4 := hs 3 (.slice r'.A3 r'.n3 r'.c3) (((b1.set_ 0 _).set_ 1 _).set_ 2 _) r3
  refine ⟨h.bel.trans (below_put4 (Nat.le_refl _) wr _ _ _ _), blk_put4 h.one _ _ _ _, ho.putO (Off.of_fr hf hB) _ _ _ _, OffB.of_fr hf hB2, r4, fun r hr k x hx => ?_, h.len⟩
  obtain ⟨b, off, h1, h2, h3, h4, h5⟩ := h.off r hr k x hx
  have hc : ∀ (w1 : World) i u, (w1.setCell ⟨w.heap.size, i, none⟩ u).cell? ⟨b, off + k, none⟩ = w1.cell? ⟨b, off + k, none⟩ := fun w1 i u => World.cell?_setCell_other _ _ _ _ (fun e => by injection e with e; omega)
  refine ⟨b, off, h1, h2, ?_, h4, ?_⟩
  · unfold put4; simpa using h3
  · unfold put4; rw [hc, hc, hc, hc]; exact h5
theorem ThS.rowsAt {A : Option Addr} {n c : Nat} (h : ThS w dj rj (.slice A n c) rows wr) : n = rows.length ∧ n ≤ c ∧ c ≤ maxLen ∧ Od.RowsAt wr wr.heap.size A rows := by
  rcases h.row.2 with ⟨e, h0⟩ | ⟨g, c', cur, e, hg, hh, hc, hm, hs, ht⟩
  · cases e
    have : rows = [] := List.eq_nil_of_length_eq_zero h0
    subst this
    exact ⟨rfl, Nat.le_refl _, by unfold maxLen; omega, fun k r hk => by simp at hk⟩
  · cases e
    refine ⟨rfl, hc, hm, fun k r hk => ?_⟩
    have hkl := (List.getElem?_eq_some_iff.1 hk).1
    have hgl : g < wr.heap.size := (Array.getElem?_eq_some_iff.1 hh).1
    refine ⟨g, 0, rfl, hgl, ?_, by have := h.len r (List.mem_of_getElem? hk); omega, (h.off r (List.mem_of_getElem? hk)).ints⟩
    rw [Nat.zero_add, Blk.cell hh, ← Array.getElem?_toList, ← List.getElem?_take_of_lt (show k < rows.length * 1 by omega), ht, List.getElem?_map, hk]
    rfl
theorem ThS.slc (h : ThS w dj rj v rows wr) : ∃ A c, v = .slice A rows.length c := by
  rcases h.row.2 with ⟨rfl, h0⟩ | ⟨g, c, cur, rfl, _⟩
  · exact ⟨none, 0, by rw [h0]⟩
  · exact ⟨_, c, rfl⟩
end
theorem infoSl : (Try.prog.info? 22).map (fun i => (i.zero, i.size, i.bytes)) = some (some (.slice none 0 0), 1, 24) := by kernel_rfl
section
variable {w w1 : World} {dj : Wd} {rj : Raw} {v : Value} {rows : List Row}
/-- one more row -/
theorem wpList_append_rows {ops : Array Oper} {rest : List Oper} {o : Oper} {a : Act} {Q : Exit → Act → World → Prop} (hgd : o.guard = none) (s x : Operand)
    (ho : o.op = .call { callee := .builtin .append, args := #[s, x], argTypes := #[57, 57] }) {r0 : Row} (hO : ThS w dj rj v rows w1) (h0 : IntsO w1 w.heap.size v.ownBlock r0.A r0.xs) (hl0 : r0.xs.length ≤ 64) (hs : a.eval s = v) (hx : a.eval x = .slice (some ⟨w1.heap.size, 0, none⟩) 1 1) (hnm : rows.length ≤ 1000)
    (h : ∀ A c w', ThS w dj rj (.slice A (rows.length + 1) c) (rows ++ [r0]) w' → (∀ {p : Nat} {T : TypeId} {cs : Array Value}, Blk w1 p T cs → 22 ≠ T → Blk w' p T cs) → wpList Try.prog ops Q rest (a.put o.dst (.slice A (rows.length + 1) c)) w') : wpList Try.prog ops Q (o :: rest) a (w1.alloc (.cells #[.slice r0.A r0.xs.length r0.c] 22)) := by
  obtain ⟨i0, hi0, hz0, hz1, hz2⟩ := info_parts infoSl
  have hb : Below w1.heap.size w1 (w1.alloc (.cells #[.slice r0.A r0.xs.length r0.c] 22)) := (Below.refl _ _).alloc (Nat.le_refl _) _
  have hO2 := hO.next hb
  refine wpList_plain hgd fun _ hK => wp_append_any _ s x _ ho w.heap.size 22 i0 _ 1 24 Try.underlying57 hi0 hz0 hz1 hz2 rfl (by omega) v rows.length (rows.map cellR) hs hO2.row _ _ 1 1 [cellR r0] hx ((Blk.new w1 _ _).reads rfl (by simp [cellR])) (by simp [cellR]; rfl) (by unfold maxLen; omega) (by omega) hO2.bel.size fun v' w' a1 a2 a3 => ?_
  have h9 := hO2.grown (r0 := r0) (h0.next hb) hl0 a1 a2 a3
  obtain ⟨A, c, e⟩ := h9.slc
  rw [List.length_append] at e
  subst e
  exact hK _ _ (h A c w' h9 (fun {p T cs} hB hne => (hB.belowB hb).grown a2 (own_blk_ne hO2.row (hB.belowB hb) hne)))
end
/-- the things of a plan -/
def ThPost (d : Wd) (ss : List Stp) (w : World) (e : Ending) (w' : World) : Prop := ∃ A n c rows, e = .returned (.tuple #[.slice A n c, .int .i64 (thE d ss)]) ∧ Od.ll rows = thR d ss ∧ n = rows.length ∧ n ≤ c ∧ c ≤ maxLen ∧ Od.RowsAt w' w'.heap.size A rows ∧ (∀ r ∈ rows, r.xs.length ≤ 64) ∧ Below w.heap.size w w'
theorem th_bad {d : Wd} {ss : List Stp} {w W : World} {c : Int} (h : thE d ss = c) (h0 : c ≠ 0) (hb : Below w.heap.size w W) : ThPost d ss w (.returned (.tuple #[.slice none 0 0, .int .i64 c])) W := by
  subst h
  exact ⟨none, 0, 0, [], rfl, by unfold thR; rw [if_neg h0]; rfl, rfl, Nat.le_refl _, by unfold maxLen; omega, fun k r hk => by simp at hk, fun r hr => by simp at hr, hb⟩
theorem th_ok {d dj : Wd} {rj : Raw} {ss : List Stp} {w W : World} {A : Option Addr} {n c : Nat} {rows : List Row} (h : thE d ss = 0) (hS : ThS w dj rj (.slice A n c) rows W) (hr : Od.ll rows = (thL d ss).take ss.length) : ThPost d ss w (.returned (.tuple #[.slice A n c, .int .i64 0])) W := by
  obtain ⟨h1, h2, h3, h4⟩ := hS.rowsAt
  refine ⟨A, n, c, rows, by rw [h], ?_, h1, h2, h3, h4, hS.len, hS.bel⟩
  unfold thR
  rw [if_pos h, hr, List.take_of_length_le (by rw [thL_len]; exact Nat.le_refl _)]
end Go.Proofs.Ytnaiflokmihmeaa
