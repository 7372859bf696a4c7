/- Walks: slices.Sort and slices.Compact at rows of ints; the closure of touch (package order). -/
import Derived.Test.YtnaiflokmihmeaaObA
import Derived.Test.YtnaiflokmihmeaaSrt
import Derived.Test.YtnaiflokmihmeaaCpt
import Derived.Sort.OwnSortedInts
namespace Go.Proofs.Ytnaiflokmihmeaa
open Go.RowKit
set_option linter.unusedVariables false
set_option linter.unusedSimpArgs false

theorem IntsAt.left {w : World} {B : Nat} {A : Option Addr} {xs ys : List Int} (h : IntsAt w B A (xs ++ ys)) : IntsAt w B A xs := fun k x hk => h k x (by
  have := (List.getElem?_eq_some_iff.1 hk).1
  rw [List.getElem?_append_left this]; exact hk)
/-- slices.Sort at a row of the call's own -/
theorem sortR_any (base g n c : Nat) (l : List Int) (w : World) (hn : l.length = n) (hR : w.ownsRow base 3 1 (.slice (some ⟨g, 0, none⟩) n c) n (cellsI l)) (hsz : n ≤ 1000000) :
    Calls Try.prog 75 #[.slice (some ⟨g, 0, none⟩) n c] w fun e w' => e = .returned (.tuple #[]) ∧ w'.ownsRow base 3 1 (.slice (some ⟨g, 0, none⟩) n c) n (cellsI (l.mergeSort fun x y => decide (x ≤ y))) ∧ w.grownBy w' (some g) := by
  subst hn
  rcases hR.2 with ⟨h0, _⟩ | ⟨g', c', cur, hv, hg, hh, hc, hm, hs, ht⟩
  · cases h0
  cases hv
  rw [Nat.mul_one] at ht
  have hb : g < w.heap.size := (Array.getElem?_eq_some_iff.1 hh).1
  refine (Try.slices_Sort_int g 0 c l w (Go.holds_of_blockI hh ht) hb (by omega)).mono ?_
  rintro e w' ⟨rfl, n, os, rfl⟩
  refine ⟨rfl, ?_, Go.grownBy_sortedI _⟩
  exact Go.ownsRow_sortedI (ss := l) (by rw [List.length_mergeSort]) hg hh hc hm hs
/-- slices.Compact at a row of the call's own -/
theorem compR_any (base g n c : Nat) (l : List Int) (w : World) (hn : l.length = n) (hR : w.ownsRow base 3 1 (.slice (some ⟨g, 0, none⟩) n c) n (cellsI l)) (hsz : n ≤ 1000000) :
    Calls Try.prog 101 #[.slice (some ⟨g, 0, none⟩) n c] w fun e w' => e = .returned (.slice (some ⟨g, 0, none⟩) (Go.Lib.compact l).length c) ∧ IntsAt w' w'.heap.size (some ⟨g, 0, none⟩) (Go.Lib.compact l) ∧ (Go.Lib.compact l).length ≤ c ∧ c ≤ maxLen ∧ w.grownBy w' (some g) := by
  subst hn
  rcases hR.2 with ⟨h0, _⟩ | ⟨g', c', cur, hv, hg, hh, hc, hm, hs, ht⟩
  · cases h0
  cases hv
  rw [Nat.mul_one] at ht
  have hle : (Go.Lib.compact l).length ≤ l.length := by
    unfold Go.Lib.compact Go.Lib.compactUpTo
    rw [List.length_map]
    exact Nat.le_trans (List.length_filter_le _ _) (by simp)
  refine (Try.slices_Compact_int g 0 c l w (Go.holds_of_blockI hh ht) (by omega) hc).mono ?_
  rintro e w' ⟨rfl, q, rfl⟩
  have hr := Go.ownsRow_sortedI (w := w) (base := base) (n := q) (os := #[]) (ss := l) (ts := Go.Lib.compact l ++ List.replicate (l.length - (Go.Lib.compact l).length) 0) (cap := c) (by rw [List.length_append, List.length_replicate]; omega) hg hh hc hm hs
  have hgr := Go.grownBy_sortedI (w := w) (g := g) (n := q) (os := #[]) (Go.Lib.compact l ++ List.replicate (l.length - (Go.Lib.compact l).length) 0).toArray
  rw [Go.Sort.grow_empty] at hr hgr
  have hlen : (Go.Lib.compact l ++ List.replicate (l.length - (Go.Lib.compact l).length) 0).length = l.length := by rw [List.length_append, List.length_replicate]; omega
  generalize List.replicate (l.length - (Go.Lib.compact l).length) (0 : Int) = zs at *
  rw [← hlen] at hr
  obtain ⟨A, c9, e9, h9, h8, h7⟩ := IntsAt.of_own hr
  cases e9
  exact ⟨rfl, h7.left, by omega, hm, hgr⟩
/-- while touch works: boxes with the world, the step and the list so far -/
structure OT (w0 : World) (p2 p3 p5 : Nat) (d : Wd) (r : Raw) (s : Stp) (v : Value) (l : List Int) (wr : World) : Prop where
  bel : Below w0.heap.size w0 wr
  b2 : Blk wr p2 25 (wcs d.sl r)
  b3 : Blk wr p3 39 #[.int .i64 s.k, .int .i64 s.a, .int .i64 s.p, .int .i64 s.s, .int .i64 s.t]
  b5 : Blk wr p5 22 #[v]
  row : wr.ownsRow w0.heap.size 3 1 v l.length (cellsI l)
  n2 : p2 ≠ p5
  n3 : p3 ≠ p5
  g5 : w0.heap.size ≤ p5
section
variable {w0 wr w' : World} {p2 p3 p5 : Nat} {d : Wd} {r : Raw} {s : Stp} {v v' : Value} {l l' : List Int}
theorem OT.next (h : OT w0 p2 p3 p5 d r s v l wr) (hb : Below wr.heap.size wr w') : OT w0 p2 p3 p5 d r s v l w' :=
  ⟨h.bel.trans (hb.mono h.bel.size), h.b2.belowB hb, h.b3.belowB hb, h.b5.belowB hb, own_below h.row hb, h.n2, h.n3, h.g5⟩
/-- the row has grown or turned, the box not yet -/
theorem OT.mid (h : OT w0 p2 p3 p5 d r s v l wr) (hg : wr.grownBy w' v.ownBlock) : Below w0.heap.size w0 w' ∧ Blk w' p2 25 (wcs d.sl r) ∧ Blk w' p3 39 #[.int .i64 s.k, .int .i64 s.a, .int .i64 s.p, .int .i64 s.s, .int .i64 s.t] ∧ Blk w' p5 22 #[v] :=
  ⟨h.bel.grown hg h.bel.size (fun k hk => (h.row.lt k hk).1), h.b2.grown hg (own_blk_ne h.row h.b2 (by decide)), h.b3.grown hg (own_blk_ne h.row h.b3 (by decide)), h.b5.grown hg (own_blk_ne h.row h.b5 (by decide))⟩
theorem OT.same (h : OT w0 p2 p3 p5 d r s v l wr) (hg : wr.grownBy w' v.ownBlock) (hr : w'.ownsRow w0.heap.size 3 1 v l'.length (cellsI l')) : OT w0 p2 p3 p5 d r s v l' w' :=
  ⟨(h.mid hg).1, (h.mid hg).2.1, (h.mid hg).2.2.1, (h.mid hg).2.2.2, hr, h.n2, h.n3, h.g5⟩
theorem OT.put (h : OT w0 p2 p3 p5 d r s v l wr) (hg : wr.grownBy w' v.ownBlock) (hr : w'.ownsRow w0.heap.size 3 1 v' l'.length (cellsI l')) : OT w0 p2 p3 p5 d r s v' l' (w'.setCell ⟨p5, 0, none⟩ v') := by
  obtain ⟨a1, a2, a3, a4⟩ := h.mid hg
  refine ⟨a1.setCell (p := ⟨p5, 0, none⟩) h.g5 _, a2.far (p := ⟨p5, 0, none⟩) h.n2 _, a3.far (p := ⟨p5, 0, none⟩) h.n3 _, a4.set_ 0 v', hr.kept ?_ (.inr (Ne.symm (own_blk_ne hr a4 (by decide)))), h.n2, h.n3, h.g5⟩
  exact ⟨by unfold World.setCell; split <;> rfl, by unfold World.setCell; split <;> rfl, by unfold World.setCell; split <;> rfl, by simp, fun i _ hi => Below.heap_setCell w' ⟨p5, 0, none⟩ v' i (fun e => hi (by rw [e]))⟩
theorem OT.slc (h : OT w0 p2 p3 p5 d r s v l wr) : ∃ A c, v = .slice A l.length c ∧ l.length ≤ c ∧ c ≤ maxLen := by
  obtain ⟨A, c, e, h1, h2, _⟩ := IntsAt.of_own h.row
  exact ⟨A, c, e, h1, h2⟩
theorem OT.all (h : OT w0 p2 p3 p5 d r s v l wr) : wr.cell? ⟨p2, 0, none⟩ = some (.int .i64 d.sl) ∧ wr.cell? ⟨p2, 1, none⟩ = some (.slice r.A1 r.n1 r.c1) ∧ wr.cell? ⟨p2, 2, none⟩ = some (.slice r.A2 r.n2 r.c2) ∧ wr.cell? ⟨p2, 3, none⟩ = some (.slice r.A3 r.n3 r.c3) ∧
    wr.cell? ⟨p3, 0, none⟩ = some (.int .i64 s.k) ∧ wr.cell? ⟨p3, 1, none⟩ = some (.int .i64 s.a) ∧ wr.cell? ⟨p3, 2, none⟩ = some (.int .i64 s.p) ∧ wr.cell? ⟨p3, 3, none⟩ = some (.int .i64 s.s) ∧ wr.cell? ⟨p5, 0, none⟩ = some v ∧ wr.frozen? ⟨p5, 0, none⟩ = false :=
  ⟨h.b2.cell 0, h.b2.cell 1, h.b2.cell 2, h.b2.cell 3, h.b3.cell 0, h.b3.cell 1, h.b3.cell 2, h.b3.cell 3, h.b5.cell 0, h.b5.frozen 0⟩
end
section
variable {w0 w : World} {p2 p3 p5 : Nat} {d : Wd} {r : Raw} {st : Stp} {v : Value} {l : List Int}
theorem wp_append_ob {o : Oper} {a : Act} {K : Act → World → Prop} {Q : Exit → Act → World → Prop} (s x : Operand)
    (ho : o.op = .call { callee := .builtin .append, args := #[s, x], argTypes := #[22, 22] }) {g : Nat} {y : Int} (hO : OT w0 p2 p3 p5 d r st v l w) (hg : Blk w g 3 #[.int .i64 y]) (hs : a.eval s = v) (hx : a.eval x = .slice (some ⟨g, 0, none⟩) 1 1) (hnm : l.length ≤ 1000)
    (h : ∀ A c w', w'.cell? ⟨p5, 0, none⟩ = some v → w'.frozen? ⟨p5, 0, none⟩ = false → OT w0 p2 p3 p5 d r st (.slice A (l.length + 1) c) (l ++ [y]) (w'.setCell ⟨p5, 0, none⟩ (.slice A (l.length + 1) c)) → K (a.put o.dst (.slice A (l.length + 1) c)) w') : o.wp Try.prog a w K Q := by
  obtain ⟨i0, hi0, hz0, hz1, hz2⟩ := info_parts infoI
  refine wp_append_any w s x _ ho w0.heap.size 3 i0 _ 1 8 Try.underlying22 hi0 hz0 hz1 hz2 rfl (by omega) v l.length (cellsI l) hs hO.row w.heap.size _ 1 1 [.int .i64 y] hx (hg.reads rfl (by simp)) (by simp; rfl) (by unfold maxLen; omega) (by omega) hO.bel.size fun v' w' a1 a2 a3 => ?_
  have e1 : cellsI l ++ [.int .i64 y] = cellsI (l ++ [y]) := by simp [cellsI]
  rw [e1] at a1
  have a1' : w'.ownsRow w0.heap.size 3 1 v' (l ++ [y]).length (cellsI (l ++ [y])) := by rw [List.length_append]; exact a1
  obtain ⟨A, c, e9, _⟩ := IntsAt.of_own a1'
  rw [List.length_append] at e9
  subst e9
  exact h A c w' ((hO.mid a2).2.2.2.cell 0) ((hO.mid a2).2.2.2.frozen 0) (hO.put a2 a1')
theorem wpList_append_ob {ops : Array Oper} {rest : List Oper} {o : Oper} {a : Act} {Q : Exit → Act → World → Prop} (hgd : o.guard = none) (s x : Operand)
    (ho : o.op = .call { callee := .builtin .append, args := #[s, x], argTypes := #[22, 22] }) {y : Int} (hO : OT w0 p2 p3 p5 d r st v l w) (hs : a.eval s = v) (hx : a.eval x = .slice (some ⟨w.heap.size, 0, none⟩) 1 1) (hnm : l.length ≤ 1000)
    (h : ∀ A c w', w'.cell? ⟨p5, 0, none⟩ = some v → w'.frozen? ⟨p5, 0, none⟩ = false → OT w0 p2 p3 p5 d r st (.slice A (l.length + 1) c) (l ++ [y]) (w'.setCell ⟨p5, 0, none⟩ (.slice A (l.length + 1) c)) → wpList Try.prog ops Q rest (a.put o.dst (.slice A (l.length + 1) c)) w') : wpList Try.prog ops Q (o :: rest) a (w.alloc (.cells #[.int .i64 y] 3)) :=
  wpList_plain hgd fun _ hK => wp_append_ob s x ho (hO.next ((Below.refl _ _).alloc (Nat.le_refl _) _)) (Blk.new w _ _) hs hx hnm fun A c w' h1 h2 h3 => hK _ _ (h A c w' h1 h2 h3)
end
/-- what a closure of touch has done -/
def TcPost (w0 : World) (p2 p3 p5 : Nat) (d : Wd) (r : Raw) (s : Stp) (l : List Int) (e : Ending) (w' : World) : Prop := e = .returned (.tuple #[]) ∧ ∃ v, OT w0 p2 p3 p5 d r s v l w'
set_option maxHeartbeats 2000000 in
set_option maxRecDepth 20000 in
theorem tch_any (w0 : World) (p2 p3 p5 : Nat) (d : Wd) (r : Raw) (s : Stp) (v : Value) (l : List Int) (w : World) (h : OT w0 p2 p3 p5 d r s v l w) (x : Int) (hx : -1000000 ≤ x ∧ x ≤ 1000000) (hl : l.length ≤ 1000) :
    Calls Try.prog 100 #[.int .i64 x, .pointer (some ⟨p5, 0, none⟩)] w (TcPost w0 p2 p3 p5 d r s (l ++ spL x)) := by
  obtain ⟨A, c, rfl, _, _⟩ := h.slc
  have HO := Lib.hid h
  clear h
  by_cases h1 : x = -1
  · subst h1
    have HE : Hid (l ++ spL (-1) = l) := Lib.hid (by simp [spL])
    rw [HE.out]
    go_enter Try.func100, Try.ntmps100
    go_wp2_with fail
    go_end0
    exact ⟨rfl, _, HO.out⟩
  · have HE : Hid (l ++ spL x = l ++ [20 + x]) := Lib.hid (by simp [spL, h1])
    rw [HE.out]
    have hne : (x != -1) = true := by simp [h1]
    have hw := i64_w (20 + x) (by omega) (by omega)
    clear h1
    obtain ⟨_, _, _, _, _, _, _, _, c0, _⟩ := HO.out.all
    go_enter Try.func100, Try.ntmps100
    go_wp2_with (at_builtin; refine wpList_append_ob rfl _ _ rfl HO.out rfl rfl hl ?_; intro A6 c6 w6 k6 f6 hO6)
    go_end0
    exact ⟨rfl, _, hO6⟩
end Go.Proofs.Ytnaiflokmihmeaa
