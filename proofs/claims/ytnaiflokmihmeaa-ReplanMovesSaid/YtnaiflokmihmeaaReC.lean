/- ReplanMoves: what stands while the law works; plain facts. -/
import Derived.Test.YtnaiflokmihmeaaReA
import Derived.Test.YtnaiflokmihmeaaReB
namespace Go.Proofs.Ytnaiflokmihmeaa
open Go.RowKit
set_option linter.unusedVariables false
set_option linter.unusedSimpArgs false

theorem mvE_inv {d : Wd} {part place : Int} (h : mvE d part place = 0) : wErr d = 0 ∧ ∃ (kp : Nat) (x : Int), part = kp ∧ d.pl[kp]? = some x := by
  unfold mvE at h
  by_cases h1 : wErr d = 0
  · rw [if_neg (by simp [h1])] at h
    by_cases h2 : part < 0 ∨ (d.pl.length : Int) ≤ part
    · rw [if_pos h2] at h; cases h
    · obtain ⟨kp, hk⟩ := Int.eq_ofNat_of_zero_le (show 0 ≤ part by omega)
      obtain ⟨x, hx⟩ := get_ex (xs := d.pl) (k := kp) (by omega)
      exact ⟨h1, kp, x, hk, hx⟩
  · rw [if_pos h1] at h; exact absurd h h1
/-- does another part lie there, among the first j -/
def hitB (d : Wd) (kp : Nat) (place : Int) (j : Nat) : Prop := ∃ i, i < j ∧ i ≠ kp ∧ d.pl[i]? = some place
theorem hit_no {d : Wd} {kp j : Nat} {place x : Int} (h : ¬ hitB d kp place j) (hx : d.pl[j]? = some x) (hn : j = kp ∨ x ≠ place) : ¬ hitB d kp place (j + 1) := by
  rintro ⟨i, h1, h2, h3⟩
  by_cases h4 : i = j
  · subst h4
    rw [hx] at h3
    have := Option.some.inj h3
    rcases hn with h5 | h5
    · exact h2 h5
    · exact h5 this
  · exact h ⟨i, by omega, h2, h3⟩
theorem hit_more {d : Wd} {kp j : Nat} {place : Int} (h : hitB d kp place j) : hitB d kp place (j + 1) := by
  obtain ⟨i, h1, h2, h3⟩ := h
  exact ⟨i, by omega, h2, h3⟩
theorem hit_new {d : Wd} {kp j : Nat} {place : Int} (hn : j ≠ kp) (hx : d.pl[j]? = some place) : hitB d kp place (j + 1) := ⟨j, by omega, hn, hx⟩
theorem mvE_hit {d : Wd} {kp : Nat} {x place : Int} (h : wErr d = 0) (hx : d.pl[kp]? = some x) (h2 : ¬ (place < -1 ∨ d.sl ≤ place)) (h3 : ¬ x < -1) (h4 : 0 ≤ place) (hh : hitB d kp place d.pl.length) : mvE d (kp : Int) place = 5 := by
  obtain ⟨i, h5, h6, h7⟩ := hh
  refine mvE_t h hx h2 h3 h4 (List.mem_of_getElem? h7) fun e => ?_
  subst e
  exact h6 ((vd_of h).pun i kp _ h7 hx (by omega))
theorem mvE_nohit {d : Wd} {kp : Nat} {x place : Int} (h : wErr d = 0) (hx : d.pl[kp]? = some x) (h2 : ¬ (place < -1 ∨ d.sl ≤ place)) (h3 : ¬ x < -1) (hh : ¬ hitB d kp place d.pl.length) : mvE d (kp : Int) place = 0 := by
  refine mvE_0 h hx h2 h3 ?_
  by_cases h4 : x = place
  · exact .inr (.inr h4)
  · refine .inr (.inl fun hm => ?_)
    obtain ⟨i, hi⟩ := List.mem_iff_getElem?.1 hm
    refine hh ⟨i, (List.getElem?_eq_some_iff.1 hi).1, fun e => ?_, hi⟩
    subst e
    rw [hx] at hi
    exact h4 (Option.some.inj hi)
theorem same_sl (D : Wd) (s : Int) (hs : D.sl = s) (r q : Raw) (w : World) (h : WOk w r D) (h' : WOk w q D) :
    Calls Try.prog 12 #[wv s r, wv s q] w fun x w' => x = .returned (.bool true) ∧ Below w.heap.size w w' := by
  subst hs
  exact same_self D r q w h h'
/-- the world and what Moved gave, in variables -/
structure NxS (w : World) (s : Int) (r : Raw) (pa : Nat) (D : Wd) (r1 : Raw) (wr : World) : Prop where
  bel : Below w.heap.size w wr
  one : Blk wr w.heap.size 25 (wcs s r)
  nxt : Blk wr pa 25 (wcs D.sl r1)
  ok1 : WOk wr r1 D
section
variable {w wr w' W : World} {s : Int} {r r1 q1 : Raw} {pa pb : Nat} {D d : Wd}
theorem NxS.of (h : W1S w s r wr) (ho : WOk wr r1 D) : NxS w s r wr.heap.size D r1 (wr.alloc (.cells (wcs D.sl r1) 25)) :=
  ⟨h.bel.alloc h.bel.size _, h.one.alloc _, Blk.new _ _ _, ho.next ((Below.refl _ _).alloc (Nat.le_refl _) _)⟩
theorem NxS.next (h : NxS w s r pa D r1 wr) (hb : Below wr.heap.size wr w') : NxS w s r pa D r1 w' :=
  ⟨h.bel.trans (hb.mono h.bel.size), h.one.belowB hb, h.nxt.belowB hb, h.ok1.next hb⟩
theorem NxS.four (h : NxS w s r pa D r1 wr) : wr.cell? ⟨w.heap.size, 0, none⟩ = some (.int .i64 s) ∧ wr.cell? ⟨w.heap.size, 1, none⟩ = some (.slice r.A1 r.n1 r.c1) ∧ wr.cell? ⟨w.heap.size, 2, none⟩ = some (.slice r.A2 r.n2 r.c2) ∧ wr.cell? ⟨w.heap.size, 3, none⟩ = some (.slice r.A3 r.n3 r.c3) :=
  ⟨h.one.cell 0, h.one.cell 1, h.one.cell 2, h.one.cell 3⟩
/-- and what is wanted -/
structure LwS (w : World) (s : Int) (r : Raw) (pa pb : Nat) (D : Wd) (r1 q1 : Raw) (wr : World) : Prop where
  n : NxS w s r pa D r1 wr
  wnt : Blk wr pb 25 (wcs D.sl q1)
  ok2 : WOk wr q1 D
theorem LwS.next (h : LwS w s r pa pb D r1 q1 wr) (hb : Below wr.heap.size wr w') : LwS w s r pa pb D r1 q1 w' :=
  ⟨h.n.next hb, h.wnt.belowB hb, h.ok2.next hb⟩
theorem LwS.drew (h : LwS w s r pa pb D r1 q1 wr) : LwS w s r pa pb D r1 q1 wr.drew := h.next (Below.refl _ _).drew
theorem LwS.zero (hD : D = noWd) (h : NxS w s r pa D r1 wr) : LwS w s r pa wr.heap.size D r1 noRaw (wr.alloc (.cells #[.int .i64 0, .slice none 0 0, .slice none 0 0, .slice none 0 0] 25))  := by
  subst hD
  exact ⟨h.next ((Below.refl _ _).alloc (Nat.le_refl _) _), Blk.new _ _ _, WOk.no _⟩
theorem LwS.cells (h : LwS w s r pa pb D r1 q1 wr) : (wr.cell? ⟨pa, 0, none⟩ = some (.int .i64 D.sl) ∧ wr.cell? ⟨pa, 1, none⟩ = some (.slice r1.A1 r1.n1 r1.c1) ∧ wr.cell? ⟨pa, 2, none⟩ = some (.slice r1.A2 r1.n2 r1.c2) ∧ wr.cell? ⟨pa, 3, none⟩ = some (.slice r1.A3 r1.n3 r1.c3)) ∧
    wr.cell? ⟨pb, 0, none⟩ = some (.int .i64 D.sl) ∧ wr.cell? ⟨pb, 1, none⟩ = some (.slice q1.A1 q1.n1 q1.c1) ∧ wr.cell? ⟨pb, 2, none⟩ = some (.slice q1.A2 q1.n2 q1.c2) ∧ wr.cell? ⟨pb, 3, none⟩ = some (.slice q1.A3 q1.n3 q1.c3) :=
  ⟨⟨h.n.nxt.cell 0, h.n.nxt.cell 1, h.n.nxt.cell 2, h.n.nxt.cell 3⟩, h.wnt.cell 0, h.wnt.cell 1, h.wnt.cell 2, h.wnt.cell 3⟩
theorem LwS.of (h : NxS w s r pa D r1 W) (hB : BoxS W pb D.sl q1 D wr) : LwS w s r pa pb D r1 q1 wr :=
  ⟨h.next hB.row.below, hB.out, rows3_ok hB.row⟩
/-- while the wanted world is copied -/
structure CwS (w : World) (s : Int) (r : Raw) (W wr : World) : Prop where
  lt : w.heap.size < W.heap.size
  bel : Below W.heap.size W wr
  one : Blk wr w.heap.size 25 (wcs s r)
  res : ∃ x y z u, Blk wr W.heap.size 25 #[x, y, z, u]
theorem CwS.start (h : NxS w s r pa D r1 W) : CwS w s r W (W.alloc (.cells #[.int .i64 0, .slice none 0 0, .slice none 0 0, .slice none 0 0] 25)) :=
  ⟨h.one.lt, (Below.refl _ _).alloc (Nat.le_refl _) _, h.one.alloc _, ⟨_, _, _, _, Blk.new _ _ _⟩⟩
theorem CwS.next (h : CwS w s r W wr) (hb : Below wr.heap.size wr w') : CwS w s r W w' := by
  obtain ⟨h0, h1, h2, x, y, z, u, h3⟩ := h
  exact ⟨h0, h1.trans (hb.mono h1.size), h2.belowB hb, ⟨x, y, z, u, h3.belowB hb⟩⟩
theorem CwS.drew (h : CwS w s r W wr) : CwS w s r W wr.drew := h.next (Below.refl _ _).drew
theorem CwS.store (h : CwS w s r W wr) (a b c e : Value) : CwS w s r W (put4 wr W.heap.size a b c e) := by
  obtain ⟨h0, h1, h2, x, y, z, u, h3⟩ := h
  have hn : w.heap.size ≠ W.heap.size := by omega
  exact ⟨h0, h1.trans (below_put4 (Nat.le_refl _) wr _ _ _ _), (((h2.far (p := ⟨_, 0, none⟩) hn _).far (p := ⟨_, 1, none⟩) hn _).far (p := ⟨_, 2, none⟩) hn _).far (p := ⟨_, 3, none⟩) hn _, ⟨a, b, c, e, blk_put4 h3 a b c e⟩⟩
theorem CwS.sub (h : NxS w s r pa D r1 W) (hc : CwS w s r W wr) : Below w.heap.size w wr := h.bel.trans (hc.bel.mono h.bel.size)
theorem CwS.room (h : CwS w s r W wr) : Room W.heap.size wr := by
  obtain ⟨h0, h1, h2, x, y, z, u, h3⟩ := h
  exact room_of h3
theorem CwS.all (h : CwS w s r W wr) : wr.cell? ⟨w.heap.size, 0, none⟩ = some (.int .i64 s) ∧ wr.cell? ⟨w.heap.size, 1, none⟩ = some (.slice r.A1 r.n1 r.c1) ∧ wr.cell? ⟨w.heap.size, 2, none⟩ = some (.slice r.A2 r.n2 r.c2) ∧ wr.cell? ⟨w.heap.size, 3, none⟩ = some (.slice r.A3 r.n3 r.c3) ∧ CwS w s r W wr :=
  ⟨h.one.cell 0, h.one.cell 1, h.one.cell 2, h.one.cell 3, h⟩
theorem CwS.box (h : CwS w s r W wr) {ro : Raw} (hR : Rws W (rows3 ro d) wr) : BoxS W W.heap.size s ro d (put4 wr W.heap.size (.int .i64 s) (.slice ro.A1 ro.n1 ro.c1) (.slice ro.A2 ro.n2 ro.c2) (.slice ro.A3 ro.n3 ro.c3)) := by
  obtain ⟨h0, h1, h2, x, y, z, u, h3⟩ := h
  have hp : ∀ r ∈ rows3 ro d, r.v.ownBlock ≠ some W.heap.size := by
    intro q hq e
    have hne : q.e ≠ 25 := by
      simp only [rows3, List.mem_cons, List.not_mem_nil, or_false] at hq
      rcases hq with rfl | rfl | rfl <;> (dsimp only; decide)
    exact own_blk_ne (hR.own q hq) h3 hne e.symm
  refine ⟨Nat.le_refl _, blk_put4 h3 _ _ _ _, ?_⟩
  exact (((hR.store_far (p := ⟨W.heap.size, 0, none⟩) hp (Nat.le_refl _) _).store_far (p := ⟨W.heap.size, 1, none⟩) hp (Nat.le_refl _) _).store_far (p := ⟨W.heap.size, 2, none⟩) hp (Nat.le_refl _) _).store_far (p := ⟨W.heap.size, 3, none⟩) hp (Nat.le_refl _) _
end
theorem StepsAt.one {w : World} {g : Nat} {t : TypeId} {s : Stp} (h : Blk w g t #[.int .i64 s.k, .int .i64 s.a, .int .i64 s.p, .int .i64 s.s, .int .i64 s.t]) : StepsAt w w.heap.size (some ⟨g, 0, none⟩) [s] := by
  intro k y hy
  cases k with
  | zero =>
    cases hy
    refine ⟨g, 0, rfl, h.lt, fun j v hj => ?_⟩
    have := h.cell j
    simp only [Nat.zero_mul, Nat.zero_add]
    rw [this]
    rcases j with _ | _ | _ | _ | _ | j
    · exact hj
    · exact hj
    · exact hj
    · exact hj
    · exact hj
    · simp [valS] at hj
  | succ k => simp at hy
theorem LwS.two {w W : World} {s : Int} {r r1 q1 : Raw} {pa pb z : Nat} {D : Wd} (h : LwS w s r pa pb D r1 q1 W) (hz : W.heap.size = z) :
    LwS w s r pa pb D r1 q1 ((W.alloc (.cells #[.int .i64 0, .int .i64 0, .int .i64 0, .int .i64 0, .int .i64 1] 39)).alloc (.cells #[.int .i64 0, .int .i64 0, .int .i64 0, .int .i64 0, .int .i64 1] 39)) ∧
    StepsAt ((W.alloc (.cells #[.int .i64 0, .int .i64 0, .int .i64 0, .int .i64 0, .int .i64 1] 39)).alloc (.cells #[.int .i64 0, .int .i64 0, .int .i64 0, .int .i64 0, .int .i64 1] 39)) ((W.alloc (.cells #[.int .i64 0, .int .i64 0, .int .i64 0, .int .i64 0, .int .i64 1] 39)).alloc (.cells #[.int .i64 0, .int .i64 0, .int .i64 0, .int .i64 0, .int .i64 1] 39)).heap.size (some ⟨z, 0, none⟩) [⟨0, 0, 0, 0, 1⟩] ∧
    StepsAt ((W.alloc (.cells #[.int .i64 0, .int .i64 0, .int .i64 0, .int .i64 0, .int .i64 1] 39)).alloc (.cells #[.int .i64 0, .int .i64 0, .int .i64 0, .int .i64 0, .int .i64 1] 39)) ((W.alloc (.cells #[.int .i64 0, .int .i64 0, .int .i64 0, .int .i64 0, .int .i64 1] 39)).alloc (.cells #[.int .i64 0, .int .i64 0, .int .i64 0, .int .i64 0, .int .i64 1] 39)).heap.size (some ⟨z + 1, 0, none⟩) [⟨0, 0, 0, 0, 1⟩] := by
  subst hz
  have hz : (W.alloc (.cells #[.int .i64 0, .int .i64 0, .int .i64 0, .int .i64 0, .int .i64 1] 39)).heap.size = W.heap.size + 1 := by simp
  refine ⟨(h.next ((Below.refl _ _).alloc (Nat.le_refl _) _)).next ((Below.refl _ _).alloc (Nat.le_refl _) _), StepsAt.one (s := ⟨0, 0, 0, 0, 1⟩) (t := 39) ((Blk.new W _ _).alloc _), StepsAt.one (s := ⟨0, 0, 0, 0, 1⟩) (t := 39) (Blk.at_ hz.symm)⟩
end Go.Proofs.Ytnaiflokmihmeaa
