/- Rows of steps; which steps Steps (package act) gathers. -/
import Derived.Test.YtnaiflokmihmeaaAsA
import Derived.Test.YtnaiflokmihmeaaReA
namespace Go.Proofs.Ytnaiflokmihmeaa
open Go.RowKit
set_option linter.unusedVariables false
set_option linter.unusedSimpArgs false

def cellsS (ss : List Stp) : List Value := ss.flatMap valS
theorem cellsS_append (a b : List Stp) : cellsS (a ++ b) = cellsS a ++ cellsS b := by simp [cellsS]
theorem cellsS_length (ss : List Stp) : (cellsS ss).length = ss.length * 5 := by
  induction ss with
  | nil => rfl
  | cons a l ih => rw [show cellsS (a :: l) = valS a ++ cellsS l from rfl, List.length_append, ih]; simp [valS]; omega
theorem cellsS_get {ss : List Stp} {k j : Nat} {s : Stp} {v : Value} (h : ss[k]? = some s) (hj : (valS s)[j]? = some v) : (cellsS ss)[k*5+j]? = some v := by
  have hj5 : j < 5 := by
    have := (List.getElem?_eq_some_iff.1 hj).1
    simpa [valS] using this
  induction ss generalizing k with
  | nil => simp at h
  | cons a l ih =>
    rw [show cellsS (a :: l) = valS a ++ cellsS l from rfl]
    cases k with
    | zero =>
      simp at h; subst h
      rw [Nat.zero_mul, Nat.zero_add, List.getElem?_append_left (by simpa [valS] using hj5)]
      exact hj
    | succ k =>
      simp at h
      rw [List.getElem?_append_right (by simp [valS]; omega)]
      rw [show (k + 1) * 5 + j - (valS a).length = k * 5 + j by simp [valS]; omega]
      exact ih h
section
variable {w : World} {ss : List Stp}
theorem StepsAt.of_own {base : Nat} {e : TypeId} {v : Value} (h : w.ownsRow base e 5 v ss.length (cellsS ss)) :
    ∃ A c, v = .slice A ss.length c ∧ ss.length ≤ c ∧ c ≤ maxLen ∧ StepsAt w w.heap.size A ss := by
  obtain ⟨h1, h2⟩ := h
  rcases h2 with ⟨rfl, hx⟩ | ⟨g, cap, cur, rfl, hg, hh, hnc, hm, hs, hc⟩
  · have : ss = [] := by
      have := cellsS_length ss; rw [hx] at this; simp at this
      exact List.eq_nil_of_length_eq_zero (by omega)
    subst this
    exact ⟨none, 0, rfl, Nat.le_refl _, by unfold maxLen; omega, fun k u hu => by simp at hu⟩
  · refine ⟨some ⟨g, 0, none⟩, cap, rfl, by assumption, by assumption, fun k u hu => ?_⟩
    have hglt : g < w.heap.size := by
      rcases Nat.lt_or_ge g w.heap.size with h' | h'
      · exact h'
      · rw [Array.getElem?_eq_none h'] at hh; cases hh
    have H := World.ownsRow.cells (w := w) (base := base) (e := e) (size := 5) (v := .slice (some ⟨g, 0, none⟩) ss.length cap) (n := ss.length) (xs := cellsS ss) ⟨h1, .inr ⟨g, cap, cur, rfl, hg, hh, hnc, hm, hs, hc⟩⟩ (g := g) rfl
    refine ⟨g, 0, rfl, hglt, fun j v hj => ?_⟩
    have := H _ _ (cellsS_get hu hj)
    rwa [Addr.add_lit] at this
end
theorem infoT : (Try.prog.info? 39).map (fun i => (i.zero, i.size, i.bytes)) = some (some (.agg #[.int .i64 0, .int .i64 0, .int .i64 0, .int .i64 0, .int .i64 0]), 5, 40) := by kernel_rfl
theorem one_t (s : Stp) : ∀ u ∈ (#[.int .i64 s.k, .int .i64 s.a, .int .i64 s.p, .int .i64 s.s, .int .i64 s.t] : Array Value).toList, u.oneCell' = true := by
  intro u hu
  simp at hu
  rcases hu with rfl | rfl | rfl | rfl | rfl <;> rfl
/-- v is a row of the call's own that holds ss -/
def SRow (w : World) (v : Value) (ss : List Stp) (wr : World) : Prop := Rws w [⟨v, 39, 5, ss.length, cellsS ss⟩] wr
section
variable {w wr w' : World} {v v' : Value} {ss : List Stp} {n : Nat}
theorem SRow.steps (h : SRow w v ss wr) : ∃ A c, v = .slice A ss.length c ∧ ss.length ≤ c ∧ c ≤ maxLen ∧ StepsAt wr wr.heap.size A ss := StepsAt.of_own (Rws.head h)
theorem SRow.row (h : SRow w v ss wr) (hn : ss.length = n) : Rws w (⟨v, 39, 5, n, cellsS ss⟩ :: []) wr := by subst hn; exact h
theorem SRow.add {s : Stp} (hn : ss.length = n) (h : Rws w [⟨v', 39, 5, n + 1, cellsS ss ++ (#[.int .i64 s.k, .int .i64 s.a, .int .i64 s.p, .int .i64 s.s, .int .i64 s.t] : Array Value).toList⟩] wr) : SRow w v' (ss ++ [s]) wr := by
  subst hn
  have e : cellsS (ss ++ [s]) = cellsS ss ++ [.int .i64 s.k, .int .i64 s.a, .int .i64 s.p, .int .i64 s.s, .int .i64 s.t] := by simp [cellsS, valS]
  unfold SRow
  rw [e, List.length_append]
  exact h
theorem SRow.nil (h : Below w.heap.size w wr) : SRow w (.slice none 0 0) [] wr := (Rws.begin h).nil _ _
theorem SRow.next (h : SRow w v ss wr) (hb : Below wr.heap.size wr w') : SRow w v ss w' := Rws.next h hb
theorem SRow.bel (h : SRow w v ss wr) : Below w.heap.size w wr := Rws.below h
theorem SRow.re {ts : List Stp} (h : SRow w v ss wr) (e : ts = ss) : SRow w v ts wr := e ▸ h
end
/-- a step of a part or of a slot -/
def psS (np ns : Nat) (s : Stp) : Prop := (0 ≤ s.p ∧ s.p < (np : Int) ∧ s.s = -1) ∨ (s.p = -1 ∧ 0 ≤ s.s ∧ s.s < (ns : Int))
/-- the steps gathered when q kinds, of the next kind a arms, of the next arm j parts and i slots are done -/
def gaS (na np ns q a j i : Nat) (s : Stp) : Prop :=
  s.t = 0 ∧ ((0 ≤ s.k ∧ s.k < (q : Int) ∧ 0 ≤ s.a ∧ s.a < (na : Int) ∧ psS np ns s) ∨ (s.k = (q : Int) ∧ 0 ≤ s.a ∧ s.a < (a : Int) ∧ psS np ns s) ∨ (s.k = (q : Int) ∧ s.a = (a : Int) ∧ psS j i s))
theorem ga_zero (na np ns : Nat) (s : Stp) : ¬ gaS na np ns 0 0 0 0 s := by
  unfold gaS psS
  omega
theorem ga_part (na np ns q a j : Nat) (s : Stp) : gaS na np ns q a (j + 1) 0 s ↔ gaS na np ns q a j 0 s ∨ s = ⟨(q : Int), (a : Int), (j : Int), -1, 0⟩ := by
  obtain ⟨k, b, p, t, u⟩ := s
  simp only [gaS, Stp.mk.injEq]
  constructor
  · rintro ⟨h0, h | h | ⟨h1, h2, h3⟩⟩
    · exact .inl ⟨h0, .inl h⟩
    · exact .inl ⟨h0, .inr (.inl h)⟩
    · rcases h3 with ⟨a1, a2, a3⟩ | ⟨a1, a2, a3⟩
      · dsimp only at a1 a2 a3
        by_cases hp : p < (j : Int)
        · exact .inl ⟨h0, .inr (.inr ⟨h1, h2, .inl ⟨a1, hp, a3⟩⟩)⟩
        · exact .inr ⟨h1, h2, by omega, a3, h0⟩
      · dsimp only at a1 a2 a3
        omega
  · rintro (⟨h0, h | h | ⟨h1, h2, h3⟩⟩ | ⟨h1, h2, h3, h4, h5⟩)
    · exact ⟨h0, .inl h⟩
    · exact ⟨h0, .inr (.inl h)⟩
    · rcases h3 with ⟨a1, a2, a3⟩ | ⟨a1, a2, a3⟩
      · dsimp only at a1 a2 a3
        exact ⟨h0, .inr (.inr ⟨h1, h2, .inl ⟨a1, by dsimp only; omega, a3⟩⟩)⟩
      · dsimp only at a1 a2 a3
        omega
    · exact ⟨h5, .inr (.inr ⟨h1, h2, .inl ⟨by dsimp only; omega, by dsimp only; omega, h4⟩⟩)⟩
theorem ga_slot (na np ns q a i : Nat) (s : Stp) : gaS na np ns q a np (i + 1) s ↔ gaS na np ns q a np i s ∨ s = ⟨(q : Int), (a : Int), -1, (i : Int), 0⟩ := by
  obtain ⟨k, b, p, t, u⟩ := s
  simp only [gaS, Stp.mk.injEq]
  constructor
  · rintro ⟨h0, h | h | ⟨h1, h2, h3⟩⟩
    · exact .inl ⟨h0, .inl h⟩
    · exact .inl ⟨h0, .inr (.inl h)⟩
    · rcases h3 with h3 | ⟨a1, a2, a3⟩
      · exact .inl ⟨h0, .inr (.inr ⟨h1, h2, .inl h3⟩)⟩
      · dsimp only at a1 a2 a3
        by_cases hp : t < (i : Int)
        · exact .inl ⟨h0, .inr (.inr ⟨h1, h2, .inr ⟨a1, a2, hp⟩⟩)⟩
        · exact .inr ⟨h1, h2, a1, by omega, h0⟩
  · rintro (⟨h0, h | h | ⟨h1, h2, h3⟩⟩ | ⟨h1, h2, h3, h4, h5⟩)
    · exact ⟨h0, .inl h⟩
    · exact ⟨h0, .inr (.inl h)⟩
    · rcases h3 with h3 | ⟨a1, a2, a3⟩
      · exact ⟨h0, .inr (.inr ⟨h1, h2, .inl h3⟩)⟩
      · dsimp only at a1 a2 a3
        exact ⟨h0, .inr (.inr ⟨h1, h2, .inr ⟨a1, a2, by dsimp only; omega⟩⟩)⟩
    · exact ⟨h5, .inr (.inr ⟨h1, h2, .inr ⟨h3, by dsimp only; omega, by dsimp only; omega⟩⟩)⟩
theorem ga_arm (na np ns q a : Nat) (s : Stp) : gaS na np ns q (a + 1) 0 0 s ↔ gaS na np ns q a np ns s := by
  obtain ⟨k, b, p, t, u⟩ := s
  simp only [gaS, psS]
  omega
theorem ga_kind (na np ns q : Nat) (s : Stp) : gaS na np ns (q + 1) 0 0 0 s ↔ gaS na np ns q na 0 0 s := by
  obtain ⟨k, b, p, t, u⟩ := s
  simp only [gaS, psS]
  omega
theorem ga_new_part (na np ns q a j : Nat) : ¬ gaS na np ns q a j 0 ⟨(q : Int), (a : Int), (j : Int), -1, 0⟩ := by
  simp only [gaS, psS]
  omega
theorem ga_new_slot (na np ns q a i : Nat) : ¬ gaS na np ns q a np i ⟨(q : Int), (a : Int), -1, (i : Int), 0⟩ := by
  simp only [gaS, psS]
  omega
/-- while steps are gathered -/
structure GsS (w : World) (sl : Int) (r : Raw) (v : Value) (xs : List Stp) (wr : World) : Prop where
  one : Blk wr w.heap.size 25 (wcs sl r)
  row : SRow w v xs wr
section
variable {w wr w' : World} {sl : Int} {r : Raw} {v v' : Value} {xs : List Stp} {n : Nat}
theorem GsS.bel (h : GsS w sl r v xs wr) : Below w.heap.size w wr := h.row.bel
theorem GsS.start (w : World) (sl : Int) (r : Raw) : GsS w sl r (.slice none 0 0) [] (w.alloc (.cells (wcs sl r) 25)) := ⟨Blk.new _ _ _, SRow.nil ((Below.refl _ _).alloc (Nat.le_refl _) _)⟩
theorem GsS.next (h : GsS w sl r v xs wr) (hb : Below wr.heap.size wr w') : GsS w sl r v xs w' := ⟨h.one.belowB hb, h.row.next hb⟩
theorem GsS.four (h : GsS w sl r v xs wr) : wr.cell? ⟨w.heap.size, 0, none⟩ = some (.int .i64 sl) ∧ wr.cell? ⟨w.heap.size, 1, none⟩ = some (.slice r.A1 r.n1 r.c1) ∧ wr.cell? ⟨w.heap.size, 2, none⟩ = some (.slice r.A2 r.n2 r.c2) ∧ wr.cell? ⟨w.heap.size, 3, none⟩ = some (.slice r.A3 r.n3 r.c3) :=
  ⟨h.one.cell 0, h.one.cell 1, h.one.cell 2, h.one.cell 3⟩
theorem GsS.app (h : GsS w sl r v xs wr) {o : Obj} {s : Stp} (hn : xs.length = n) (hR : Rws w [⟨v', 39, 5, n + 1, cellsS xs ++ (#[.int .i64 s.k, .int .i64 s.a, .int .i64 s.p, .int .i64 s.s, .int .i64 s.t] : Array Value).toList⟩] w') (hg : (wr.alloc o).grownBy w' v.ownBlock) : GsS w sl r v' (xs ++ [s]) w' := by
  have h0 := h.next ((Below.refl _ _).alloc (Nat.le_refl _) o)
  exact ⟨h0.one.grown hg (own_blk_ne (Rws.head h0.row) h0.one (by dsimp only; decide)), SRow.add hn hR⟩
end
theorem nodup_app {xs : List Stp} {g : Stp} {p : Stp → Prop} (hn : xs.Nodup) (hm : ∀ s, s ∈ xs ↔ p s) (hg : ¬ p g) : (xs ++ [g]).Nodup :=
  List.nodup_append.2 ⟨hn, by simp, fun a ha b hb e => by
    rw [List.mem_singleton] at hb
    subst hb
    subst e
    exact hg ((hm _).1 ha)⟩
end Go.Proofs.Ytnaiflokmihmeaa
