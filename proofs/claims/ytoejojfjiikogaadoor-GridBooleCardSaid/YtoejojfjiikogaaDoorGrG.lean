/- Slices of cells; a row of cells of the call's own. -/
import Derived.Test.YtoejojfjiikogaaDoorGrL
import Derived.Test.YtoejojfjiikogaaDoorGrow
import Derived.Test.YtoejojfjiikogaaDoorGrowI
import Derived.Test.YtoejojfjiikogaaDoorGrowL

namespace Go.Proofs.YtoejojfjiikogaaDoor
open Go.RowKit Go.ChangeShapes Go.WideShapes Go.Deep
set_option linter.unusedVariables false
set_option linter.unusedSimpArgs false

def cellsF (ss : List Ft) : List Value := ss.flatMap valG
theorem cellsF_append (a b : List Ft) : cellsF (a ++ b) = cellsF a ++ cellsF b := by simp [cellsF]
theorem cellsF_length (ss : List Ft) : (cellsF ss).length = ss.length*2 := by
  induction ss with
  | nil => rfl
  | cons a l ih => rw [show cellsF (a :: l) = valG a ++ cellsF l from rfl, List.length_append, ih]; simp [valG]; omega
theorem cellsF_get {ss : List Ft} {k j : Nat} {s : Ft} {v : Value} (h : ss[k]? = some s) (hj : (valG s)[j]? = some v) : (cellsF ss)[k*2+j]? = some v := by
  have hj3 : j < 2 := by
    have := (List.getElem?_eq_some_iff.1 hj).1
    simpa [valG] using this
  induction ss generalizing k with
  | nil => simp at h
  | cons a l ih =>
    rw [show cellsF (a :: l) = valG a ++ cellsF l from rfl]
    cases k with
    | zero =>
      simp at h; subst h
      rw [Nat.zero_mul, Nat.zero_add, List.getElem?_append_left (by simpa [valG] using hj3)]
      exact hj
    | succ k =>
      simp at h
      rw [List.getElem?_append_right (by simp [valG]; omega)]
      rw [show (k + 1)*2 + j - (valG a).length = k*2 + j by simp [valG]; omega]
      exact ih h
/-- the slice at A holds the facts ss -/
def FactsAt (w : World) (B : Nat) (A : Option Addr) (ss : List Ft) : Prop :=
  ∀ k s, ss[k]? = some s → ∃ b off, A = some ⟨b, off, none⟩ ∧ b < B ∧ ∀ j v, (valG s)[j]? = some v → w.cell? ⟨b, off + (k*2+j), none⟩ = some v
section
variable {w w' : World} {B B' : Nat} {A : Option Addr} {ss : List Ft}
theorem FactsAt.below (h : FactsAt w B A ss) (hb : Below B' w w') (hB : B ≤ B') : FactsAt w' B A ss := by
  intro k x hx
  obtain ⟨b, off, hA, hlt, h0⟩ := h k x hx
  exact ⟨b, off, hA, hlt, fun j v hj => (hb.cell (p := ⟨b, _, none⟩) (Nat.lt_of_lt_of_le hlt hB)).trans (h0 j v hj)⟩
theorem FactsAt.more (h : FactsAt w B A ss) (hB : B ≤ B') : FactsAt w B' A ss := by
  intro k x hx
  obtain ⟨b, off, hA, hlt, h0⟩ := h k x hx
  exact ⟨b, off, hA, Nat.lt_of_lt_of_le hlt hB, h0⟩
theorem FactsAt.nil : FactsAt w B A [] := fun k x h => by simp at h
theorem FactsAt.next (h : FactsAt w w.heap.size A ss) (hb : Below w.heap.size w w') : FactsAt w' w'.heap.size A ss := (h.below hb (Nat.le_refl _)).more hb.size
theorem FactsAt.two (h : FactsAt w B A ss) {k : Nat} {s : Ft} (hk : ss[k]? = some s) : ∃ b off, A = some ⟨b, off, none⟩ ∧ b < B ∧
    w.cell? ⟨b, off + k*2, none⟩ = some (.int .i64 s.x) ∧ w.cell? ⟨b, off + k*2+1, none⟩ = some (.int .i64 s.y) := by
  obtain ⟨b, off, hA, hb, h0⟩ := h k s hk
  exact ⟨b, off, hA, hb, h0 0 _ rfl, h0 1 _ rfl⟩
theorem FactsAt.take (h : FactsAt w B A ss) (j : Nat) : FactsAt w B A (ss.take j) := by
  intro k s hk
  rw [List.getElem?_take] at hk
  split at hk
  · exact h k s hk
  · cases hk
theorem FactsAt.of_own {base : Nat} {e : TypeId} {v : Value} (h : w.ownsRow base e 2 v ss.length (cellsF ss)) :
    ∃ A c, v = .slice A ss.length c ∧ ss.length ≤ c ∧ c ≤ maxLen ∧ FactsAt w w.heap.size A ss := by
  obtain ⟨h1, h2⟩ := h
  rcases h2 with ⟨rfl, hx⟩ | ⟨g, cap, cur, rfl, hg, hh, hnc, hm, hs, hc⟩
  · have : ss = [] := by
      have := cellsF_length ss; rw [hx] at this; simp at this
      exact List.eq_nil_of_length_eq_zero (by omega)
    subst this
    exact ⟨none, 0, rfl, Nat.le_refl _, by unfold maxLen; omega, fun k u hu => by simp at hu⟩
  · refine ⟨some ⟨g, 0, none⟩, cap, rfl, by assumption, by assumption, fun k u hu => ?_⟩
    have hglt : g < w.heap.size := by
      rcases Nat.lt_or_ge g w.heap.size with h' | h'
      · exact h'
      · rw [Array.getElem?_eq_none h'] at hh; cases hh
    have H := World.ownsRow.cells (w := w) (base := base) (e := e) (size := 2) (v := .slice (some ⟨g, 0, none⟩) ss.length cap) (n := ss.length) (xs := cellsF ss) ⟨h1, .inr ⟨g, cap, cur, rfl, hg, hh, hnc, hm, hs, hc⟩⟩ (g := g) rfl
    refine ⟨g, 0, rfl, hglt, fun j v hj => ?_⟩
    have := H _ _ (cellsF_get hu hj)
    rwa [Addr.add_lit] at this
end

theorem infoFt : (Tryd.prog.info? 60).map (fun i => (i.zero, i.size, i.bytes)) = some (some (.agg #[.int .i64 0, .int .i64 0]), 2, 16) := by kernel_rfl
theorem one_ft (x : Ft) : ∀ u ∈ (#[.int .i64 x.x, .int .i64 x.y] : Array Value).toList, u.oneCell' = true := by
  intro u hu; simp at hu; rcases hu with rfl | rfl <;> rfl
/-- v is a row of the call's own that holds the facts xs -/
def FRow (w : World) (v : Value) (xs : List Ft) (wr : World) : Prop := Rws w [⟨v, 60, 2, xs.length, cellsF xs⟩] wr
section
variable {w wr w' : World} {v v' : Value} {xs : List Ft} {n : Nat}
theorem FRow.facts (h : FRow w v xs wr) : ∃ A c, v = .slice A xs.length c ∧ xs.length ≤ c ∧ c ≤ maxLen ∧ FactsAt wr wr.heap.size A xs := FactsAt.of_own (Rws.head h)
theorem FRow.row (h : FRow w v xs wr) (hn : xs.length = n) : Rws w (⟨v, 60, 2, n, cellsF xs⟩ :: []) wr := by subst hn; exact h
theorem FRow.add {x : Ft} (hn : xs.length = n) (h : Rws w [⟨v', 60, 2, n + 1, cellsF xs ++ (#[.int .i64 x.x, .int .i64 x.y] : Array Value).toList⟩] wr) : FRow w v' (xs ++ [x]) wr := by
  subst hn
  have e : cellsF (xs ++ [x]) = cellsF xs ++ [.int .i64 x.x, .int .i64 x.y] := by simp [cellsF, valG]
  unfold FRow
  rw [e, List.length_append]
  exact h
theorem FRow.nil (h : Below w.heap.size w wr) : FRow w (.slice none 0 0) [] wr := (Rws.begin h).nil _ _
theorem FRow.next (h : FRow w v xs wr) (hb : Below wr.heap.size wr w') : FRow w v xs w' := Rws.next h hb
theorem FRow.drewN (h : FRow w v xs wr) (n : Nat) : FRow w v xs (wr.drewN n) := Rws.drewN h n
theorem FRow.bel (h : FRow w v xs wr) : Below w.heap.size w wr := Rws.below h
end
end Go.Proofs.YtoejojfjiikogaaDoor
