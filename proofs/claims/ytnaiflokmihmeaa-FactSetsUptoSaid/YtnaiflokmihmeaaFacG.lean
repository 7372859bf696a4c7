/- Slices of facts. -/
import Derived.Test.YtnaiflokmihmeaaFacC0
import Derived.Test.YtnaiflokmihmeaaOpen
import Derived.Test.YtnaiflokmihmeaaGrow
import Derived.Test.YtnaiflokmihmeaaGrowI
namespace Go.Proofs.Ytnaiflokmihmeaa
open Go.RowKit Go.ChangeShapes Go.WideShapes Go.Deep
set_option linter.unusedVariables false
set_option linter.unusedSimpArgs false

def valG (s : Ft) : List Value := [.int .i64 s.k, .int .i64 s.a, .int .i64 s.b]
def cellsF (ss : List Ft) : List Value := ss.flatMap valG
theorem cellsF_append (a b : List Ft) : cellsF (a ++ b) = cellsF a ++ cellsF b := by simp [cellsF]
theorem cellsF_length (ss : List Ft) : (cellsF ss).length = ss.length * 3 := by
  induction ss with
  | nil => rfl
  | cons a l ih => rw [show cellsF (a :: l) = valG a ++ cellsF l from rfl, List.length_append, ih]; simp [valG]; omega
theorem cellsF_get {ss : List Ft} {k j : Nat} {s : Ft} {v : Value} (h : ss[k]? = some s) (hj : (valG s)[j]? = some v) : (cellsF ss)[k*3+j]? = some v := by
  have hj3 : j < 3 := by
    have := (List.getElem?_eq_some_iff.1 hj).1
    simpa [valG] using this
  induction ss generalizing k with
  | nil => simp at h
  | cons a l ih =>
    rw [show cellsF (a :: l) = valG a ++ cellsF l from rfl]
    cases k with
    | zero =>
      simp at h; subst h
      rw [Nat.zero_mul, Nat.zero_add, List.getElem?_append_left (by simpa [valG] using hj3)]
      exact hj
    | succ k =>
      simp at h
      rw [List.getElem?_append_right (by simp [valG]; omega)]
      rw [show (k + 1) * 3 + j - (valG a).length = k * 3 + j by simp [valG]; omega]
      exact ih h
/-- the slice at A holds the facts ss -/
def FactsAt (w : World) (B : Nat) (A : Option Addr) (ss : List Ft) : Prop :=
  ∀ k s, ss[k]? = some s → ∃ b off, A = some ⟨b, off, none⟩ ∧ b < B ∧ ∀ j v, (valG s)[j]? = some v → w.cell? ⟨b, off + (k*3+j), none⟩ = some v
section
variable {w w' : World} {B B' : Nat} {A : Option Addr} {ss : List Ft}
theorem FactsAt.below (h : FactsAt w B A ss) (hb : Below B' w w') (hB : B ≤ B') : FactsAt w' B A ss := by
  intro k x hx
  obtain ⟨b, off, hA, hlt, h0⟩ := h k x hx
  exact ⟨b, off, hA, hlt, fun j v hj => (hb.cell (p := ⟨b, _, none⟩) (Nat.lt_of_lt_of_le hlt hB)).trans (h0 j v hj)⟩
theorem FactsAt.more (h : FactsAt w B A ss) (hB : B ≤ B') : FactsAt w B' A ss := by
  intro k x hx
  obtain ⟨b, off, hA, hlt, h0⟩ := h k x hx
  exact ⟨b, off, hA, Nat.lt_of_lt_of_le hlt hB, h0⟩
theorem FactsAt.nil : FactsAt w B A [] := fun k x h => by simp at h
theorem FactsAt.next (h : FactsAt w w.heap.size A ss) (hb : Below w.heap.size w w') : FactsAt w' w'.heap.size A ss := (h.below hb (Nat.le_refl _)).more hb.size
theorem FactsAt.three (h : FactsAt w B A ss) {k : Nat} {s : Ft} (hk : ss[k]? = some s) : ∃ b off, A = some ⟨b, off, none⟩ ∧ b < B ∧
    w.cell? ⟨b, off + k*3, none⟩ = some (.int .i64 s.k) ∧ w.cell? ⟨b, off + k*3+1, none⟩ = some (.int .i64 s.a) ∧ w.cell? ⟨b, off + k*3+2, none⟩ = some (.int .i64 s.b) := by
  obtain ⟨b, off, hA, hb, h0⟩ := h k s hk
  exact ⟨b, off, hA, hb, h0 0 _ rfl, h0 1 _ rfl, h0 2 _ rfl⟩
theorem FactsAt.take (h : FactsAt w B A ss) (j : Nat) : FactsAt w B A (ss.take j) := by
  intro k s hk
  rw [List.getElem?_take] at hk
  split at hk
  · exact h k s hk
  · cases hk
theorem FactsAt.of_own {base : Nat} {e : TypeId} {v : Value} (h : w.ownsRow base e 3 v ss.length (cellsF ss)) :
    ∃ A c, v = .slice A ss.length c ∧ ss.length ≤ c ∧ c ≤ maxLen ∧ FactsAt w w.heap.size A ss := by
  obtain ⟨h1, h2⟩ := h
  rcases h2 with ⟨rfl, hx⟩ | ⟨g, cap, cur, rfl, hg, hh, hnc, hm, hs, hc⟩
  · have : ss = [] := by
      have := cellsF_length ss; rw [hx] at this; simp at this
      exact List.eq_nil_of_length_eq_zero (by omega)
    subst this
    exact ⟨none, 0, rfl, Nat.le_refl _, by unfold maxLen; omega, fun k u hu => by simp at hu⟩
  · refine ⟨some ⟨g, 0, none⟩, cap, rfl, by assumption, by assumption, fun k u hu => ?_⟩
    have hglt : g < w.heap.size := by
      rcases Nat.lt_or_ge g w.heap.size with h' | h'
      · exact h'
      · rw [Array.getElem?_eq_none h'] at hh; cases hh
    have H := World.ownsRow.cells (w := w) (base := base) (e := e) (size := 3) (v := .slice (some ⟨g, 0, none⟩) ss.length cap) (n := ss.length) (xs := cellsF ss) ⟨h1, .inr ⟨g, cap, cur, rfl, hg, hh, hnc, hm, hs, hc⟩⟩ (g := g) rfl
    refine ⟨g, 0, rfl, hglt, fun j v hj => ?_⟩
    have := H _ _ (cellsF_get hu hj)
    rwa [Addr.add_lit] at this
end

end Go.Proofs.Ytnaiflokmihmeaa
