/- A block that holds steps. -/
import Derived.Test.YtnaiflokmihmeaaAsB
import Derived.Test.YtnaiflokmihmeaaMgG
namespace Go.Proofs.Ytnaiflokmihmeaa
open Go.RowKit
set_option linter.unusedVariables false
set_option linter.unusedSimpArgs false

instance : Inhabited Stp := ⟨⟨0, 0, 0, 0, 0⟩⟩
/-- block g, of cap facts, holds the facts d -/
def SBlk (w : World) (g cap : Nat) (d : Array Stp) : Prop :=
  ∃ cs, Blk w g 39 cs ∧ cs.size = cap * 5 ∧ d.size ≤ cap ∧ ∀ t, t < d.size * 5 → cs[t]? = some (valS d[t / 5]!)[t % 5]!
section
variable {w w' : World} {g cap : Nat} {d : Array Stp}
theorem SBlk.next (h : SBlk w g cap d) (hb : w'.heap[g]? = w.heap[g]?) : SBlk w' g cap d := by
  obtain ⟨cs, h1, h2⟩ := h
  exact ⟨cs, hb.trans h1, h2⟩
theorem SBlk.below {B : Nat} (h : SBlk w g cap d) (hb : Below B w w') (hB : g < B) : SBlk w' g cap d := h.next (hb.block g hB)
theorem SBlk.lt (h : SBlk w g cap d) : g < w.heap.size := by obtain ⟨cs, h1, h2⟩ := h; exact h1.lt
theorem SBlk.frozen (h : SBlk w g cap d) (i : Nat) : w.frozen? ⟨g, i, none⟩ = false := by obtain ⟨cs, h1, h2⟩ := h; exact h1.frozen i
theorem SBlk.some_ (h : SBlk w g cap d) {i : Nat} (hi : i < cap * 5) : (w.cell? ⟨g, i, none⟩).isSome = true := by
  obtain ⟨cs, h1, h2, h3⟩ := h
  rw [h1.cell, Array.getElem?_eq_getElem (by omega)]; rfl
theorem SBlk.cells (h : SBlk w g cap d) {j : Nat} (hj : j < d.size) : w.cell? ⟨g, j*5, none⟩ = some (.int .i64 d[j]!.k) ∧ w.cell? ⟨g, j*5+1, none⟩ = some (.int .i64 d[j]!.a) ∧ w.cell? ⟨g, j*5+2, none⟩ = some (.int .i64 d[j]!.p) ∧ w.cell? ⟨g, j*5+3, none⟩ = some (.int .i64 d[j]!.s) ∧ w.cell? ⟨g, j*5+4, none⟩ = some (.int .i64 d[j]!.t) := by
  obtain ⟨cs, h1, h2, h3, h4⟩ := h
  have a0 := h4 (j*5) (by omega)
  have a1 := h4 (j*5+1) (by omega)
  have a2 := h4 (j*5+2) (by omega)
  have a3 := h4 (j*5+3) (by omega)
  have a4 := h4 (j*5+4) (by omega)
  rw [show j*5/5 = j by omega, show j*5%5 = 0 by omega] at a0
  rw [show (j*5+1)/5 = j by omega, show (j*5+1)%5 = 1 by omega] at a1
  rw [show (j*5+2)/5 = j by omega, show (j*5+2)%5 = 2 by omega] at a2
  rw [show (j*5+3)/5 = j by omega, show (j*5+3)%5 = 3 by omega] at a3
  rw [show (j*5+4)/5 = j by omega, show (j*5+4)%5 = 4 by omega] at a4
  rw [h1.cell, h1.cell, h1.cell, h1.cell, h1.cell, a0, a1, a2, a3, a4]
  exact ⟨rfl, rfl, rfl, rfl, rfl⟩
theorem SBlk.stepsAt (h : SBlk w g cap d) (m : Nat) : StepsAt w w.heap.size (some ⟨g, 0, none⟩) (d.toList.take m) := by
  intro k s hk
  have hk1 : d[k]? = some s := by
    rw [List.getElem?_take] at hk
    split at hk
    · simpa using hk
    · cases hk
  obtain ⟨hlt, he⟩ := Array.getElem?_eq_some_iff.1 hk1
  have he' : d[k]! = s := by rw [getElem!_pos d k hlt]; exact he
  refine ⟨g, 0, rfl, h.lt, fun j v hj => ?_⟩
  have hj3 : j < 5 := by have := (List.getElem?_eq_some_iff.1 hj).1; simpa [valS] using this
  obtain ⟨c0, c1, c2, c3, c4⟩ := h.cells hlt
  rw [he'] at c0 c1 c2 c3 c4
  rw [Nat.zero_add]
  match j, hj3 with
  | 0, _ => simp [valS] at hj; subst hj; exact c0
  | 1, _ => simp [valS] at hj; subst hj; exact c1
  | 2, _ => simp [valS] at hj; subst hj; exact c2
  | 3, _ => simp [valS] at hj; subst hj; exact c3
  | 4, _ => simp [valS] at hj; subst hj; exact c4
theorem SBlk.stepsAll (h : SBlk w g cap d) : StepsAt w w.heap.size (some ⟨g, 0, none⟩) d.toList := by
  have := h.stepsAt d.size
  rwa [show d.toList.take d.size = d.toList by rw [← Array.length_toList]; exact List.take_length] at this
theorem SBlk.le (h : SBlk w g cap d) : d.size ≤ cap := by obtain ⟨cs, h1, h2, h3, h4⟩ := h; exact h3
theorem cellsS_idx (l : List Stp) (t : Nat) (ht : t < l.length * 5) : (cellsS l)[t]? = some (valS l.toArray[t / 5]!)[t % 5]! := by
  have hk : t / 5 < l.length := by omega
  have h1 : l[t/5]? = some l.toArray[t / 5]! := by
    rw [getElem!_pos l.toArray (t/5) (by simpa using hk), List.getElem?_eq_getElem hk]; simp
  have h2 : (valS l.toArray[t / 5]!)[t % 5]? = some (valS l.toArray[t / 5]!)[t % 5]! := by
    have hl : t % 5 < (valS l.toArray[t / 5]!).length := by simp [valS]; omega
    rw [getElem!_pos _ (t%5) hl, List.getElem?_eq_getElem hl]
  have := cellsS_get h1 h2
  rwa [show t / 5 * 5 + t % 5 = t by omega] at this
theorem SBlk.of_own {base n c : Nat} {l : List Stp} (h : w.ownsRow base 39 5 (.slice (some ⟨g, 0, none⟩) n c) n (cellsS l)) (hn : n = l.length) : SBlk w g c l.toArray ∧ base ≤ g := by
  obtain ⟨h1, h2⟩ := h
  rcases h2 with ⟨h2, _⟩ | ⟨g', cap', cur, hv, hg, hh, hnc, hm, hs, hc⟩
  · cases h2
  · cases hv
    subst hn
    refine ⟨⟨cur, hh, hs, by simpa using hnc, fun t ht => ?_⟩, hg⟩
    have ht' : t < l.length * 5 := by simpa using ht
    rw [← cellsS_idx l t ht', ← hc, List.getElem?_take_of_lt ht', Array.getElem?_toList]
/-- a fact is stored -/
theorem SBlk.store (h : SBlk w g cap d) {i : Nat} (hi : i < d.size) (x : Stp) : SBlk (((((w.setCell ⟨g, i*5, none⟩ (.int .i64 x.k)).setCell ⟨g, i*5+1, none⟩ (.int .i64 x.a)).setCell ⟨g, i*5+2, none⟩ (.int .i64 x.p)).setCell ⟨g, i*5+3, none⟩ (.int .i64 x.s)).setCell ⟨g, i*5+4, none⟩ (.int .i64 x.t)) g cap (d.setIfInBounds i x) := by
  obtain ⟨cs, h1, h2, h3, h4⟩ := h
  refine ⟨_, ((((h1.set_ (i*5) _).set_ (i*5+1) _).set_ (i*5+2) _).set_ (i*5+3) _).set_ (i*5+4) _, by simpa using h2, by simpa using h3, fun t ht => ?_⟩
  simp only [Array.size_setIfInBounds] at ht
  simp only [Array.getElem?_setIfInBounds, Array.size_setIfInBounds]
  have hd : ∀ q, q < d.size → (d.setIfInBounds i x)[q]! = if i = q then x else d[q]! := by
    intro q hq
    rw [getElem!_pos _ q (by simpa using hq), Array.getElem_setIfInBounds (by simpa using hq), getElem!_pos d q hq]
  rw [hd _ (by omega)]
  by_cases e : i = t / 5
  · rw [if_pos e]
    have hm : t % 5 = 0 ∨ t % 5 = 1 ∨ t % 5 = 2 ∨ t % 5 = 3 ∨ t % 5 = 4 := by omega
    rcases hm with hm | hm | hm | hm | hm
    · rw [if_neg (by omega), if_neg (by omega), if_neg (by omega), if_neg (by omega), if_pos (by omega), if_pos (by omega), hm]; rfl
    · rw [if_neg (by omega), if_neg (by omega), if_neg (by omega), if_pos (by omega), if_pos (by omega), hm]; rfl
    · rw [if_neg (by omega), if_neg (by omega), if_pos (by omega), if_pos (by omega), hm]; rfl
    · rw [if_neg (by omega), if_pos (by omega), if_pos (by omega), hm]; rfl
    · rw [if_pos (by omega), if_pos (by omega), hm]; rfl
  · rw [if_neg e, if_neg (by omega), if_neg (by omega), if_neg (by omega), if_neg (by omega), if_neg (by omega)]
    exact h4 t ht
end
open Go.Sort in
theorem SBlk.holds {w : World} {g cap : Nat} {d : Array Stp} (h : SBlk w g cap d) : HoldsK valS 5 w g 0 d := by
  obtain ⟨cs, h1, h2, h3, h4⟩ := h
  intro j hj
  rw [size_flatK] at hj
  refine ⟨?_, by rw [Nat.zero_add]; exact h1.frozen j⟩
  rw [Nat.zero_add, h1.cell, h4 j hj, get_flatK _ _ _ _ hj]
  rfl
end Go.Proofs.Ytnaiflokmihmeaa
