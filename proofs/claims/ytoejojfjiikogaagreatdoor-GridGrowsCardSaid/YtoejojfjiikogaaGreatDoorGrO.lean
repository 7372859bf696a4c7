/- A block that holds cells; the library's sort over it. -/
import Derived.Test.YtoejojfjiikogaaGreatDoorGrG
import Derived.Test.YtoejojfjiikogaaGreatDoorSlsf

namespace Go.Proofs.YtoejojfjiikogaaGreatDoor
open Go.RowKit
set_option linter.unusedVariables false
set_option linter.unusedSimpArgs false

/-- block g, of cap facts, holds the facts d -/
def FBlk (w : World) (g cap : Nat) (d : Array Ft) : Prop :=
  ∃ cs, Blk w g 36 cs ∧ cs.size = cap*2 ∧ d.size ≤ cap ∧ ∀ t, t < d.size*2 → cs[t]? = some (valG d[t / 2]!)[t % 2]!
section
variable {w w' : World} {g cap : Nat} {d : Array Ft}
theorem FBlk.next (h : FBlk w g cap d) (hb : w'.heap[g]? = w.heap[g]?) : FBlk w' g cap d := by
  obtain ⟨cs, h1, h2⟩ := h
  exact ⟨cs, hb.trans h1, h2⟩
theorem FBlk.below {B : Nat} (h : FBlk w g cap d) (hb : Below B w w') (hB : g < B) : FBlk w' g cap d := h.next (hb.block g hB)
theorem FBlk.lt (h : FBlk w g cap d) : g < w.heap.size := by obtain ⟨cs, h1, h2⟩ := h; exact h1.lt
theorem FBlk.frozen (h : FBlk w g cap d) (i : Nat) : w.frozen? ⟨g, i, none⟩ = false := by obtain ⟨cs, h1, h2⟩ := h; exact h1.frozen i
theorem FBlk.some_ (h : FBlk w g cap d) {i : Nat} (hi : i < cap*2) : (w.cell? ⟨g, i, none⟩).isSome = true := by
  obtain ⟨cs, h1, h2, h3⟩ := h
  rw [h1.cell, Array.getElem?_eq_getElem (by omega)]; rfl
theorem FBlk.cells (h : FBlk w g cap d) {j : Nat} (hj : j < d.size) : w.cell? ⟨g, j*2, none⟩ = some (.int .i64 d[j]!.x) ∧ w.cell? ⟨g, j*2+1, none⟩ = some (.int .i64 d[j]!.y) := by
  obtain ⟨cs, h1, h2, h3, h4⟩ := h
  have a0 := h4 (j*2) (by omega)
  have a1 := h4 (j*2+1) (by omega)
  rw [show j*2/2 = j by omega, show j*2%2 = 0 by omega] at a0
  rw [show (j*2+1)/2 = j by omega, show (j*2+1)%2 = 1 by omega] at a1
  rw [h1.cell, h1.cell, a0, a1]
  exact ⟨rfl, rfl⟩
theorem FBlk.factsAt (h : FBlk w g cap d) (m : Nat) : FactsAt w w.heap.size (some ⟨g, 0, none⟩) (d.toList.take m) := by
  intro k s hk
  have hk1 : d[k]? = some s := by
    rw [List.getElem?_take] at hk
    split at hk
    · simpa using hk
    · cases hk
  obtain ⟨hlt, he⟩ := Array.getElem?_eq_some_iff.1 hk1
  have he' : d[k]! = s := by rw [getElem!_pos d k hlt]; exact he
  refine ⟨g, 0, rfl, h.lt, fun j v hj => ?_⟩
  have hj3 : j < 2 := by have := (List.getElem?_eq_some_iff.1 hj).1; simpa [valG] using this
  obtain ⟨c0, c1⟩ := h.cells hlt
  rw [he'] at c0 c1
  rw [Nat.zero_add]
  match j, hj3 with
  | 0, _ => simp [valG] at hj; subst hj; exact c0
  | 1, _ => simp [valG] at hj; subst hj; exact c1
theorem FBlk.factsAll (h : FBlk w g cap d) : FactsAt w w.heap.size (some ⟨g, 0, none⟩) d.toList := by
  have := h.factsAt d.size
  rwa [show d.toList.take d.size = d.toList by rw [← Array.length_toList]; exact List.take_length] at this
theorem FBlk.le (h : FBlk w g cap d) : d.size ≤ cap := by obtain ⟨cs, h1, h2, h3, h4⟩ := h; exact h3
theorem cellsF_idx (l : List Ft) (t : Nat) (ht : t < l.length*2) : (cellsF l)[t]? = some (valG l.toArray[t / 2]!)[t % 2]! := by
  have hk : t / 2 < l.length := by omega
  have h1 : l[t/2]? = some l.toArray[t / 2]! := by
    rw [getElem!_pos l.toArray (t/2) (by simpa using hk), List.getElem?_eq_getElem hk]; simp
  have h2 : (valG l.toArray[t / 2]!)[t % 2]? = some (valG l.toArray[t / 2]!)[t % 2]! := by
    have hl : t % 2 < (valG l.toArray[t / 2]!).length := by simp [valG]; omega
    rw [getElem!_pos _ (t%2) hl, List.getElem?_eq_getElem hl]
  have := cellsF_get h1 h2
  rwa [show t / 2*2 + t % 2 = t by omega] at this
theorem FBlk.of_own {base n c : Nat} {l : List Ft} (h : w.ownsRow base 36 2 (.slice (some ⟨g, 0, none⟩) n c) n (cellsF l)) (hn : n = l.length) : FBlk w g c l.toArray ∧ base ≤ g := by
  obtain ⟨h1, h2⟩ := h
  rcases h2 with ⟨h2, _⟩ | ⟨g', cap', cur, hv, hg, hh, hnc, hm, hs, hc⟩
  · cases h2
  · cases hv
    subst hn
    refine ⟨⟨cur, hh, hs, by simpa using hnc, fun t ht => ?_⟩, hg⟩
    have ht' : t < l.length*2 := by simpa using ht
    rw [← cellsF_idx l t ht', ← hc, List.getElem?_take_of_lt ht', Array.getElem?_toList]
/-- a cell is stored -/
theorem FBlk.store (h : FBlk w g cap d) {i : Nat} (hi : i < d.size) (x : Ft) : FBlk ((w.setCell ⟨g, i*2, none⟩ (.int .i64 x.x)).setCell ⟨g, i*2+1, none⟩ (.int .i64 x.y)) g cap (d.setIfInBounds i x) := by
  obtain ⟨cs, h1, h2, h3, h4⟩ := h
  refine ⟨_, (h1.set_ (i*2) _).set_ (i*2+1) _, by simpa using h2, by simpa using h3, fun t ht => ?_⟩
  simp only [Array.size_setIfInBounds] at ht
  simp only [Array.getElem?_setIfInBounds, Array.size_setIfInBounds]
  have hd : ∀ q, q < d.size → (d.setIfInBounds i x)[q]! = if i = q then x else d[q]! := by
    intro q hq
    rw [getElem!_pos _ q (by simpa using hq), Array.getElem_setIfInBounds (by simpa using hq), getElem!_pos d q hq]
  rw [hd _ (by omega)]
  by_cases e : i = t / 2
  · rw [if_pos e]
    have hm : t % 2 = 0 ∨ t % 2 = 1 := by omega
    rcases hm with hm | hm
    · rw [if_neg (by omega), if_pos (by omega), if_pos (by omega), hm]; rfl
    · rw [if_pos (by omega), if_pos (by omega), hm]; rfl
  · rw [if_neg e, if_neg (by omega), if_neg (by omega)]
    exact h4 t ht
end
open Go.Sort in
theorem FBlk.holds {w : World} {g cap : Nat} {d : Array Ft} (h : FBlk w g cap d) : HoldsK valG 2 w g 0 d := by
  obtain ⟨cs, h1, h2, h3, h4⟩ := h
  intro j hj
  rw [size_flatK] at hj
  refine ⟨?_, by rw [Nat.zero_add]; exact h1.frozen j⟩
  rw [Nat.zero_add, h1.cell, h4 j hj, get_flatK _ _ _ _ hj]
  rfl
open Go.Sort in
theorem FBlk.sorted {w : World} {g cap n : Nat} {d d' : Array Ft} {os : Array Obj} (h : FBlk w g cap d) (hs : d'.size = d.size) : FBlk (sortWorldK valG 2 w g 0 n d' os) g cap d' := by
  obtain ⟨cs, h1, h2, h3, h4⟩ := h
  have hlt := h1.lt
  refine ⟨putCells id 0 (flatK valG 2 d') cs, ?_, by simpa [putCells] using h2, by omega, fun t ht => ?_⟩
  · unfold Blk sortWorldK
    rw [heap_grow_old _ _ (by simpa [putRowK] using hlt)]
    unfold Blk at h1
    simp [putRowK, putRow, mapBlock, Sort.ahead, Array.getElem?_modify, h1, onCells]
  · have htc : t < cs.size := by omega
    simp only [putCells, Array.getElem?_mapIdx, Array.getElem?_eq_getElem htc, Option.map_some, Nat.zero_le, true_and, Nat.zero_add, size_flatK, if_pos ht, Nat.sub_zero, get_flatK _ _ _ _ ht]
    rfl
open Go.Sort in
theorem sortedK_below {w : World} {g n B : Nat} {d' : Array Ft} {os : Array Obj} (hB : B ≤ g) (hw : B ≤ w.heap.size) : Below B w (sortWorldK valG 2 w g 0 n d' os) := by
  have hg : w.grownBy (sortWorldK valG 2 w g 0 n d' os) (some g) := by
    unfold sortWorldK putRowK
    refine ⟨rfl, rfl, rfl, by simp, fun k hk hne => ?_⟩
    rw [heap_grow_old _ _ (by simpa using hk)]
    have : g ≠ k := fun e => hne (by rw [e])
    simp [putRow, mapBlock, Sort.ahead, Array.getElem?_modify, this]
  exact below_of_grown hg hw (fun k hk => by cases hk; exact hB)

theorem isAggF (w : World) : (isAgg 36).run Tryz.prog w = .ok true w := by kernel_rfl
theorem sizeF (w : World) : (Go.sizeOf 36).run Tryz.prog w = .ok 2 w := by kernel_rfl
/-- slices.SortFunc at cells with grid.order -/
theorem sortF_any (g cap c : Nat) (d : Array Ft) (w : World) (B : Nat) (hB : B ≤ g) (h : FBlk w g cap d) (hsz : d.size < 4611686018427387904) :
    Calls Tryz.prog 99 #[.slice (some ⟨g, 0, none⟩) d.size c, .func (.func 39) #[] #[]] w fun e w' => e = .returned (.tuple #[]) ∧ FBlk w' g cap (srtL d.toList).toArray ∧ Below B w w' := by
  have eg : ∀ args w, (callFunc 39 args).run Tryz.prog w = .ok (.enter 39 args) w := enters_of Tryz.func39 (by kernel_rfl) rfl
  have hcmp : Go.Proofs.CmpLays Tryz.prog 39 #[] valG 2 cmpF g 0 d.size w := fun m os dk hs x y => cmpF_grow x y _
  have h1 : ∀ x, ∀ v ∈ valG x, v.oneCell' = true := fun x v hv => by simp [valG] at hv; rcases hv with rfl | rfl <;> rfl
  have hcon := AnyQ.slices_SortFunc_total Tryz.sortCell 2 isAggF sizeF valG (fun _ => rfl) h1 cmpF swoF 39 #[] g 0 c d w eg hcmp h.holds h.lt hsz totF
  refine hcon.mono ?_
  rintro e w' ⟨he, n, os, rfl⟩
  exact ⟨he, h.sorted (by simp [List.length_mergeSort]), sortedK_below hB (Nat.le_trans hB (Nat.le_of_lt h.lt))⟩
theorem sortF_none (p : Option Addr) (c : Nat) (fv : Value) (w : World) : Calls Tryz.prog 99 #[.slice p 0 c, fv] w fun e w' => e = .returned (.tuple #[]) ∧ w' = w :=
  AnyF.slices_SortFunc_none { Tryz.sortCell with } p c fv w
end Go.Proofs.YtoejojfjiikogaaGreatDoor
