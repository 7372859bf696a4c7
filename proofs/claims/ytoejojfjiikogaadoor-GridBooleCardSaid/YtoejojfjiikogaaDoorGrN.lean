/- Cells: slices.SortFunc with the closure of gantmake.Cells. -/
import Derived.Test.YtoejojfjiikogaaDoorGrO

namespace Go.Proofs.YtoejojfjiikogaaDoor
open Go.RowKit
set_option linter.unusedVariables false
set_option linter.unusedSimpArgs false

/-- the cells that gantmake.Cells makes -/
def smP (f : Ft) : Prop := -4 ≤ f.x ∧ f.x < 4 ∧ -4 ≤ f.y ∧ f.y < 4
abbrev Sm := {f : Ft // smP f}
instance : Inhabited Sm := ⟨⟨⟨0, 0⟩, by unfold smP; decide⟩⟩
def valS (f : Sm) : List Value := valG f.1
def cmpS (f g : Sm) : Int := if f.1.y ≠ g.1.y then f.1.y - g.1.y else f.1.x - g.1.x
set_option maxHeartbeats 2000000 in
set_option maxRecDepth 20000 in
theorem cmpS_grow (f g : Sm) (w : World) : Calls Tryd.prog 54 #[valF f.1, valF g.1] w fun e w' => e = .returned (.int .i64 (cmpS f g)) ∧ ∃ q os, w' = Go.Sort.grow (w.drewN q) os := by
  obtain ⟨⟨a, b⟩, ha⟩ := f
  obtain ⟨⟨aa, bb⟩, hb⟩ := g
  obtain ⟨a1, a2, a3, a4⟩ := ha
  obtain ⟨b1, b2, b3, b4⟩ := hb
  dsimp only at a1 a2 a3 a4 b1 b2 b3 b4
  show Calls Tryd.prog 54 #[.agg #[.int .i64 a, .int .i64 b], .agg #[.int .i64 aa, .int .i64 bb]] w fun e w' => e = .returned (.int .i64 (if b ≠ bb then b - bb else a - aa)) ∧ ∃ q os, w' = Go.Sort.grow (w.drewN q) os
  have hgr : Go.Sort.grow (w.drewN 0) #[.cells #[.int .i64 a, .int .i64 b] 60, .cells #[.int .i64 aa, .int .i64 bb] 60] = ((w.alloc (.cells #[.int .i64 a, .int .i64 b] 60)).alloc (.cells #[.int .i64 aa, .int .i64 bb] 60)) := rfl
  have HG := Lib.hid hgr.symm
  clear hgr
  have w1' := i64_w (b - bb) (by omega) (by omega)
  have w2' := i64_w (a - aa) (by omega) (by omega)
  clear a1 a2 a3 a4 b1 b2 b3 b4
  by_cases hc : b = bb
  · have HV : Hid ((if b ≠ bb then b - bb else a - aa) = a - aa) := Lib.hid (by simp [hc])
    rw [HV.out]
    subst hc
    have e0 : (b != b) = false := by simp
    go_enter Tryd.func54, Tryd.ntmps54
    go_wp2_with fail
    go_ret
    exact ⟨by first | rfl | simp, 0, _, HG.out⟩
  · have HV : Hid ((if b ≠ bb then b - bb else a - aa) = b - bb) := Lib.hid (by simp [hc])
    rw [HV.out]
    have e0 : (b != bb) = true := by simp [hc]
    clear hc
    go_enter Tryd.func54, Tryd.ntmps54
    go_wp2_with fail
    go_ret
    exact ⟨by first | rfl | simp, 0, _, HG.out⟩
theorem ltS_iff (f g : Sm) : Go.Proofs.ltOf cmpS f g = decide (FLt f.1 g.1) := by
  obtain ⟨⟨a, b⟩, ha⟩ := f
  obtain ⟨⟨aa, bb⟩, hb⟩ := g
  unfold Go.Proofs.ltOf cmpS
  rw [Bool.eq_iff_iff, decide_eq_true_eq, decide_eq_true_eq]
  unfold FLt
  dsimp only
  split <;> omega
theorem swoS : Go.Sort.SWO (Go.Proofs.ltOf cmpS) where
  irrefl x := by rw [ltS_iff]; simp [flt_irrefl]
  trans x y z h1 h2 := by rw [ltS_iff] at *; simp at *; exact flt_trans h1 h2
  ntrans x y z h1 h2 := by
    rw [ltS_iff] at *
    simp at *
    intro h3
    by_cases h4 : FLt y.1 x.1
    · exact h2 (flt_trans h4 h3)
    · have e := flt_total h1 h4
      exact h2 (e ▸ h3)
theorem totS (x y : Sm) (h1 : Go.Proofs.ltOf cmpS x y = false) (h2 : Go.Proofs.ltOf cmpS y x = false) : x = y := by
  rw [ltS_iff] at *
  simp at *
  exact Subtype.ext (flt_total h1 h2)
theorem map_at (d : Array Sm) {q : Nat} (h : q < d.size) : (d.map (·.1))[q]! = d[q]!.1 := by
  rw [getElem!_pos _ q (by simpa using h), Array.getElem_map, getElem!_pos d q h]
open Go.Sort in
theorem FBlk.holdsS {w : World} {g cap : Nat} {d : Array Sm} (h : FBlk w g cap (d.map (·.1))) : HoldsK valS 2 w g 0 d := by
  obtain ⟨cs, h1, h2, h3, h4⟩ := h
  intro j hj
  rw [size_flatK] at hj
  refine ⟨?_, by rw [Nat.zero_add]; exact h1.frozen j⟩
  rw [Nat.zero_add, h1.cell, h4 j (by simpa using hj), get_flatK _ _ _ _ hj, map_at d (by omega)]
  rfl
open Go.Sort in
theorem FBlk.sortedS {w : World} {g cap n : Nat} {d d' : Array Sm} {os : Array Obj} (h : FBlk w g cap (d.map (·.1))) (hs : d'.size = d.size) : FBlk (sortWorldK valS 2 w g 0 n d' os) g cap (d'.map (·.1)) := by
  obtain ⟨cs, h1, h2, h3, h4⟩ := h
  have hlt := h1.lt
  simp only [Array.size_map] at h3 h4
  refine ⟨putCells id 0 (flatK valS 2 d') cs, ?_, by simpa [putCells] using h2, by simp; omega, fun t ht => ?_⟩
  · unfold Blk sortWorldK
    rw [heap_grow_old _ _ (by simpa [putRowK] using hlt)]
    unfold Blk at h1
    simp [putRowK, putRow, mapBlock, Sort.ahead, Array.getElem?_modify, h1, onCells]
  · have ht2 : t < d'.size * 2 := by simpa using ht
    have htc : t < cs.size := by omega
    simp only [putCells, Array.getElem?_mapIdx, Array.getElem?_eq_getElem htc, Option.map_some, Nat.zero_le, true_and, Nat.zero_add, size_flatK, if_pos ht2, Nat.sub_zero, get_flatK _ _ _ _ ht2]
    rw [map_at d' (by omega)]
    rfl
open Go.Sort in
theorem sortedS_below {w : World} {g n B : Nat} {d' : Array Sm} {os : Array Obj} (hB : B ≤ g) (hw : B ≤ w.heap.size) : Below B w (sortWorldK valS 2 w g 0 n d' os) := by
  have hg : w.grownBy (sortWorldK valS 2 w g 0 n d' os) (some g) := by
    unfold sortWorldK putRowK
    refine ⟨rfl, rfl, rfl, by simp, fun k hk hne => ?_⟩
    rw [heap_grow_old _ _ (by simpa using hk)]
    have : g ≠ k := fun e => hne (by rw [e])
    simp [putRow, mapBlock, Sort.ahead, Array.getElem?_modify, this]
  exact below_of_grown hg hw (fun k hk => by cases hk; exact hB)
/-- slices.SortFunc at small cells with the closure of gantmake.Cells -/
theorem sortS_any (g cap c : Nat) (d : Array Sm) (w : World) (B : Nat) (hB : B ≤ g) (h : FBlk w g cap (d.map (·.1))) (hsz : d.size < 4611686018427387904) :
    Calls Tryd.prog 53 #[.slice (some ⟨g, 0, none⟩) d.size c, .func (.func 54) #[] #[]] w fun e w' => e = .returned (.tuple #[]) ∧ FBlk w' g cap ((d.toList.mergeSort fun x y => !(Go.Proofs.ltOf cmpS y x)).toArray.map (·.1)) ∧ Below B w w' := by
  have eg : ∀ args w, (callFunc 54 args).run Tryd.prog w = .ok (.enter 54 args) w := enters_of Tryd.func54 (by kernel_rfl) rfl
  have hcmp : Go.Proofs.CmpLays Tryd.prog 54 #[] valS 2 cmpS g 0 d.size w := fun m os dk hs x y => cmpS_grow x y _
  have h1 : ∀ x, ∀ v ∈ valS x, v.oneCell' = true := fun x v hv => by simp [valS, valG] at hv; rcases hv with rfl | rfl <;> rfl
  have hcon := AnyQ.slices_SortFunc_total Tryd.sortCell 2 isAggF sizeF valS (fun _ => rfl) h1 cmpS swoS 54 #[] g 0 c d w eg hcmp h.holdsS h.lt hsz totS
  refine hcon.mono ?_
  rintro e w' ⟨he, n, os, rfl⟩
  exact ⟨he, h.sortedS (by simp [List.length_mergeSort]), sortedS_below hB (Nat.le_trans hB (Nat.le_of_lt h.lt))⟩
theorem as_small : ∀ (xs : List Ft), (∀ f ∈ xs, smP f) → ∃ ys : List Sm, ys.map (·.1) = xs
  | [], _ => ⟨[], rfl⟩
  | x :: xs, h => by
    obtain ⟨ys, e⟩ := as_small xs (fun f hf => h f (List.mem_cons_of_mem _ hf))
    exact ⟨⟨x, h x List.mem_cons_self⟩ :: ys, by rw [List.map_cons, e]⟩
/-- of different cells, what comes out ascends -/
theorem sortS_asc {ys : List Sm} (hn : (ys.map (·.1)).Nodup) : Asc ((ys.mergeSort fun x y => !(Go.Proofs.ltOf cmpS y x)).map (·.1)) := by
  have hp := List.pairwise_mergeSort (le := fun x y => !(Go.Proofs.ltOf cmpS y x)) (fun a b c h1 h2 => by
    simp only [Bool.not_eq_true'] at *
    exact swoS.ntrans _ _ _ h2 h1) (fun a b => by
    simp only [Bool.or_eq_true, Bool.not_eq_true']
    rw [ltS_iff, ltS_iff]
    by_cases h : FLt b.1 a.1
    · right; simp; exact fun h2 => flt_irrefl a.1 (flt_trans h2 h)
    · left; simp [h]) ys
  have hperm := List.mergeSort_perm ys (fun x y => !(Go.Proofs.ltOf cmpS y x))
  have hn2 : ((ys.mergeSort fun x y => !(Go.Proofs.ltOf cmpS y x)).map (·.1)).Nodup := (hperm.map _).nodup_iff.2 hn
  unfold Asc
  rw [List.pairwise_map]
  have hn3 : (ys.mergeSort fun x y => !(Go.Proofs.ltOf cmpS y x)).Pairwise fun a b => a.1 ≠ b.1 := by
    have := hn2
    unfold List.Nodup at this
    rwa [List.pairwise_map] at this
  refine (hp.and hn3).imp fun {a b} h => ?_
  obtain ⟨h1, h2⟩ := h
  rw [ltS_iff] at h1
  simp only [Bool.not_eq_true', decide_eq_false_iff_not] at h1
  exact Classical.byContradiction fun h3 => h2 (flt_total h3 h1)
theorem sortS_mem {ys : List Sm} (x : Ft) : x ∈ ((ys.mergeSort fun x y => !(Go.Proofs.ltOf cmpS y x)).map (·.1)) ↔ x ∈ ys.map (·.1) := by
  simp [List.mem_map, List.mem_mergeSort]
end Go.Proofs.YtoejojfjiikogaaDoor
