/- Facts: the fact about sets of facts. -/
import Derived.Test.YtnaiflokmihmeaaFacQ
import Derived.Test.YtnaiflokmihmeaaFacK
namespace Go.Proofs.Ytnaiflokmihmeaa
open Go.RowKit
set_option linter.unusedVariables false
set_option linter.unusedSimpArgs false

theorem FactsAt.of_blk {w : World} {g : Nat} {t : TypeId} {cs : Array Value} {ss : List Ft} (h : Blk w g t cs) (hc : cs.toList = cellsF ss) : FactsAt w w.heap.size (some ⟨g, 0, none⟩) ss := by
  intro k s hk
  refine ⟨g, 0, rfl, h.lt, fun j v hj => ?_⟩
  rw [h.cell, Nat.zero_add, ← Array.getElem?_toList, hc]
  exact cellsF_get hk hj
theorem ofL_three : ofL [⟨5, 1, 0⟩, ⟨1, 0, 0⟩, ⟨1, 0, 0⟩] = [⟨1, 0, 0⟩, ⟨5, 1, 0⟩] := by
  refine ofL_is ?_ ?_
  · unfold Asc; decide
  · intro x
    constructor
    · intro h
      simp at h
      rcases h with rfl | rfl <;> decide
    · intro h
      obtain ⟨h, _⟩ := h
      simp at h ⊢
      rcases h with rfl | rfl <;> simp
set_option maxHeartbeats 2000000 in
set_option maxRecDepth 20000 in
theorem facted_any (w : World) : Calls Try.prog 23 #[] w fun e w' => e = .returned (.bool true) ∧ Below w.heap.size w w' := by
  obtain ⟨w1, hw1⟩ : ∃ w1, w.alloc (.cells #[.int .i64 5, .int .i64 1, .int .i64 0, .int .i64 1, .int .i64 0, .int .i64 0, .int .i64 1, .int .i64 0, .int .i64 0] 45) = w1 := ⟨_, rfl⟩
  have hb1 : Below w.heap.size w w1 := by rw [← hw1]; exact (Below.refl _ _).alloc (Nat.le_refl _) _
  have hF : FactsAt w1 w1.heap.size (some ⟨w.heap.size, 0, none⟩) [⟨5, 1, 0⟩, ⟨1, 0, 0⟩, ⟨1, 0, 0⟩] := by rw [← hw1]; exact FactsAt.of_blk (Blk.new _ _ _) rfl
  have HO := Lib.hid (of_any _ (some ⟨w.heap.size, 0, none⟩) 3 3 w1 rfl (by omega) hF)
  unfold OfPost at HO
  rw [ofL_three] at HO
  go_enter Try.func23, Try.ntmps23
  go_wp2_with fail
  refine HO.out.mono ?_
  rintro e w2 ⟨A, c, rfl, hlc, hcm, hf2, hb2⟩
  have HB2 := Lib.hid (hb1.trans (hb2.mono hb1.size))
  have HF3 := Lib.hid (hf2.next ((Below.refl w2.heap.size w2).alloc (Nat.le_refl _) (.cells #[.int .i64 1, .int .i64 0, .int .i64 0, .int .i64 5, .int .i64 1, .int .i64 0] 45)))
  have HG3 : Hid (FactsAt _ _ _ [⟨1, 0, 0⟩, ⟨5, 1, 0⟩]) := Lib.hid (FactsAt.of_blk (Blk.new w2 45 #[.int .i64 1, .int .i64 0, .int .i64 0, .int .i64 5, .int .i64 1, .int .i64 0]) rfl)
  have HB3 := Lib.hid (HB2.out.alloc HB2.out.size (.cells #[.int .i64 1, .int .i64 0, .int .i64 0, .int .i64 5, .int .i64 1, .int .i64 0] 45))
  unfold maxLen at hcm
  clear hf2 hb2 hw1 hF HO
  go_wp2_with fail
  refine (equalG_any [⟨1, 0, 0⟩, ⟨5, 1, 0⟩] A (some ⟨w2.heap.size, 0, none⟩) 2 c 2 _ rfl (by omega) HF3.out HG3.out).mono ?_
  rintro e w4 ⟨rfl, hb4⟩
  have HB4 := Lib.hid (HB3.out.trans (hb4.mono HB3.out.size))
  go_wp2_with fail
  go_ret
  exact ⟨rfl, HB4.out⟩
end Go.Proofs.Ytnaiflokmihmeaa
