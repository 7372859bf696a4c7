/- slices.Equal at words (of two equal lists); how many words there are. -/
import Derived.Test.YtdhhbpnnahdofaaDoorWnH
import Derived.Deep.LoopGhost
import Derived.Deep.QuietTactic
import Derived.BigQuiet
import Derived.WalkSpells

namespace Go.Proofs.YtdhhbpnnahdofaaDoor
open Go.RowKit
set_option linter.unusedVariables false
set_option linter.unusedSimpArgs false

theorem maxL_of {w : World} (h : w.ShapedOpen Tryd.prog) : MaxL w := by
  obtain ⟨m, hm⟩ := Tryd.laysM219.s1_3 w h
  have hm' : w.cell? ⟨0, 0, none⟩ = some (.int .i64 m) := hm
  refine ⟨?_, m, hm'⟩
  rcases Nat.eq_zero_or_pos w.heap.size with h0 | h0
  · exfalso
    have : w.heap[0]? = none := Array.getElem?_eq_none (by omega)
    unfold World.cell? at hm'
    simp [this] at hm'
  · exact h0
theorem readG_len (s : ByteArray) : ∀ (k p : Nat) (acc : List Wrd), acc.length ≤ p → p ≤ s.size → (readG s k p acc).1.length ≤ s.size := by
  intro k
  induction k with
  | zero => intro p acc h hp; show acc.length ≤ s.size; omega
  | succ k ih =>
    intro p acc h hp
    unfold readG
    cases hx : (bl s)[p]? with
    | none => show acc.length ≤ s.size; omega
    | some x =>
      simp only
      split
      · refine ih _ _ ?_ ?_
        · rw [List.length_append]
          have := nextP_gt hx
          simp; omega
        · have := nextP_le hx
          rwa [bl_len] at this
      · simp
theorem readR_len (s : ByteArray) : (readR s).1.length ≤ 4096 := by
  unfold readR
  split
  · simp
  · have := skipL_le (bl s) false
    rw [bl_len] at this
    have := readG_len s (s.size + 1) (skipL (bl s) false) [] (by simp) this
    omega
end Go.Proofs.YtdhhbpnnahdofaaDoor
