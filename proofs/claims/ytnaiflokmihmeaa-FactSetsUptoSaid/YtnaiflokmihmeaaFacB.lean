/- Facts: FactIs (reference). -/
import Derived.Test.YtnaiflokmihmeaaFacA
import Derived.Test.YtnaiflokmihmeaaMapM
namespace Go.Proofs.Ytnaiflokmihmeaa
open Go.RowKit
set_option linter.unusedVariables false
set_option linter.unusedSimpArgs false

abbrev enP (p : Int × Int) : Value := .agg #[.int .i64 p.1, .int .i64 p.2]
abbrev MP (w : World) (b : Nat) (l : List (Int × (Int × Int))) : Prop := MapOf (fun x : Int => .int .i64 x) enP w b l
theorem kInt_ : KLaw Try.prog 3 (fun x : Int => .int .i64 x) := klaw_int Try.underlying3
theorem zP (w : World) : (zeroValue 92).run Try.prog w = .ok (.agg #[.int .i64 0, .int .i64 0]) w := by kernel_rfl
def tabP : List (Int × (Int × Int)) := aput (aput (aput (aput (aput (aput [] 1 (6, 8)) 2 (4, 6)) 3 (4, 1)) 4 (8, 1)) 5 (6, 1)) 6 (4, 14)
def mB' (k : Int) : Int := if mA k = 0 then 0 else mB k
theorem tabP_get (k : Int) : ((aget tabP k).map enP).getD (.agg #[.int .i64 0, .int .i64 0]) = .agg #[.int .i64 (mA k), .int .i64 (mB' k)] := by
  have e : tabP = [(1, (6, 8)), (2, (4, 6)), (3, (4, 1)), (4, (8, 1)), (5, (6, 1)), (6, (4, 14))] := by decide
  rw [e]
  rcases kinds k with rfl | rfl | rfl | rfl | rfl | rfl | ⟨h1, h2, h3, h4, h5, h6⟩
  · rfl
  · rfl
  · rfl
  · rfl
  · rfl
  · rfl
  · have h := m_other h1 h2 h3 h4 h5 h6
    simp at h1 h2 h3 h4 h5 h6
    simp [aget, h1, h2, h3, h4, h5, h6, mB', h.1]
theorem okF_b1' {k a b : Int} (h0 : 0 ≤ b) (h : mB' k ≤ b) : okF ⟨k, a, b⟩ = false := by
  unfold mB' at h
  split at h
  · rename_i h1
    simp [okF, h1]; omega
  · exact okF_b1 h

theorem okF_fin {k a b : Int} (h1 : 0 ≤ a) (h2 : a < mA k) (h3 : 0 ≤ b) : okF ⟨k, a, b⟩ = decide (b < mB' k) := by
  have h0 : mA k ≠ 0 := by omega
  unfold mB'
  rw [if_neg h0]
  simp [okF, h1, h2, h3]

set_option maxHeartbeats 8000000 in
set_option maxRecDepth 20000 in
theorem factis_any (f : Ft) (w : World) : Calls Try.prog 20 #[valF f] w fun e w' => e = .returned (.bool (okF f)) ∧ Below w.heap.size w w' := by
  obtain ⟨k, a, b⟩ := f
  show Calls Try.prog 20 #[.agg #[.int .i64 k, .int .i64 a, .int .i64 b]] w fun e w' => e = .returned (.bool (okF ⟨k, a, b⟩)) ∧ Below w.heap.size w w'
  obtain ⟨w1, hw1⟩ : ∃ w1, w.alloc (.cells #[.int .i64 k, .int .i64 a, .int .i64 b] 45) = w1 := ⟨_, rfl⟩
  have hB1 : Below w.heap.size w w1 := by rw [← hw1]; exact (Below.refl _ _).alloc (Nat.le_refl _) _
  have hs1 : w1.heap.size = w.heap.size + 1 := by rw [← hw1]; simp
  have hK1 : Blk w1 w.heap.size 45 #[.int .i64 k, .int .i64 a, .int .i64 b] := by rw [← hw1]; exact Blk.new _ _ _
  have hM0 : MP (w1.alloc (.map #[] 0)) (w.heap.size + 1) [] := hs1 ▸ MapOf.made w1
  obtain ⟨w2, r2, hM2, g2⟩ := hM0.update kInt_ Try.underlying93 1 (6, 8)
  obtain ⟨w3, r3, hM3, g3⟩ := hM2.update kInt_ Try.underlying93 2 (4, 6)
  obtain ⟨w4, r4, hM4, g4⟩ := hM3.update kInt_ Try.underlying93 3 (4, 1)
  obtain ⟨w5, r5, hM5, g5⟩ := hM4.update kInt_ Try.underlying93 4 (8, 1)
  obtain ⟨w6, r6, hM6, g6⟩ := hM5.update kInt_ Try.underlying93 5 (6, 1)
  obtain ⟨w7, r7, hM7, g7⟩ := hM6.update kInt_ Try.underlying93 6 (4, 14)
  have hlk := hM7.lookup kInt_ Try.underlying93 (zP w7) k false (v := .agg #[.int .i64 (mA k), .int .i64 (mB' k)]) (tabP_get k) rfl
  simp only [Bool.false_eq_true, if_false] at hlk
  have hB7 : Below w1.heap.size w1 w7 := by
    have h0 : Below w1.heap.size w1 (w1.alloc (.map #[] 0)) := (Below.refl _ _).alloc (Nat.le_refl _) _
    have hk : ∀ k, some w1.heap.size = some k → w1.heap.size ≤ k := fun k e => by injection e with e; omega
    rw [← hs1] at g2 g3 g4 g5 g6 g7
    have h2 := h0.grown g2 h0.size hk
    have h3 := h2.grown g3 h2.size hk
    have h4 := h3.grown g4 h3.size hk
    have h5 := h4.grown g5 h4.size hk
    have h6 := h5.grown g6 h5.size hk
    exact h6.grown g7 h6.size hk
  have hK7 : Blk w7 w.heap.size 45 #[.int .i64 k, .int .i64 a, .int .i64 b] := hK1.belowB hB7
  have HB := Lib.hid (hB1.trans (hB7.mono hB1.size))
  have k0 := hK7.cell 0
  have k1 := hK7.cell 1
  have k2 := hK7.cell 2
  have hlt := hK7.lt
  simp at k0 k1 k2
  clear hM0 hM2 hM3 hM4 hM5 hM6 hM7 g2 g3 g4 g5 g6 g7 hB1 hB7
  rw [← hw1] at r2
  clear hw1
  have hmm := @run_makeMap Try.prog
  go_enter Try.func20, Try.ntmps20
  go_wp2_with fail
  all_goals
    go_ret
    refine ⟨?_, ?_⟩
    · first
        | (rw [okF_fin (by assumption) (by assumption) (by assumption)]; rfl)
        | (rw [okF_a0 (by assumption)]; rfl)
        | (rw [okF_a1 (by assumption)]; rfl)
        | (rw [okF_b0 (by assumption)]; rfl)
    · have hle := HB.out.size
      exact HB.out.alloc hle _
end Go.Proofs.Ytnaiflokmihmeaa
