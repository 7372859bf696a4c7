/- Joined texts. -/
import Derived.Test.YtiejgkmjaphbcaaDoorPo4

/- polyBegun; contracts of polygons (printed by lawvec.py). -/
namespace Go.Proofs.YtiejgkmjaphbcaaDoor
open Go.RowKit
set_option linter.unusedVariables false
set_option linter.unusedSimpArgs false

theorem q4_rz {z : Int} (h0 : -32 ≤ z) (h1 : z ≤ 32) : Rz 2 (q4 z) := (SmallQ.rz ⟨z, 4, rfl, by omega, by omega, by omega, by omega⟩).more (by omega)
theorem polyQ_z (xs : List Int) : Pz 2 (polyQ xs) := by
  have b0 := nxV_lt xs (show 0 < 6 by omega)
  have b1 := nxV_lt xs.tail (show 0 < 6 by omega)
  have b3 := nxV_lt xs.tail.tail.tail (show 0 < 2 * (1 + nxV xs 6) + 1 by omega)
  unfold polyQ shape
  split
  · intro p hp
    simp only [List.mem_cons, List.not_mem_nil, or_false] at hp
    rcases hp with rfl | rfl | rfl | rfl <;> exact ⟨q4_rz (by omega) (by omega), q4_rz (by omega) (by omega)⟩
  · split
    · intro p hp
      simp only [List.mem_cons, List.not_mem_nil, or_false] at hp
      rcases hp with rfl | rfl | rfl <;> exact ⟨q4_rz (by omega) (by omega), q4_rz (by omega) (by omega)⟩
    · split
      · intro p hp
        simp only [List.mem_cons, List.not_mem_nil, or_false] at hp
        rcases hp with rfl | rfl | rfl | rfl | rfl <;> exact ⟨q4_rz (by omega) (by omega), q4_rz (by omega) (by omega)⟩
      · intro p hp
        simp only [List.mem_cons, List.not_mem_nil, or_false] at hp
        rcases hp with rfl | rfl | rfl | rfl <;> exact ⟨q4_rz (by omega) (by omega), q4_rz (by omega) (by omega)⟩
theorem polyQ_len (xs : List Int) : 3 ≤ (polyQ xs).length ∧ (polyQ xs).length ≤ 5 := shape_len _ _ _ _
theorem areaS_rz {k : Nat} {ps : Pts} (hz : Pz k ps) : ∀ i, i ≤ ps.length → Rz (fz k i) (areaS ps i) := by
  intro i
  induction i with
  | zero => intro _; exact Rz.zero2
  | succ i ih =>
    intro hi
    have hj : (i + 1) % ps.length < ps.length := Nat.mod_lt _ (by omega)
    simp only [fz, areaS]
    exact ((ih (by omega)).add (((hz.x (show i < ps.length by omega)).mul (hz.y hj)).sub ((hz.y (show i < ps.length by omega)).mul (hz.x hj)))).more (by omega)
theorem areaQ_rz {k m : Nat} {ps : Pts} (hz : Pz k ps) (hk : k ≤ 1000) (hl : ps.length = m) (hm : m ≤ 8) : Rz 1000000000000 (areaQ ps) := by
  have h := areaS_rz hz _ (Nat.le_refl _)
  have e : fz k ps.length ≤ fz k 8 := fz_mono k (by omega)
  have e2 : fz k 8 ≤ 100000000 := by simp only [fz]; omega
  exact ((num_s 1 2 (by decide) (by decide) (by decide)).mul h).more (by omega)
def sqP : Pts := [((0 : Rat), (0 : Rat)), ((2 : Rat), (0 : Rat)), ((2 : Rat), (2 : Rat)), ((0 : Rat), (2 : Rat))]
theorem sq_z : Pz 2 [((0 : Rat), (0 : Rat)), ((2 : Rat), (0 : Rat)), ((2 : Rat), (2 : Rat)), ((0 : Rat), (2 : Rat))] := by
  have h2 : Rz 2 (2 : Rat) := Rz.lit (z := 2) rfl (by decide)
  intro p hp
  simp only [List.mem_cons, List.not_mem_nil, or_false] at hp
  rcases hp with rfl | rfl | rfl | rfl
  · exact ⟨Rz.zero2, Rz.zero2⟩
  · exact ⟨h2, Rz.zero2⟩
  · exact ⟨h2, h2⟩
  · exact ⟨Rz.zero2, h2⟩
theorem sq_cvx : Cvx [((0 : Rat), (0 : Rat)), ((2 : Rat), (0 : Rat)), ((2 : Rat), (2 : Rat)), ((0 : Rat), (2 : Rat))] := cvx_of (by decide +kernel)
theorem sq_area : areaQ [((0 : Rat), (0 : Rat)), ((2 : Rat), (0 : Rat)), ((2 : Rat), (2 : Rat)), ((0 : Rat), (2 : Rat))] = 4 := by decide +kernel
end Go.Proofs.YtiejgkmjaphbcaaDoor
