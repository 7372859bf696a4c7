/- Cells: gantkeep1.gridBegun (printed by gridb.py). -/
import Derived.Test.YtoejojfjiikogaaGreatDoorGrF

namespace Go.Proofs.YtoejojfjiikogaaGreatDoor
open Go.RowKit
set_option linter.unusedVariables false
set_option linter.unusedSimpArgs false

theorem raw0 : RawT 2 0 false rz0 := ⟨.inr ⟨rfl, rfl, .inl rfl⟩, Rz.lit (z := 0) rfl (by decide), by decide, by decide⟩
theorem fl0 : flQ 0 = 0 := by decide +kernel
theorem fl0n : flQ (-0) = 0 := by decide +kernel
set_option maxHeartbeats 2000000 in
set_option maxRecDepth 20000 in
theorem gbegun_any (w : World) (hT : Tab w) : Calls Tryz.prog 6 #[] w fun e w' => e = .returned (.bool true) ∧ Below w.heap.size w w' := by
  have HO := Lib.hid (of_w (k := 2) w hT raw0 raw0 raw0 raw0 (Rat.le_refl) (Rat.le_refl) fl0n fl0 (show (-1 : Int) = -0 - 1 by omega) (by omega) (by omega) (by omega) (by omega) fl0n fl0 (show (-1 : Int) = -0 - 1 by omega) (by omega) (by omega) (by omega) (by omega) (show ((2 : Nat) : Int) = 0 - -1 + 1 by omega) (show ((2 : Nat) : Int) = 0 - -1 + 1 by omega) (by omega) (by omega) (by omega))
  clear hT
  have e4 : (rowsL (-1) (-1) 2 2).length = 4 := by decide +kernel
  have hg0 : (rowsL (-1) (-1) 2 2)[0]? = some ⟨-1, -1⟩ := by decide +kernel
  have HG := Lib.hid (And.intro e4 hg0)
  clear e4 hg0
  unfold QW rz0 at HO
  dsimp only at HO
  go_enter Tryz.func6, Tryz.ntmps6
  go_wp2_with fail
  refine HO.out.mono ?_
  rintro e w1 ⟨v, rfl, hr⟩
  obtain ⟨A, c, rfl, hl, hm, hF⟩ := hr.facts
  have HB := Lib.hid hr.bel
  obtain ⟨b, off, rfl, hb, h0, h1⟩ := hF.two HG.out.2
  rw [HG.out.1] at hl ⊢
  clear hr hF HO hm
  rw [Nat.zero_mul, Nat.add_zero] at h0 h1
  dsimp only at h0 h1
  have heq := equal_ft (-1) (-1) (-1) (-1) (b := true) rfl
  have heq2 := equal_ft2 (-1) (-1) (-1) (-1) (b := true) rfl
  go_wp2_with fail
  go_ret
  exact ⟨rfl, HB.out⟩
end Go.Proofs.YtoejojfjiikogaaGreatDoor
