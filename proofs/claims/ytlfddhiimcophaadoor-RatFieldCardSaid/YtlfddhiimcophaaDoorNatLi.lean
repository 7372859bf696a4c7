/- The de Bruijn table, from a row that lists it first. -/
import Derived.Test.YtlfddhiimcophaaDoorNatLh
import Derived.Test.YtlfddhiimcophaaDoorRows
import Derived.Lib.LaidTab
import Derived.LaidByTextLater
namespace Go.Proofs.YtlfddhiimcophaaDoor
open Go.RowKit
set_option linter.unusedVariables false

theorem tab_data : (Rows.laid_math_bits_deBruijn64tab : DataW Unit) = Lib.tabData .u8 (Lib.deBruijn64tab.map fun (n : Nat) => (n : Int)) := by kernel_rfl
theorem tab_of {rest : List (String × DataW Unit)} {W : World} (hp : ((("math/bits.deBruijn64tab", Rows.laid_math_bits_deBruijn64tab) :: rest).filter fun x => x.2.handleName?.isSome) = []) (h : laidMetH Tryd.prog (("math/bits.deBruijn64tab", Rows.laid_math_bits_deBruijn64tab) :: rest) W) : Tab W := by
  unfold laidMetH at h
  rw [hp, tab_data] at h
  have h1 := Lib.tabIs_of_head (g := 1) (by kernel_rfl) (by kernel_rfl) Tryd.underlying124 Tryd.underlying5 (by kernel_rfl) (by kernel_rfl) h
  have hc : ∀ j, j < 64 → W.cell? ⟨1, j, none⟩ = some (.int .u8 ((Lib.deBruijn64tab.getD j 0 : Nat) : Int)) := fun j hj => by
    have h2 := h1.cell (g := 1) (by kernel_rfl) j (by rw [List.length_map]; exact hj)
    rw [h2]
    have hj2 : j < Lib.deBruijn64tab.length := hj
    simp [List.getD_eq_getElem?_getD, List.getElem?_map, List.getElem?_eq_getElem hj2]
  exact ⟨World.block_lt_of_cell? W _ (hc 0 (by omega)), hc⟩
end Go.Proofs.YtlfddhiimcophaaDoor
