/- SturmOften: the walk from the arguments as they come. -/
import Derived.Test.YtmchjmflkaiakaaGreatDoorSturmOftenW
import Derived.Test.YtmchjmflkaiakaaGreatDoorBunLib
import Derived.Test.YtmchjmflkaiakaaGreatDoorRows
import Derived.OpenShut
import Derived.ProofKit
import Derived.ChangeSlices
namespace Go.Proofs.YtmchjmflkaiakaaGreatDoor
open Go.RowKit Go.ChangeShapes Go.WideShapes
set_option linter.unusedVariables false
set_option maxRecDepth 100000
theorem int_range {n : Int} (h : (Lit.int .i64 n).wf = true) : -9223372036854775808 ≤ n ∧ n ≤ 9223372036854775807 := by
 simp only [Lit.wf, IntKind.min, IntKind.max, IntKind.signed, IntKind.bits, Bool.and_eq_true, decide_eq_true_eq, if_true] at h
 omega
theorem open_Ints {H : Type} {enc : TypeId × Value → H} {W : World} {base : Nat} {v : Value} {d : DataW H} {p : List MemPlace}
  (h : DataW.Trod enc Tryz.prog W 0 (fun _ => true) true 22 v d p) (o : Value.okWide Tryz.prog W .any base 22 v) : ∃ A n c xs, v = .slice A n c ∧ Ints W A n c xs := by
 obtain ⟨A, len, cap, rfl⟩ := okWide_slice Tryz.underlying22 o
 obtain ⟨fuel, hf⟩ := h
 rcases Go.ChangeShapes.open_ints Tryz.underlying22 Tryz.underlying3 (by kernel_rfl) hf with ⟨hcs, -⟩ | ⟨a, len', cap', zs, hcs, -, hl, -, hz, -, hc, hwf⟩
 ·simp [Value.cells] at hcs
  obtain ⟨rfl, rfl, rfl⟩ := hcs
  exact ⟨none, 0, 0, [], rfl, ⟨by simp [intsOf], fun h => absurd h (by omega)⟩, by omega, fun x hx => by cases hx⟩
 ·simp [Value.cells] at hcs
  obtain ⟨rfl, rfl, rfl⟩ := hcs
  simp at hz
  have hx : ∀ j, j < len → W.cell? (a.add j) = some (.int .i64 (zs.getD j 0)) := fun j hj => hc j (by omega)
  refine ⟨some a, len, cap, zs.take len, rfl, ⟨by simp [intsOf]; omega, fun h0 => ⟨a, rfl, ?_, ?_⟩⟩, hl, fun x hx => int_range (hwf x (List.mem_of_mem_take hx))⟩
  ·have h1 := hx 0 h0
   have e : (a.add 0).block = a.block := block_of_add _ _
   rw [← e]
   exact World.block_lt_of_cell? _ _ h1
  ·intro j u hu
   have hj : j < len := by
    have := (List.getElem?_eq_some_iff.1 hu).1
    simp [intsOf] at this; omega
   rw [hx j hj]
   have hjz : j < zs.length := by omega
   have : (intsOf (zs.take len))[j]? = some (.int .i64 (zs.getD j 0)) := by
    simp [intsOf, hj, List.getD_eq_getElem?_getD, List.getElem?_eq_getElem hjz]
   rw [this] at hu
   exact hu
theorem sturmOften_walk {H : Type} {enc : TypeId × Value → H} (W : World) (v0 v1 v2 : Value) {d0 d1 d2 : DataW H} {p0 p1 p2 : List MemPlace} {base : Nat}
  (h0 : DataW.Trod enc Tryz.prog W 0 (fun _ => true) true 22 v0 d0 p0) (h1 : DataW.Trod enc Tryz.prog W 0 (fun _ => true) true 3 v1 d1 p1) (h2 : DataW.Trod enc Tryz.prog W 0 (fun _ => true) true 3 v2 d2 p2)
  (o0 : Value.okWide Tryz.prog W .any base 22 v0) (o1 : Value.okWide Tryz.prog W .any base 3 v1) (o2 : Value.okWide Tryz.prog W .any base 3 v2)
  (w0 : Light Tryz.prog 22 d0) (w1 : Light Tryz.prog 3 d1) (w2 : Light Tryz.prog 3 d2) (hL : laidMetH Tryz.prog Rows.sturmOftenRow.laid W) :
  Calls Tryz.prog 5 #[v0, v1, v2] W fun e W' => e = .returned (.bool true) ∧ Below W.heap.size W W' := by
 obtain ⟨A0, n0, c0, xs0, rfl, hi0⟩ := open_Ints h0 o0
 obtain ⟨x1, rfl, _, _, hx1⟩ := open_int Tryz.underlying3 o1 h1
 obtain ⟨x2, rfl, _, _, hx2⟩ := open_int Tryz.underlying3 o2 h2
 exact sturmOften_int x1 x2 W hi0 (int_range hx1).1 (int_range hx1).2 (int_range hx2).1 (int_range hx2).2 (tab_of (by kernel_rfl) hL)
end Go.Proofs.YtmchjmflkaiakaaGreatDoor
