/- small, seen. -/
import Derived.Test.YtoejojfjiikogaaDoorSe5
import Derived.LoopN

namespace Go.Proofs.YtoejojfjiikogaaDoor
open Go.RowKit
set_option linter.unusedVariables false
set_option linter.unusedSimpArgs false

def UW (h : Bool) (t : RT) : Array Value := #[.bool h, .bool t.s, .string t.a, .string t.d]
theorem bld_Frame0 {o : Oper} {c : Act} {X : Operand} {x y : RT} (ho : o.op = .build 33 #[(0, X)]) (hX : c.eval X = .agg (SW x y)) (w : World) : (execOp c.eval o).run Tryd.prog w = .ok (.value (.agg (FW x y false rz0))) w := by
  unfold SW at hX
  unfold execOp FW rz0
  simp only [ho, List.map_toArray, List.map_cons, List.map_nil, hX]
  go_simp
theorem RawT0 : RawT 2 0 false rz0 := ⟨.inr ⟨rfl, rfl, .inl rfl⟩, Rz.zero2, Nat.zero_le _, Nat.zero_le _⟩
set_option maxHeartbeats 2000000 in
set_option maxRecDepth 20000 in
theorem small_q {W : World} {l : List Own} (hT : Tab W) (w : World) (h : St W l w) :
    Calls Tryd.prog 29 #[] w fun e w' => e = .returned (.bool true) ∧ Below w.heap.size w w' := by
  have HT := Lib.hid (tabS hT h); clear hT h
  go_enter Tryd.func29, Tryd.ntmps29
  have HS : St w [] w := St.start
  go_upto_region 0 with (fail)
  refine wp_seq_text [] (StR.no HS) ?_
  refine Seq.pure rfl rfl (by intro w; go_simp; try rfl) ?_
  simp only [Act.put, nA, nB, nC]
  refine Seq.done fun ws1 hws => ?_
  have HS1 := hws.st
  clear HS hws
  go_upto_region 1 with (fail)
  refine wp_seq_text [] (StR.no HS1) ?_
  refine Seq.call rfl rfl rfl rfl (by kernel_rfl) (of_q HT.out (by omega) (by omega) (show ((3 : Int) : Rat) = (3 : Rat) from rfl)) ?_
  simp only [Act.put, nA, nB, nC]
  refine Seq.call rfl rfl rfl rfl (by kernel_rfl) (sign_q (k := 2) HT.out ((show Rz 2 (3 : Rat) from Rz.lit (z := 3) rfl (by decide)).more (by omega)) (show sgnQ 3 = 1 from by decide +kernel) (by omega)) ?_
  simp only [Act.put, nA, nB, nC]
  iterate 2 (refine Seq.pure rfl rfl (by intro w; go_simp; try rfl) ?_; simp only [Act.put, nA, nB, nC])
  refine Seq.done fun ws2 hws => ?_
  have HS2 := hws.st
  clear HS1 hws
  go_wp2_with fail
  go_ret
  exact ⟨rfl, HS2.below⟩
end Go.Proofs.YtoejojfjiikogaaDoor
