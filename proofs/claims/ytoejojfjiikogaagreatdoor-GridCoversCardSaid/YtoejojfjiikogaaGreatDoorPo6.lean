/- Joined texts. -/
import Derived.Test.YtoejojfjiikogaaGreatDoorPo5
import Derived.Deep.LoopGhost

/- poly.Box (printed by lawvec.py). -/
namespace Go.Proofs.YtoejojfjiikogaaGreatDoor
open Go.RowKit
set_option linter.unusedVariables false
set_option linter.unusedSimpArgs false

theorem bld_Box {o : Oper} {a : Act} {X Y : Operand} {x y z u : Rat} (ho : o.op = .build 28 #[(0, X), (1, Y)]) (hX : a.eval X = .agg (VC x y)) (hY : a.eval Y = .agg (VC z u)) (w : World) : (execOp a.eval o).run Tryz.prog w = .ok (.value (.agg (BC x y z u))) w := by
  unfold VC at hX hY
  unfold execOp BC
  simp only [ho, List.map_toArray, List.map_cons, List.map_nil, hX, hY]
  go_simp
section
variable {P : Program} {ops : Array Oper} {W : World} {l : List Own} {Q : Exit → Act → World → Prop} {gs : List Nat} {k : Nat} {o : Oper} {rest : List Oper} {a : Act} {R : Reg}
end
end Go.Proofs.YtoejojfjiikogaaGreatDoor
