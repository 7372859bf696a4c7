/-
  No cell of these rows narrows 'for every input' (looked for: loops, veiled, ifaces, maps, wideKeys, modest, calm, conditions, laid).
  DERIVED. THE GIVEN ROWS OF THIS SEAT. 6 by the template 'for every input the law returns true; each argument reads behind the call as it read before'; 0 by the template 'total and deterministic' (their statements: YtnaiflokmihmeaaTotals.lean).
  GIVEN WITH THE SEED: the statements are not yours to turn. If you find one false, say at which input.
  Laid BY PROGRAM, IN A SANDBOX (cutbox-rows.mjs): the forced cells as the released guide's own fill.sh prints them over the translation 4054086329ee8c4f… (all of the seat's roots in one cut). By AI agents, Wed Nov 11 2026. No macro, syntax, notation, axiom, sorry.
-/
import Derived.Test.YtnaiflokmihmeaaChecked
import GoSem.Claim
import GoSem.ClaimJoined
import GoSem.ClaimMapViews
import Derived.JoinedTies
import Derived.KernelRfl
namespace Go.Proofs.Ytnaiflokmihmeaa
/- THE CELL 'sum', in the pinned program and in every row, IS THE sha256 OF THE DUMP (.gsa) THAT YtnaiflokmihmeaaProg.lean LOADS. Nothing in Lean hashes anything: it is a label: what it is worth is what the hold of that sum in a sandbox is worth. -/
noncomputable def Try.pinned : Pinned := { name := "ytnaiflokmihmeaa", sum := "4054086329ee8c4f7c3d48a341d1c526ec667f0dbbff0a0ea5c00897e7ec34a8", checked := Try.checked }
namespace Rows
def none {H : Type} : Left H := { results := [], args := [] }

/-- 'gantlaw4.ActRuns': WHATEVER THE INPUT: true; the input reads as it did. -/
def actRunsSpec : ChangeSpec := { name := "actRuns", fn := fun _ => fun
  | [d1, d2] => { results := [.lit (.bool true)], args := [d1, d2] }
  | _ => none }
def actRunsRow : OpenClaim := { program := "ytnaiflokmihmeaa", sum := "4054086329ee8c4f7c3d48a341d1c526ec667f0dbbff0a0ea5c00897e7ec34a8", func := "gantry/gantlaw4.ActRuns", spec := "actRuns", plainKeys := false, apart := false }
def ActRunsSaid : Prop := actRunsRow.holds Try.pinned (OpenSpec.ofChange actRunsSpec)

/-- ITS FALSE NEIGHBOUR: 'it returns false'. Refute it at one input. -/
def actRunsWrong : ChangeSpec := { name := "actRuns", fn := fun _ => fun
  | [d1, d2] => { results := [.lit (.bool false)], args := [d1, d2] }
  | _ => none }
def ActRunsWrongFalsely : Prop := actRunsRow.holds Try.pinned (OpenSpec.ofChange actRunsWrong)

/-- 'gantlaw4.ReplanMoves': WHATEVER THE INPUT: true; the input reads as it did. -/
def replanMovesSpec : ChangeSpec := { name := "replanMoves", fn := fun _ => fun
  | [d1, d2, d3, d4, d5] => { results := [.lit (.bool true)], args := [d1, d2, d3, d4, d5] }
  | _ => none }
def replanMovesRow : OpenClaim := { program := "ytnaiflokmihmeaa", sum := "4054086329ee8c4f7c3d48a341d1c526ec667f0dbbff0a0ea5c00897e7ec34a8", func := "gantry/gantlaw4.ReplanMoves", spec := "replanMoves", plainKeys := false, apart := false }
def ReplanMovesSaid : Prop := replanMovesRow.holds Try.pinned (OpenSpec.ofChange replanMovesSpec)

/-- ITS FALSE NEIGHBOUR: 'it returns false'. Refute it at one input. -/
def replanMovesWrong : ChangeSpec := { name := "replanMoves", fn := fun _ => fun
  | [d1, d2, d3, d4, d5] => { results := [.lit (.bool false)], args := [d1, d2, d3, d4, d5] }
  | _ => none }
def ReplanMovesWrongFalsely : Prop := replanMovesRow.holds Try.pinned (OpenSpec.ofChange replanMovesWrong)

/-- 'gantlaw4.FactSets': WHATEVER THE INPUT: true; the input reads as it did. -/
def factSetsSpec : ChangeSpec := { name := "factSets", fn := fun _ => fun
  | [d1, d2, d3, d4] => { results := [.lit (.bool true)], args := [d1, d2, d3, d4] }
  | _ => none }
def factSetsRow : OpenClaim := { program := "ytnaiflokmihmeaa", sum := "4054086329ee8c4f7c3d48a341d1c526ec667f0dbbff0a0ea5c00897e7ec34a8", func := "gantry/gantlaw4.FactSets", spec := "factSets", unfollowed := true, recurses := true, plainKeys := false, apart := false }
def FactSetsSaid : Prop := factSetsRow.holds Try.pinned (OpenSpec.ofChange factSetsSpec)

/-- ITS FALSE NEIGHBOUR: 'it returns false'. Refute it at one input. -/
def factSetsWrong : ChangeSpec := { name := "factSets", fn := fun _ => fun
  | [d1, d2, d3, d4] => { results := [.lit (.bool false)], args := [d1, d2, d3, d4] }
  | _ => none }
def FactSetsWrongFalsely : Prop := factSetsRow.holds Try.pinned (OpenSpec.ofChange factSetsWrong)

/-- 'gantlaw4.OrderBefore': WHATEVER THE INPUT: true; the input reads as it did. -/
def orderBeforeSpec : ChangeSpec := { name := "orderBefore", fn := fun _ => fun
  | [d1, d2, d3] => { results := [.lit (.bool true)], args := [d1, d2, d3] }
  | _ => none }
def orderBeforeRow : OpenClaim := { program := "ytnaiflokmihmeaa", sum := "4054086329ee8c4f7c3d48a341d1c526ec667f0dbbff0a0ea5c00897e7ec34a8", func := "gantry/gantlaw4.OrderBefore", spec := "orderBefore", unfollowed := true, recurses := true, plainKeys := false, apart := false }
def OrderBeforeSaid : Prop := orderBeforeRow.holds Try.pinned (OpenSpec.ofChange orderBeforeSpec)

/-- ITS FALSE NEIGHBOUR: 'it returns false'. Refute it at one input. -/
def orderBeforeWrong : ChangeSpec := { name := "orderBefore", fn := fun _ => fun
  | [d1, d2, d3] => { results := [.lit (.bool false)], args := [d1, d2, d3] }
  | _ => none }
def OrderBeforeWrongFalsely : Prop := orderBeforeRow.holds Try.pinned (OpenSpec.ofChange orderBeforeWrong)

/-- 'gantlaw4.ActWorlds': WHATEVER THE INPUT: true; the input reads as it did. -/
def actWorldsSpec : ChangeSpec := { name := "actWorlds", fn := fun _ => fun
  | [d1, d2, d3, d4] => { results := [.lit (.bool true)], args := [d1, d2, d3, d4] }
  | _ => none }
def actWorldsRow : OpenClaim := { program := "ytnaiflokmihmeaa", sum := "4054086329ee8c4f7c3d48a341d1c526ec667f0dbbff0a0ea5c00897e7ec34a8", func := "gantry/gantlaw4.ActWorlds", spec := "actWorlds", unfollowed := true, recurses := true, plainKeys := false, apart := false }
def ActWorldsSaid : Prop := actWorldsRow.holds Try.pinned (OpenSpec.ofChange actWorldsSpec)

/-- ITS FALSE NEIGHBOUR: 'it returns false'. Refute it at one input. -/
def actWorldsWrong : ChangeSpec := { name := "actWorlds", fn := fun _ => fun
  | [d1, d2, d3, d4] => { results := [.lit (.bool false)], args := [d1, d2, d3, d4] }
  | _ => none }
def ActWorldsWrongFalsely : Prop := actWorldsRow.holds Try.pinned (OpenSpec.ofChange actWorldsWrong)

/-- 'gantlaw4.ActSteps': WHATEVER THE INPUT: true; the input reads as it did. -/
def actStepsSpec : ChangeSpec := { name := "actSteps", fn := fun _ => fun
  | [d1, d2, d3] => { results := [.lit (.bool true)], args := [d1, d2, d3] }
  | _ => none }
def actStepsRow : OpenClaim := { program := "ytnaiflokmihmeaa", sum := "4054086329ee8c4f7c3d48a341d1c526ec667f0dbbff0a0ea5c00897e7ec34a8", func := "gantry/gantlaw4.ActSteps", spec := "actSteps", inPlace := ["slices.overlaps[gantry/api.Step]"], unfollowed := true, recurses := true, plainKeys := false, apart := false }
def ActStepsSaid : Prop := actStepsRow.holds Try.pinned (OpenSpec.ofChange actStepsSpec)

/-- ITS FALSE NEIGHBOUR: 'it returns false'. Refute it at one input. -/
def actStepsWrong : ChangeSpec := { name := "actSteps", fn := fun _ => fun
  | [d1, d2, d3] => { results := [.lit (.bool false)], args := [d1, d2, d3] }
  | _ => none }
def ActStepsWrongFalsely : Prop := actStepsRow.holds Try.pinned (OpenSpec.ofChange actStepsWrong)

/- THE SECOND FORM. 'bulk': how many values and letters a reading holds, each counted each time it is reached (what is shared counts as often as it is met; a slice's spare places count too). A statement '..UptoSaid' is the law's where the arguments, and the package variables that the reading takes, are together of bulk at most 1048576: NARROWER than '..Said'. Prove '..Said' where nothing that the law and all that it calls make is longer than what came in: it says more and counts as full. Else prove '..UptoSaid'. A law counts once. -/
mutual
def uptoBulk {H : Type} : DataW H → Nat
  | .lit (.string bytes) => bytes.length + 1
  | .lit _ => 1
  | .nil => 1
  | .ptr d => uptoBulk d + 1
  | .slice elems spare => uptoBulkAll elems + uptoBulkAll spare + 1
  | .agg parts => uptoBulkAll parts + 1
  | .iface _ d => uptoBulk d + 1
  | .map entries => uptoBulkEntries entries + 1
  | .held _ => 1
def uptoBulkAll {H : Type} : List (DataW H) → Nat
  | [] => 0
  | d :: r => uptoBulk d + uptoBulkAll r
def uptoBulkEntries {H : Type} : List (Lit × DataW H) → Nat
  | [] => 0
  | x :: r => uptoBulkEntry x + uptoBulkEntries r
def uptoBulkEntry {H : Type} : Lit × DataW H → Nat
  | (.string bytes, d) => bytes.length + uptoBulk d + 1
  | (_, d) => uptoBulk d + 1
 end
def uptoSmall : (H : Type) → List (DataW H) → Bool := fun _ ds => decide (uptoBulkAll ds ≤ 1048576)
def OpenSpec.upto (s : _root_.Go.ChangeSpec) : _root_.Go.OpenSpec := { _root_.Go.OpenSpec.ofChange s with cond := some uptoSmall }

/-- 'gantlaw4.ActRuns', WHERE WHAT IT READS IS OF BULK AT MOST 1048576: true; the input reads as it did. -/
def actRunsUptoRow : OpenClaim := { program := "ytnaiflokmihmeaa", sum := "4054086329ee8c4f7c3d48a341d1c526ec667f0dbbff0a0ea5c00897e7ec34a8", func := "gantry/gantlaw4.ActRuns", spec := "actRuns", plainKeys := false, apart := false, narrowed := true }
def ActRunsUptoSaid : Prop := actRunsUptoRow.holds Try.pinned (OpenSpec.upto actRunsSpec)

/-- 'gantlaw4.ReplanMoves', WHERE WHAT IT READS IS OF BULK AT MOST 1048576: true; the input reads as it did. -/
def replanMovesUptoRow : OpenClaim := { program := "ytnaiflokmihmeaa", sum := "4054086329ee8c4f7c3d48a341d1c526ec667f0dbbff0a0ea5c00897e7ec34a8", func := "gantry/gantlaw4.ReplanMoves", spec := "replanMoves", plainKeys := false, apart := false, narrowed := true }
def ReplanMovesUptoSaid : Prop := replanMovesUptoRow.holds Try.pinned (OpenSpec.upto replanMovesSpec)

/-- 'gantlaw4.FactSets', WHERE WHAT IT READS IS OF BULK AT MOST 1048576: true; the input reads as it did. -/
def factSetsUptoRow : OpenClaim := { program := "ytnaiflokmihmeaa", sum := "4054086329ee8c4f7c3d48a341d1c526ec667f0dbbff0a0ea5c00897e7ec34a8", func := "gantry/gantlaw4.FactSets", spec := "factSets", unfollowed := true, recurses := true, plainKeys := false, apart := false, narrowed := true }
def FactSetsUptoSaid : Prop := factSetsUptoRow.holds Try.pinned (OpenSpec.upto factSetsSpec)

/-- 'gantlaw4.OrderBefore', WHERE WHAT IT READS IS OF BULK AT MOST 1048576: true; the input reads as it did. -/
def orderBeforeUptoRow : OpenClaim := { program := "ytnaiflokmihmeaa", sum := "4054086329ee8c4f7c3d48a341d1c526ec667f0dbbff0a0ea5c00897e7ec34a8", func := "gantry/gantlaw4.OrderBefore", spec := "orderBefore", unfollowed := true, recurses := true, plainKeys := false, apart := false, narrowed := true }
def OrderBeforeUptoSaid : Prop := orderBeforeUptoRow.holds Try.pinned (OpenSpec.upto orderBeforeSpec)

/-- 'gantlaw4.ActWorlds', WHERE WHAT IT READS IS OF BULK AT MOST 1048576: true; the input reads as it did. -/
def actWorldsUptoRow : OpenClaim := { program := "ytnaiflokmihmeaa", sum := "4054086329ee8c4f7c3d48a341d1c526ec667f0dbbff0a0ea5c00897e7ec34a8", func := "gantry/gantlaw4.ActWorlds", spec := "actWorlds", unfollowed := true, recurses := true, plainKeys := false, apart := false, narrowed := true }
def ActWorldsUptoSaid : Prop := actWorldsUptoRow.holds Try.pinned (OpenSpec.upto actWorldsSpec)

/-- 'gantlaw4.ActSteps', WHERE WHAT IT READS IS OF BULK AT MOST 1048576: true; the input reads as it did. -/
def actStepsUptoRow : OpenClaim := { program := "ytnaiflokmihmeaa", sum := "4054086329ee8c4f7c3d48a341d1c526ec667f0dbbff0a0ea5c00897e7ec34a8", func := "gantry/gantlaw4.ActSteps", spec := "actSteps", inPlace := ["slices.overlaps[gantry/api.Step]"], unfollowed := true, recurses := true, plainKeys := false, apart := false, narrowed := true }
def ActStepsUptoSaid : Prop := actStepsUptoRow.holds Try.pinned (OpenSpec.upto actStepsSpec)

end Rows
end Go.Proofs.Ytnaiflokmihmeaa
