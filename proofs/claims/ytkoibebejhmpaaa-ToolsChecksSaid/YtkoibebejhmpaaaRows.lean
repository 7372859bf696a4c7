/-
  No cell of these rows narrows 'for every input' (looked for: loops, veiled, ifaces, maps, wideKeys, modest, calm, conditions, laid).
  DERIVED. THE GIVEN ROWS OF THIS SEAT. 3 by the template 'for every input the law returns true; each argument reads behind the call as it read before'; 0 by the template 'total and deterministic' (their statements: YtkoibebejhmpaaaTotals.lean).
  GIVEN WITH THE SEED: the statements are not yours to turn. If you find one false, say at which input.
  Laid BY PROGRAM, IN A SANDBOX (cutbox-rows.mjs): the forced cells as the released guide's own fill.sh prints them over the translation 65157d1133be5f60… (all of the seat's roots in one cut). By AI agents, Wed Nov 11 2026. No macro, syntax, notation, axiom, sorry.
-/
import Derived.Test.YtkoibebejhmpaaaChecked
import GoSem.Claim
import GoSem.ClaimJoined
import GoSem.ClaimMapViews
import Derived.JoinedTies
import Derived.KernelRfl
namespace Go.Proofs.Ytkoibebejhmpaaa
/- THE CELL 'sum', in the pinned program and in every row, IS THE sha256 OF THE DUMP (.gsa) THAT YtkoibebejhmpaaaProg.lean LOADS. Nothing in Lean hashes anything: it is a label: what it is worth is what the hold of that sum in a sandbox is worth. -/
noncomputable def Try.pinned : Pinned := { name := "ytkoibebejhmpaaa", sum := "65157d1133be5f60944e5a5fbd2bcc001a9a11e3992f1f9c11e9aa46d6725d11", checked := Try.checked }
namespace Rows
def none {H : Type} : Left H := { results := [], args := [] }

/-- 'gantlaw4.ToolsFirst': WHATEVER THE INPUT: true; the input reads as it did. -/
def toolsFirstSpec : ChangeSpec := { name := "toolsFirst", fn := fun _ => fun
  | [d1, d2, d3, d4] => { results := [.lit (.bool true)], args := [d1, d2, d3, d4] }
  | _ => none }
def toolsFirstRow : OpenClaim := { program := "ytkoibebejhmpaaa", sum := "65157d1133be5f60944e5a5fbd2bcc001a9a11e3992f1f9c11e9aa46d6725d11", func := "gantry/gantlaw4.ToolsFirst", spec := "toolsFirst", apart := false }
def ToolsFirstSaid : Prop := toolsFirstRow.holds Try.pinned (OpenSpec.ofChange toolsFirstSpec)

/-- ITS FALSE NEIGHBOUR: 'it returns false'. Refute it at one input. -/
def toolsFirstWrong : ChangeSpec := { name := "toolsFirst", fn := fun _ => fun
  | [d1, d2, d3, d4] => { results := [.lit (.bool false)], args := [d1, d2, d3, d4] }
  | _ => none }
def ToolsFirstWrongFalsely : Prop := toolsFirstRow.holds Try.pinned (OpenSpec.ofChange toolsFirstWrong)

/-- 'gantlaw4.ToolsChecks': WHATEVER THE INPUT: true; the input reads as it did. -/
def toolsChecksSpec : ChangeSpec := { name := "toolsChecks", fn := fun _ => fun
  | [d1, d2, d3, d4, d5, d6] => { results := [.lit (.bool true)], args := [d1, d2, d3, d4, d5, d6] }
  | _ => none }
def toolsChecksRow : OpenClaim := { program := "ytkoibebejhmpaaa", sum := "65157d1133be5f60944e5a5fbd2bcc001a9a11e3992f1f9c11e9aa46d6725d11", func := "gantry/gantlaw4.ToolsChecks", spec := "toolsChecks", apart := false }
def ToolsChecksSaid : Prop := toolsChecksRow.holds Try.pinned (OpenSpec.ofChange toolsChecksSpec)

/-- ITS FALSE NEIGHBOUR: 'it returns false'. Refute it at one input. -/
def toolsChecksWrong : ChangeSpec := { name := "toolsChecks", fn := fun _ => fun
  | [d1, d2, d3, d4, d5, d6] => { results := [.lit (.bool false)], args := [d1, d2, d3, d4, d5, d6] }
  | _ => none }
def ToolsChecksWrongFalsely : Prop := toolsChecksRow.holds Try.pinned (OpenSpec.ofChange toolsChecksWrong)

/-- 'gantlaw4.ToolsPlans': WHATEVER THE INPUT: true; the input reads as it did. -/
def toolsPlansSpec : ChangeSpec := { name := "toolsPlans", fn := fun _ => fun
  | [d1, d2] => { results := [.lit (.bool true)], args := [d1, d2] }
  | _ => none }
def toolsPlansRow : OpenClaim := { program := "ytkoibebejhmpaaa", sum := "65157d1133be5f60944e5a5fbd2bcc001a9a11e3992f1f9c11e9aa46d6725d11", func := "gantry/gantlaw4.ToolsPlans", spec := "toolsPlans", apart := false }
def ToolsPlansSaid : Prop := toolsPlansRow.holds Try.pinned (OpenSpec.ofChange toolsPlansSpec)

/-- ITS FALSE NEIGHBOUR: 'it returns false'. Refute it at one input. -/
def toolsPlansWrong : ChangeSpec := { name := "toolsPlans", fn := fun _ => fun
  | [d1, d2] => { results := [.lit (.bool false)], args := [d1, d2] }
  | _ => none }
def ToolsPlansWrongFalsely : Prop := toolsPlansRow.holds Try.pinned (OpenSpec.ofChange toolsPlansWrong)

/- THE SECOND FORM. 'bulk': how many values and letters a reading holds, each counted each time it is reached (what is shared counts as often as it is met; a slice's spare places count too). A statement '..UptoSaid' is the law's where the arguments, and the package variables that the reading takes, are together of bulk at most 1048576: NARROWER than '..Said'. Prove '..Said' where nothing that the law and all that it calls make is longer than what came in: it says more and counts as full. Else prove '..UptoSaid'. A law counts once. -/
mutual
def uptoBulk {H : Type} : DataW H → Nat
  | .lit (.string bytes) => bytes.length + 1
  | .lit _ => 1
  | .nil => 1
  | .ptr d => uptoBulk d + 1
  | .slice elems spare => uptoBulkAll elems + uptoBulkAll spare + 1
  | .agg parts => uptoBulkAll parts + 1
  | .iface _ d => uptoBulk d + 1
  | .map entries => uptoBulkEntries entries + 1
  | .held _ => 1
def uptoBulkAll {H : Type} : List (DataW H) → Nat
  | [] => 0
  | d :: r => uptoBulk d + uptoBulkAll r
def uptoBulkEntries {H : Type} : List (Lit × DataW H) → Nat
  | [] => 0
  | x :: r => uptoBulkEntry x + uptoBulkEntries r
def uptoBulkEntry {H : Type} : Lit × DataW H → Nat
  | (.string bytes, d) => bytes.length + uptoBulk d + 1
  | (_, d) => uptoBulk d + 1
 end
def uptoSmall : (H : Type) → List (DataW H) → Bool := fun _ ds => decide (uptoBulkAll ds ≤ 1048576)
def OpenSpec.upto (s : _root_.Go.ChangeSpec) : _root_.Go.OpenSpec := { _root_.Go.OpenSpec.ofChange s with cond := some uptoSmall }

/-- 'gantlaw4.ToolsFirst', WHERE WHAT IT READS IS OF BULK AT MOST 1048576: true; the input reads as it did. -/
def toolsFirstUptoRow : OpenClaim := { program := "ytkoibebejhmpaaa", sum := "65157d1133be5f60944e5a5fbd2bcc001a9a11e3992f1f9c11e9aa46d6725d11", func := "gantry/gantlaw4.ToolsFirst", spec := "toolsFirst", apart := false, narrowed := true }
def ToolsFirstUptoSaid : Prop := toolsFirstUptoRow.holds Try.pinned (OpenSpec.upto toolsFirstSpec)

/-- 'gantlaw4.ToolsChecks', WHERE WHAT IT READS IS OF BULK AT MOST 1048576: true; the input reads as it did. -/
def toolsChecksUptoRow : OpenClaim := { program := "ytkoibebejhmpaaa", sum := "65157d1133be5f60944e5a5fbd2bcc001a9a11e3992f1f9c11e9aa46d6725d11", func := "gantry/gantlaw4.ToolsChecks", spec := "toolsChecks", apart := false, narrowed := true }
def ToolsChecksUptoSaid : Prop := toolsChecksUptoRow.holds Try.pinned (OpenSpec.upto toolsChecksSpec)

/-- 'gantlaw4.ToolsPlans', WHERE WHAT IT READS IS OF BULK AT MOST 1048576: true; the input reads as it did. -/
def toolsPlansUptoRow : OpenClaim := { program := "ytkoibebejhmpaaa", sum := "65157d1133be5f60944e5a5fbd2bcc001a9a11e3992f1f9c11e9aa46d6725d11", func := "gantry/gantlaw4.ToolsPlans", spec := "toolsPlans", apart := false, narrowed := true }
def ToolsPlansUptoSaid : Prop := toolsPlansUptoRow.holds Try.pinned (OpenSpec.upto toolsPlansSpec)

end Rows
end Go.Proofs.Ytkoibebejhmpaaa
