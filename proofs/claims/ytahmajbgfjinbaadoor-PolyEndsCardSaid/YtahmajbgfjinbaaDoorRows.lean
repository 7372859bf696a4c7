/-
  NARROWER THAN 'FOR EVERY INPUT', by the rows' own cells (each row's printed sentence says how): VecLaws: laid · TurnGroup: laid · SpanMeets: laid · SpanSharp: laid · FrameGroup: laid · TurnHolds: laid · SpanHolds: laid · TurnBack: laid · BorderNext: laid · BorderOut: laid · PolyMoves: laid · PolyEnds: laid.
  DERIVED. THE GIVEN ROWS OF THIS SEAT. 12 by the template 'for every input the law returns true; each argument reads behind the call as it read before'; 0 by the template 'total and deterministic' (their statements: YtahmajbgfjinbaaDoorTotals.lean).
  GIVEN WITH THE SEED: the statements are not yours to turn. If you find one false, say at which input.
  Laid BY PROGRAM, IN A SANDBOX (cutbox-rows.mjs): the forced cells as the released guide's own fill.sh prints them over the translation 4825673e4d5945d7… (all of the seat's roots in one cut). By AI agents, Wed Nov 11 2026. No macro, syntax, notation, axiom, sorry.
-/
import Derived.Test.YtahmajbgfjinbaaDoorChecked
import GoSem.Claim
import GoSem.ClaimJoined
import GoSem.ClaimMapViews
import Derived.JoinedTies
import Derived.KernelRfl
namespace Go.Proofs.YtahmajbgfjinbaaDoor
/- THE CELL 'sum', in the pinned program and in every row, IS THE sha256 OF THE DUMP (.gsa) THAT YtahmajbgfjinbaaDoorProg.lean LOADS. Nothing in Lean hashes anything: it is a label: what it is worth is what the hold of that sum in a sandbox is worth. -/
noncomputable def Tryd.pinned : Pinned := { name := "ytahmajbgfjinbaadoor", sum := "4825673e4d5945d741f3f77b76bb77710b5c9c4f6e975bd087d418d2e322ec6d", checked := Tryd.checked }
namespace Rows
def none {H : Type} : Left H := { results := [], args := [] }

/- WHAT THE LISTED PACKAGE-LEVEL VARIABLES READ AS WHEN THE CALL BEGINS. Each datum BY PROGRAM (the guide's laid-datum.mjs) off the statement by which the dump's own 'gosem.cut.vars' lays the variable. In a bare row this is a premise. The card (YtahmajbgfjinbaaDoorCards.lean) ties it to the program's text. -/
def laid_math_bits_deBruijn64tab {H : Type} : DataW H := .agg [.lit (.int .u8 0), .lit (.int .u8 1), .lit (.int .u8 56), .lit (.int .u8 2), .lit (.int .u8 57), .lit (.int .u8 49), .lit (.int .u8 28), .lit (.int .u8 3), .lit (.int .u8 61), .lit (.int .u8 58), .lit (.int .u8 42), .lit (.int .u8 50), .lit (.int .u8 38), .lit (.int .u8 29), .lit (.int .u8 17), .lit (.int .u8 4), .lit (.int .u8 62), .lit (.int .u8 47), .lit (.int .u8 59), .lit (.int .u8 36), .lit (.int .u8 45), .lit (.int .u8 43), .lit (.int .u8 51), .lit (.int .u8 22), .lit (.int .u8 53), .lit (.int .u8 39), .lit (.int .u8 33), .lit (.int .u8 30), .lit (.int .u8 24), .lit (.int .u8 18), .lit (.int .u8 12), .lit (.int .u8 5), .lit (.int .u8 63), .lit (.int .u8 55), .lit (.int .u8 48), .lit (.int .u8 27), .lit (.int .u8 60), .lit (.int .u8 41), .lit (.int .u8 37), .lit (.int .u8 16), .lit (.int .u8 46), .lit (.int .u8 35), .lit (.int .u8 44), .lit (.int .u8 21), .lit (.int .u8 52), .lit (.int .u8 32), .lit (.int .u8 23), .lit (.int .u8 11), .lit (.int .u8 54), .lit (.int .u8 26), .lit (.int .u8 40), .lit (.int .u8 15), .lit (.int .u8 34), .lit (.int .u8 20), .lit (.int .u8 31), .lit (.int .u8 10), .lit (.int .u8 25), .lit (.int .u8 14), .lit (.int .u8 19), .lit (.int .u8 9), .lit (.int .u8 13), .lit (.int .u8 8), .lit (.int .u8 7), .lit (.int .u8 6)]

/-- 'gantkeep1.VecLaws': WHATEVER THE INPUT: true; the input reads as it did. -/
def vecLawsSpec : ChangeSpec := { name := "vecLaws", fn := fun _ => fun
  | [d1, d2, d3, d4, d5] => { results := [.lit (.bool true)], args := [d1, d2, d3, d4, d5] }
  | _ => none }
def vecLawsRow : OpenClaim := { program := "ytahmajbgfjinbaadoor", sum := "4825673e4d5945d741f3f77b76bb77710b5c9c4f6e975bd087d418d2e322ec6d", func := "gantry/gantkeep1.VecLaws", spec := "vecLaws", inPlace := ["math/bits.Sub64", "internal/bytealg.abigen_runtime_cmpstring"], named := ["math/bits.deBruijn64tab"], apart := false, laid := [("math/bits.deBruijn64tab", laid_math_bits_deBruijn64tab)] }
def VecLawsSaid : Prop := vecLawsRow.holds Tryd.pinned (OpenSpec.ofChange vecLawsSpec)

/-- ITS FALSE NEIGHBOUR: 'it returns false'. Refute it at one input. -/
def vecLawsWrong : ChangeSpec := { name := "vecLaws", fn := fun _ => fun
  | [d1, d2, d3, d4, d5] => { results := [.lit (.bool false)], args := [d1, d2, d3, d4, d5] }
  | _ => none }
def VecLawsWrongFalsely : Prop := vecLawsRow.holds Tryd.pinned (OpenSpec.ofChange vecLawsWrong)

/-- 'gantkeep1.TurnGroup': WHATEVER THE INPUT: true; the input reads as it did. -/
def turnGroupSpec : ChangeSpec := { name := "turnGroup", fn := fun _ => fun
  | [d1, d2, d3] => { results := [.lit (.bool true)], args := [d1, d2, d3] }
  | _ => none }
def turnGroupRow : OpenClaim := { program := "ytahmajbgfjinbaadoor", sum := "4825673e4d5945d741f3f77b76bb77710b5c9c4f6e975bd087d418d2e322ec6d", func := "gantry/gantkeep1.TurnGroup", spec := "turnGroup", inPlace := ["math/bits.Sub64", "internal/bytealg.abigen_runtime_cmpstring"], named := ["math/bits.deBruijn64tab"], apart := false, laid := [("math/bits.deBruijn64tab", laid_math_bits_deBruijn64tab)] }
def TurnGroupSaid : Prop := turnGroupRow.holds Tryd.pinned (OpenSpec.ofChange turnGroupSpec)

/-- ITS FALSE NEIGHBOUR: 'it returns false'. Refute it at one input. -/
def turnGroupWrong : ChangeSpec := { name := "turnGroup", fn := fun _ => fun
  | [d1, d2, d3] => { results := [.lit (.bool false)], args := [d1, d2, d3] }
  | _ => none }
def TurnGroupWrongFalsely : Prop := turnGroupRow.holds Tryd.pinned (OpenSpec.ofChange turnGroupWrong)

/-- 'gantkeep1.SpanMeets': WHATEVER THE INPUT: true; the input reads as it did. -/
def spanMeetsSpec : ChangeSpec := { name := "spanMeets", fn := fun _ => fun
  | [d1, d2, d3, d4] => { results := [.lit (.bool true)], args := [d1, d2, d3, d4] }
  | _ => none }
def spanMeetsRow : OpenClaim := { program := "ytahmajbgfjinbaadoor", sum := "4825673e4d5945d741f3f77b76bb77710b5c9c4f6e975bd087d418d2e322ec6d", func := "gantry/gantkeep1.SpanMeets", spec := "spanMeets", inPlace := ["math/bits.Sub64", "internal/bytealg.abigen_runtime_cmpstring"], named := ["math/bits.deBruijn64tab"], apart := false, laid := [("math/bits.deBruijn64tab", laid_math_bits_deBruijn64tab)] }
def SpanMeetsSaid : Prop := spanMeetsRow.holds Tryd.pinned (OpenSpec.ofChange spanMeetsSpec)

/-- ITS FALSE NEIGHBOUR: 'it returns false'. Refute it at one input. -/
def spanMeetsWrong : ChangeSpec := { name := "spanMeets", fn := fun _ => fun
  | [d1, d2, d3, d4] => { results := [.lit (.bool false)], args := [d1, d2, d3, d4] }
  | _ => none }
def SpanMeetsWrongFalsely : Prop := spanMeetsRow.holds Tryd.pinned (OpenSpec.ofChange spanMeetsWrong)

/-- 'gantkeep1.SpanSharp': WHATEVER THE INPUT: true; the input reads as it did. -/
def spanSharpSpec : ChangeSpec := { name := "spanSharp", fn := fun _ => fun
  | [d1, d2, d3, d4, d5] => { results := [.lit (.bool true)], args := [d1, d2, d3, d4, d5] }
  | _ => none }
def spanSharpRow : OpenClaim := { program := "ytahmajbgfjinbaadoor", sum := "4825673e4d5945d741f3f77b76bb77710b5c9c4f6e975bd087d418d2e322ec6d", func := "gantry/gantkeep1.SpanSharp", spec := "spanSharp", inPlace := ["math/bits.Sub64", "internal/bytealg.abigen_runtime_cmpstring"], named := ["math/bits.deBruijn64tab"], apart := false, laid := [("math/bits.deBruijn64tab", laid_math_bits_deBruijn64tab)] }
def SpanSharpSaid : Prop := spanSharpRow.holds Tryd.pinned (OpenSpec.ofChange spanSharpSpec)

/-- ITS FALSE NEIGHBOUR: 'it returns false'. Refute it at one input. -/
def spanSharpWrong : ChangeSpec := { name := "spanSharp", fn := fun _ => fun
  | [d1, d2, d3, d4, d5] => { results := [.lit (.bool false)], args := [d1, d2, d3, d4, d5] }
  | _ => none }
def SpanSharpWrongFalsely : Prop := spanSharpRow.holds Tryd.pinned (OpenSpec.ofChange spanSharpWrong)

/-- 'gantkeep1.FrameGroup': WHATEVER THE INPUT: true; the input reads as it did. -/
def frameGroupSpec : ChangeSpec := { name := "frameGroup", fn := fun _ => fun
  | [d1, d2, d3, d4, d5, d6, d7, d8] => { results := [.lit (.bool true)], args := [d1, d2, d3, d4, d5, d6, d7, d8] }
  | _ => none }
def frameGroupRow : OpenClaim := { program := "ytahmajbgfjinbaadoor", sum := "4825673e4d5945d741f3f77b76bb77710b5c9c4f6e975bd087d418d2e322ec6d", func := "gantry/gantkeep1.FrameGroup", spec := "frameGroup", inPlace := ["math/bits.Sub64", "internal/bytealg.abigen_runtime_cmpstring"], named := ["math/bits.deBruijn64tab"], apart := false, laid := [("math/bits.deBruijn64tab", laid_math_bits_deBruijn64tab)] }
def FrameGroupSaid : Prop := frameGroupRow.holds Tryd.pinned (OpenSpec.ofChange frameGroupSpec)

/-- ITS FALSE NEIGHBOUR: 'it returns false'. Refute it at one input. -/
def frameGroupWrong : ChangeSpec := { name := "frameGroup", fn := fun _ => fun
  | [d1, d2, d3, d4, d5, d6, d7, d8] => { results := [.lit (.bool false)], args := [d1, d2, d3, d4, d5, d6, d7, d8] }
  | _ => none }
def FrameGroupWrongFalsely : Prop := frameGroupRow.holds Tryd.pinned (OpenSpec.ofChange frameGroupWrong)

/-- 'gantkeep1.TurnHolds': WHATEVER THE INPUT: true; the input reads as it did. -/
def turnHoldsSpec : ChangeSpec := { name := "turnHolds", fn := fun _ => fun
  | [d1, d2, d3] => { results := [.lit (.bool true)], args := [d1, d2, d3] }
  | _ => none }
def turnHoldsRow : OpenClaim := { program := "ytahmajbgfjinbaadoor", sum := "4825673e4d5945d741f3f77b76bb77710b5c9c4f6e975bd087d418d2e322ec6d", func := "gantry/gantkeep1.TurnHolds", spec := "turnHolds", inPlace := ["math/bits.Sub64", "internal/bytealg.abigen_runtime_cmpstring"], unfollowed := true, recurses := true, named := ["math/bits.deBruijn64tab"], apart := false, laid := [("math/bits.deBruijn64tab", laid_math_bits_deBruijn64tab)] }
def TurnHoldsSaid : Prop := turnHoldsRow.holds Tryd.pinned (OpenSpec.ofChange turnHoldsSpec)

/-- ITS FALSE NEIGHBOUR: 'it returns false'. Refute it at one input. -/
def turnHoldsWrong : ChangeSpec := { name := "turnHolds", fn := fun _ => fun
  | [d1, d2, d3] => { results := [.lit (.bool false)], args := [d1, d2, d3] }
  | _ => none }
def TurnHoldsWrongFalsely : Prop := turnHoldsRow.holds Tryd.pinned (OpenSpec.ofChange turnHoldsWrong)

/-- 'gantkeep1.SpanHolds': WHATEVER THE INPUT: true; the input reads as it did. -/
def spanHoldsSpec : ChangeSpec := { name := "spanHolds", fn := fun _ => fun
  | [d1, d2, d3, d4, d5, d6] => { results := [.lit (.bool true)], args := [d1, d2, d3, d4, d5, d6] }
  | _ => none }
def spanHoldsRow : OpenClaim := { program := "ytahmajbgfjinbaadoor", sum := "4825673e4d5945d741f3f77b76bb77710b5c9c4f6e975bd087d418d2e322ec6d", func := "gantry/gantkeep1.SpanHolds", spec := "spanHolds", inPlace := ["math/bits.Sub64", "internal/bytealg.abigen_runtime_cmpstring"], named := ["math/bits.deBruijn64tab"], apart := false, laid := [("math/bits.deBruijn64tab", laid_math_bits_deBruijn64tab)] }
def SpanHoldsSaid : Prop := spanHoldsRow.holds Tryd.pinned (OpenSpec.ofChange spanHoldsSpec)

/-- ITS FALSE NEIGHBOUR: 'it returns false'. Refute it at one input. -/
def spanHoldsWrong : ChangeSpec := { name := "spanHolds", fn := fun _ => fun
  | [d1, d2, d3, d4, d5, d6] => { results := [.lit (.bool false)], args := [d1, d2, d3, d4, d5, d6] }
  | _ => none }
def SpanHoldsWrongFalsely : Prop := spanHoldsRow.holds Tryd.pinned (OpenSpec.ofChange spanHoldsWrong)

/-- 'gantkeep1.TurnBack': WHATEVER THE INPUT: true; the input reads as it did. -/
def turnBackSpec : ChangeSpec := { name := "turnBack", fn := fun _ => fun
  | [d1, d2, d3] => { results := [.lit (.bool true)], args := [d1, d2, d3] }
  | _ => none }
def turnBackRow : OpenClaim := { program := "ytahmajbgfjinbaadoor", sum := "4825673e4d5945d741f3f77b76bb77710b5c9c4f6e975bd087d418d2e322ec6d", func := "gantry/gantkeep1.TurnBack", spec := "turnBack", inPlace := ["math/bits.Sub64", "internal/bytealg.abigen_runtime_cmpstring", "internal/abi.NoEscape", "internal/bytealg.MakeNoZero"], named := ["math/bits.deBruijn64tab"], apart := false, laid := [("math/bits.deBruijn64tab", laid_math_bits_deBruijn64tab)] }
def TurnBackSaid : Prop := turnBackRow.holds Tryd.pinned (OpenSpec.ofChange turnBackSpec)

/-- ITS FALSE NEIGHBOUR: 'it returns false'. Refute it at one input. -/
def turnBackWrong : ChangeSpec := { name := "turnBack", fn := fun _ => fun
  | [d1, d2, d3] => { results := [.lit (.bool false)], args := [d1, d2, d3] }
  | _ => none }
def TurnBackWrongFalsely : Prop := turnBackRow.holds Tryd.pinned (OpenSpec.ofChange turnBackWrong)

/-- 'gantkeep1.BorderNext': WHATEVER THE INPUT: true; the input reads as it did. -/
def borderNextSpec : ChangeSpec := { name := "borderNext", fn := fun _ => fun
  | [d] => { results := [.lit (.bool true)], args := [d] }
  | _ => none }
def borderNextRow : OpenClaim := { program := "ytahmajbgfjinbaadoor", sum := "4825673e4d5945d741f3f77b76bb77710b5c9c4f6e975bd087d418d2e322ec6d", func := "gantry/gantkeep1.BorderNext", spec := "borderNext", inPlace := ["math/bits.Sub64", "internal/bytealg.abigen_runtime_cmpstring", "math.Float64bits"], named := ["math/bits.deBruijn64tab"], apart := false, laid := [("math/bits.deBruijn64tab", laid_math_bits_deBruijn64tab)] }
def BorderNextSaid : Prop := borderNextRow.holds Tryd.pinned (OpenSpec.ofChange borderNextSpec)

/-- ITS FALSE NEIGHBOUR: 'it returns false'. Refute it at one input. -/
def borderNextWrong : ChangeSpec := { name := "borderNext", fn := fun _ => fun
  | [d] => { results := [.lit (.bool false)], args := [d] }
  | _ => none }
def BorderNextWrongFalsely : Prop := borderNextRow.holds Tryd.pinned (OpenSpec.ofChange borderNextWrong)

/-- 'gantkeep1.BorderOut': WHATEVER THE INPUT: true; the input reads as it did. -/
def borderOutSpec : ChangeSpec := { name := "borderOut", fn := fun _ => fun
  | [d1, d2] => { results := [.lit (.bool true)], args := [d1, d2] }
  | _ => none }
def borderOutRow : OpenClaim := { program := "ytahmajbgfjinbaadoor", sum := "4825673e4d5945d741f3f77b76bb77710b5c9c4f6e975bd087d418d2e322ec6d", func := "gantry/gantkeep1.BorderOut", spec := "borderOut", inPlace := ["math/bits.Sub64", "internal/bytealg.abigen_runtime_cmpstring", "math.Float64bits"], named := ["math/bits.deBruijn64tab"], apart := false, laid := [("math/bits.deBruijn64tab", laid_math_bits_deBruijn64tab)] }
def BorderOutSaid : Prop := borderOutRow.holds Tryd.pinned (OpenSpec.ofChange borderOutSpec)

/-- ITS FALSE NEIGHBOUR: 'it returns false'. Refute it at one input. -/
def borderOutWrong : ChangeSpec := { name := "borderOut", fn := fun _ => fun
  | [d1, d2] => { results := [.lit (.bool false)], args := [d1, d2] }
  | _ => none }
def BorderOutWrongFalsely : Prop := borderOutRow.holds Tryd.pinned (OpenSpec.ofChange borderOutWrong)

/-- 'gantkeep1.PolyMoves': WHATEVER THE INPUT: true; the input reads as it did. -/
def polyMovesSpec : ChangeSpec := { name := "polyMoves", fn := fun _ => fun
  | [d1, d2, d3, d4, d5, d6] => { results := [.lit (.bool true)], args := [d1, d2, d3, d4, d5, d6] }
  | _ => none }
def polyMovesRow : OpenClaim := { program := "ytahmajbgfjinbaadoor", sum := "4825673e4d5945d741f3f77b76bb77710b5c9c4f6e975bd087d418d2e322ec6d", func := "gantry/gantkeep1.PolyMoves", spec := "polyMoves", inPlace := ["math/bits.Sub64", "internal/bytealg.abigen_runtime_cmpstring"], unfollowed := true, recurses := true, named := ["math/bits.deBruijn64tab"], apart := false, laid := [("math/bits.deBruijn64tab", laid_math_bits_deBruijn64tab)] }
def PolyMovesSaid : Prop := polyMovesRow.holds Tryd.pinned (OpenSpec.ofChange polyMovesSpec)

/-- ITS FALSE NEIGHBOUR: 'it returns false'. Refute it at one input. -/
def polyMovesWrong : ChangeSpec := { name := "polyMoves", fn := fun _ => fun
  | [d1, d2, d3, d4, d5, d6] => { results := [.lit (.bool false)], args := [d1, d2, d3, d4, d5, d6] }
  | _ => none }
def PolyMovesWrongFalsely : Prop := polyMovesRow.holds Tryd.pinned (OpenSpec.ofChange polyMovesWrong)

/-- 'gantkeep1.PolyEnds': WHATEVER THE INPUT: true; the input reads as it did. -/
def polyEndsSpec : ChangeSpec := { name := "polyEnds", fn := fun _ => fun
  | [d1, d2, d3, d4, d5] => { results := [.lit (.bool true)], args := [d1, d2, d3, d4, d5] }
  | _ => none }
def polyEndsRow : OpenClaim := { program := "ytahmajbgfjinbaadoor", sum := "4825673e4d5945d741f3f77b76bb77710b5c9c4f6e975bd087d418d2e322ec6d", func := "gantry/gantkeep1.PolyEnds", spec := "polyEnds", inPlace := ["math/bits.Sub64", "internal/bytealg.abigen_runtime_cmpstring"], unfollowed := true, recurses := true, named := ["math/bits.deBruijn64tab"], apart := false, laid := [("math/bits.deBruijn64tab", laid_math_bits_deBruijn64tab)] }
def PolyEndsSaid : Prop := polyEndsRow.holds Tryd.pinned (OpenSpec.ofChange polyEndsSpec)

/-- ITS FALSE NEIGHBOUR: 'it returns false'. Refute it at one input. -/
def polyEndsWrong : ChangeSpec := { name := "polyEnds", fn := fun _ => fun
  | [d1, d2, d3, d4, d5] => { results := [.lit (.bool false)], args := [d1, d2, d3, d4, d5] }
  | _ => none }
def PolyEndsWrongFalsely : Prop := polyEndsRow.holds Tryd.pinned (OpenSpec.ofChange polyEndsWrong)

/- THE SECOND FORM. 'bulk': how many values and letters a reading holds, each counted each time it is reached (what is shared counts as often as it is met; a slice's spare places count too). A statement '..UptoSaid' is the law's where the arguments, and the package variables that the reading takes, are together of bulk at most 1048576: NARROWER than '..Said'. Prove '..Said' where nothing that the law and all that it calls make is longer than what came in: it says more and counts as full. Else prove '..UptoSaid'. A law counts once. -/
mutual
def uptoBulk {H : Type} : DataW H → Nat
  | .lit (.string bytes) => bytes.length + 1
  | .lit _ => 1
  | .nil => 1
  | .ptr d => uptoBulk d + 1
  | .slice elems spare => uptoBulkAll elems + uptoBulkAll spare + 1
  | .agg parts => uptoBulkAll parts + 1
  | .iface _ d => uptoBulk d + 1
  | .map entries => uptoBulkEntries entries + 1
  | .held _ => 1
def uptoBulkAll {H : Type} : List (DataW H) → Nat
  | [] => 0
  | d :: r => uptoBulk d + uptoBulkAll r
def uptoBulkEntries {H : Type} : List (Lit × DataW H) → Nat
  | [] => 0
  | x :: r => uptoBulkEntry x + uptoBulkEntries r
def uptoBulkEntry {H : Type} : Lit × DataW H → Nat
  | (.string bytes, d) => bytes.length + uptoBulk d + 1
  | (_, d) => uptoBulk d + 1
 end
def uptoSmall : (H : Type) → List (DataW H) → Bool := fun _ ds => decide (uptoBulkAll ds ≤ 1048576)
def OpenSpec.upto (s : _root_.Go.ChangeSpec) : _root_.Go.OpenSpec := { _root_.Go.OpenSpec.ofChange s with cond := some uptoSmall }

/-- 'gantkeep1.VecLaws', WHERE WHAT IT READS IS OF BULK AT MOST 1048576: true; the input reads as it did. -/
def vecLawsUptoRow : OpenClaim := { program := "ytahmajbgfjinbaadoor", sum := "4825673e4d5945d741f3f77b76bb77710b5c9c4f6e975bd087d418d2e322ec6d", func := "gantry/gantkeep1.VecLaws", spec := "vecLaws", inPlace := ["math/bits.Sub64", "internal/bytealg.abigen_runtime_cmpstring"], named := ["math/bits.deBruijn64tab"], apart := false, laid := [("math/bits.deBruijn64tab", laid_math_bits_deBruijn64tab)], narrowed := true }
def VecLawsUptoSaid : Prop := vecLawsUptoRow.holds Tryd.pinned (OpenSpec.upto vecLawsSpec)

/-- 'gantkeep1.TurnGroup', WHERE WHAT IT READS IS OF BULK AT MOST 1048576: true; the input reads as it did. -/
def turnGroupUptoRow : OpenClaim := { program := "ytahmajbgfjinbaadoor", sum := "4825673e4d5945d741f3f77b76bb77710b5c9c4f6e975bd087d418d2e322ec6d", func := "gantry/gantkeep1.TurnGroup", spec := "turnGroup", inPlace := ["math/bits.Sub64", "internal/bytealg.abigen_runtime_cmpstring"], named := ["math/bits.deBruijn64tab"], apart := false, laid := [("math/bits.deBruijn64tab", laid_math_bits_deBruijn64tab)], narrowed := true }
def TurnGroupUptoSaid : Prop := turnGroupUptoRow.holds Tryd.pinned (OpenSpec.upto turnGroupSpec)

/-- 'gantkeep1.SpanMeets', WHERE WHAT IT READS IS OF BULK AT MOST 1048576: true; the input reads as it did. -/
def spanMeetsUptoRow : OpenClaim := { program := "ytahmajbgfjinbaadoor", sum := "4825673e4d5945d741f3f77b76bb77710b5c9c4f6e975bd087d418d2e322ec6d", func := "gantry/gantkeep1.SpanMeets", spec := "spanMeets", inPlace := ["math/bits.Sub64", "internal/bytealg.abigen_runtime_cmpstring"], named := ["math/bits.deBruijn64tab"], apart := false, laid := [("math/bits.deBruijn64tab", laid_math_bits_deBruijn64tab)], narrowed := true }
def SpanMeetsUptoSaid : Prop := spanMeetsUptoRow.holds Tryd.pinned (OpenSpec.upto spanMeetsSpec)

/-- 'gantkeep1.SpanSharp', WHERE WHAT IT READS IS OF BULK AT MOST 1048576: true; the input reads as it did. -/
def spanSharpUptoRow : OpenClaim := { program := "ytahmajbgfjinbaadoor", sum := "4825673e4d5945d741f3f77b76bb77710b5c9c4f6e975bd087d418d2e322ec6d", func := "gantry/gantkeep1.SpanSharp", spec := "spanSharp", inPlace := ["math/bits.Sub64", "internal/bytealg.abigen_runtime_cmpstring"], named := ["math/bits.deBruijn64tab"], apart := false, laid := [("math/bits.deBruijn64tab", laid_math_bits_deBruijn64tab)], narrowed := true }
def SpanSharpUptoSaid : Prop := spanSharpUptoRow.holds Tryd.pinned (OpenSpec.upto spanSharpSpec)

/-- 'gantkeep1.FrameGroup', WHERE WHAT IT READS IS OF BULK AT MOST 1048576: true; the input reads as it did. -/
def frameGroupUptoRow : OpenClaim := { program := "ytahmajbgfjinbaadoor", sum := "4825673e4d5945d741f3f77b76bb77710b5c9c4f6e975bd087d418d2e322ec6d", func := "gantry/gantkeep1.FrameGroup", spec := "frameGroup", inPlace := ["math/bits.Sub64", "internal/bytealg.abigen_runtime_cmpstring"], named := ["math/bits.deBruijn64tab"], apart := false, laid := [("math/bits.deBruijn64tab", laid_math_bits_deBruijn64tab)], narrowed := true }
def FrameGroupUptoSaid : Prop := frameGroupUptoRow.holds Tryd.pinned (OpenSpec.upto frameGroupSpec)

/-- 'gantkeep1.TurnHolds', WHERE WHAT IT READS IS OF BULK AT MOST 1048576: true; the input reads as it did. -/
def turnHoldsUptoRow : OpenClaim := { program := "ytahmajbgfjinbaadoor", sum := "4825673e4d5945d741f3f77b76bb77710b5c9c4f6e975bd087d418d2e322ec6d", func := "gantry/gantkeep1.TurnHolds", spec := "turnHolds", inPlace := ["math/bits.Sub64", "internal/bytealg.abigen_runtime_cmpstring"], unfollowed := true, recurses := true, named := ["math/bits.deBruijn64tab"], apart := false, laid := [("math/bits.deBruijn64tab", laid_math_bits_deBruijn64tab)], narrowed := true }
def TurnHoldsUptoSaid : Prop := turnHoldsUptoRow.holds Tryd.pinned (OpenSpec.upto turnHoldsSpec)

/-- 'gantkeep1.SpanHolds', WHERE WHAT IT READS IS OF BULK AT MOST 1048576: true; the input reads as it did. -/
def spanHoldsUptoRow : OpenClaim := { program := "ytahmajbgfjinbaadoor", sum := "4825673e4d5945d741f3f77b76bb77710b5c9c4f6e975bd087d418d2e322ec6d", func := "gantry/gantkeep1.SpanHolds", spec := "spanHolds", inPlace := ["math/bits.Sub64", "internal/bytealg.abigen_runtime_cmpstring"], named := ["math/bits.deBruijn64tab"], apart := false, laid := [("math/bits.deBruijn64tab", laid_math_bits_deBruijn64tab)], narrowed := true }
def SpanHoldsUptoSaid : Prop := spanHoldsUptoRow.holds Tryd.pinned (OpenSpec.upto spanHoldsSpec)

/-- 'gantkeep1.TurnBack', WHERE WHAT IT READS IS OF BULK AT MOST 1048576: true; the input reads as it did. -/
def turnBackUptoRow : OpenClaim := { program := "ytahmajbgfjinbaadoor", sum := "4825673e4d5945d741f3f77b76bb77710b5c9c4f6e975bd087d418d2e322ec6d", func := "gantry/gantkeep1.TurnBack", spec := "turnBack", inPlace := ["math/bits.Sub64", "internal/bytealg.abigen_runtime_cmpstring", "internal/abi.NoEscape", "internal/bytealg.MakeNoZero"], named := ["math/bits.deBruijn64tab"], apart := false, laid := [("math/bits.deBruijn64tab", laid_math_bits_deBruijn64tab)], narrowed := true }
def TurnBackUptoSaid : Prop := turnBackUptoRow.holds Tryd.pinned (OpenSpec.upto turnBackSpec)

/-- 'gantkeep1.BorderNext', WHERE WHAT IT READS IS OF BULK AT MOST 1048576: true; the input reads as it did. -/
def borderNextUptoRow : OpenClaim := { program := "ytahmajbgfjinbaadoor", sum := "4825673e4d5945d741f3f77b76bb77710b5c9c4f6e975bd087d418d2e322ec6d", func := "gantry/gantkeep1.BorderNext", spec := "borderNext", inPlace := ["math/bits.Sub64", "internal/bytealg.abigen_runtime_cmpstring", "math.Float64bits"], named := ["math/bits.deBruijn64tab"], apart := false, laid := [("math/bits.deBruijn64tab", laid_math_bits_deBruijn64tab)], narrowed := true }
def BorderNextUptoSaid : Prop := borderNextUptoRow.holds Tryd.pinned (OpenSpec.upto borderNextSpec)

/-- 'gantkeep1.BorderOut', WHERE WHAT IT READS IS OF BULK AT MOST 1048576: true; the input reads as it did. -/
def borderOutUptoRow : OpenClaim := { program := "ytahmajbgfjinbaadoor", sum := "4825673e4d5945d741f3f77b76bb77710b5c9c4f6e975bd087d418d2e322ec6d", func := "gantry/gantkeep1.BorderOut", spec := "borderOut", inPlace := ["math/bits.Sub64", "internal/bytealg.abigen_runtime_cmpstring", "math.Float64bits"], named := ["math/bits.deBruijn64tab"], apart := false, laid := [("math/bits.deBruijn64tab", laid_math_bits_deBruijn64tab)], narrowed := true }
def BorderOutUptoSaid : Prop := borderOutUptoRow.holds Tryd.pinned (OpenSpec.upto borderOutSpec)

/-- 'gantkeep1.PolyMoves', WHERE WHAT IT READS IS OF BULK AT MOST 1048576: true; the input reads as it did. -/
def polyMovesUptoRow : OpenClaim := { program := "ytahmajbgfjinbaadoor", sum := "4825673e4d5945d741f3f77b76bb77710b5c9c4f6e975bd087d418d2e322ec6d", func := "gantry/gantkeep1.PolyMoves", spec := "polyMoves", inPlace := ["math/bits.Sub64", "internal/bytealg.abigen_runtime_cmpstring"], unfollowed := true, recurses := true, named := ["math/bits.deBruijn64tab"], apart := false, laid := [("math/bits.deBruijn64tab", laid_math_bits_deBruijn64tab)], narrowed := true }
def PolyMovesUptoSaid : Prop := polyMovesUptoRow.holds Tryd.pinned (OpenSpec.upto polyMovesSpec)

/-- 'gantkeep1.PolyEnds', WHERE WHAT IT READS IS OF BULK AT MOST 1048576: true; the input reads as it did. -/
def polyEndsUptoRow : OpenClaim := { program := "ytahmajbgfjinbaadoor", sum := "4825673e4d5945d741f3f77b76bb77710b5c9c4f6e975bd087d418d2e322ec6d", func := "gantry/gantkeep1.PolyEnds", spec := "polyEnds", inPlace := ["math/bits.Sub64", "internal/bytealg.abigen_runtime_cmpstring"], unfollowed := true, recurses := true, named := ["math/bits.deBruijn64tab"], apart := false, laid := [("math/bits.deBruijn64tab", laid_math_bits_deBruijn64tab)], narrowed := true }
def PolyEndsUptoSaid : Prop := polyEndsUptoRow.holds Tryd.pinned (OpenSpec.upto polyEndsSpec)

end Rows
end Go.Proofs.YtahmajbgfjinbaaDoor
