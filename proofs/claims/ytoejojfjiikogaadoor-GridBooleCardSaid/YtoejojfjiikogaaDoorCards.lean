/-
  DERIVED. GIVEN WITH THE SEED: THE CARDS: each row of YtoejojfjiikogaaDoorRows.lean that lists a variable, with what it lists TIED to the program's text (the seventh form; the later family's looks); each row that meets fmt, with fmt's text TOLD by the authors' own Lean function (tested against real Go, not proved from fmt's source: count such statements apart). THE CARD IS WHAT COUNTS. Prove the row's statement (the work); the ties are given (YtoejojfjiikogaaDoorTie.lean); close each card by the builder's one call (the guide's Derived/Test/ToyasCard.lean, 'card_holds'). Laid BY PROGRAM, IN A SANDBOX (cutbox-door.mjs). By AI agents, Wed Nov 11 2026. No macro, syntax, notation, axiom, sorry.
-/
import Derived.Test.YtoejojfjiikogaaDoorRows
import GoSem.ClaimSeven
namespace Go.Proofs.YtoejojfjiikogaaDoor
namespace Rows

/-- THE TIED CARD OF 'gantlaw4.CarryNeeds'. -/
def carryNeedsCard : Claim7 := { stood := { row := carryNeedsRow, standIns := [], harness := (true, "92deb13f43b7bdfa466ea39baac30961fa95420eeec0ff470e9ba65e5c01b44d"), looks := false }, kinds := [], alts := [], laidByText := true, laidKinds := [.data], laidTests := true, laidLooks := .later }
def CarryNeedsCardSaid : Prop := Claim7.holds Tryd.pinned (.plain (OpenSpec.ofChange carryNeedsSpec)) carryNeedsCard

/-- THE TIED CARD OF 'gantkeep1.GridBoole'. -/
def gridBooleCard : Claim7 := { stood := { row := gridBooleRow, standIns := [], harness := (true, "92deb13f43b7bdfa466ea39baac30961fa95420eeec0ff470e9ba65e5c01b44d"), looks := false }, kinds := [], alts := [], laidByText := true, laidKinds := [.data], laidTests := true, laidLooks := .later }
def GridBooleCardSaid : Prop := Claim7.holds Tryd.pinned (.plain (OpenSpec.ofChange gridBooleSpec)) gridBooleCard

/-- THE SECOND FORM's CARD OF 'gantlaw4.CarryNeeds'. -/
def carryNeedsUptoCard : Claim7 := { stood := { row := carryNeedsUptoRow, standIns := [], harness := (true, "92deb13f43b7bdfa466ea39baac30961fa95420eeec0ff470e9ba65e5c01b44d"), looks := false }, kinds := [], alts := [], laidByText := true, laidKinds := [.data], laidTests := true, laidLooks := .later }
def CarryNeedsUptoCardSaid : Prop := Claim7.holds Tryd.pinned (.plain (OpenSpec.upto carryNeedsSpec)) carryNeedsUptoCard

/-- THE SECOND FORM's CARD OF 'gantkeep1.GridBoole'. -/
def gridBooleUptoCard : Claim7 := { stood := { row := gridBooleUptoRow, standIns := [], harness := (true, "92deb13f43b7bdfa466ea39baac30961fa95420eeec0ff470e9ba65e5c01b44d"), looks := false }, kinds := [], alts := [], laidByText := true, laidKinds := [.data], laidTests := true, laidLooks := .later }
def GridBooleUptoCardSaid : Prop := Claim7.holds Tryd.pinned (.plain (OpenSpec.upto gridBooleSpec)) gridBooleUptoCard
end Rows
end Go.Proofs.YtoejojfjiikogaaDoor
