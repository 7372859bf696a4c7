/-
  DERIVED. GIVEN WITH THE SEED: THE CARDS: each row of YtoejojfjiikogaaGreatDoorRows.lean that lists a variable, with what it lists TIED to the program's text (the seventh form; the later family's looks); each row that meets fmt, with fmt's text TOLD by the authors' own Lean function (tested against real Go, not proved from fmt's source: count such statements apart). THE CARD IS WHAT COUNTS. Prove the row's statement (the work); the ties are given (YtoejojfjiikogaaGreatDoorTie.lean); close each card by the builder's one call (the guide's Derived/Test/ToyasCard.lean, 'card_holds'). Laid BY PROGRAM, IN A SANDBOX (cutbox-door.mjs). By AI agents, Wed Nov 11 2026. No macro, syntax, notation, axiom, sorry.
-/
import Derived.Test.YtoejojfjiikogaaGreatDoorRows
import GoSem.ClaimSeven
namespace Go.Proofs.YtoejojfjiikogaaGreatDoor
namespace Rows

/-- THE TIED CARD OF 'gantkeep1.GridCovers'. -/
def gridCoversCard : Claim7 := { stood := { row := gridCoversRow, standIns := [], harness := (true, "d253074cd2f5a56c1ccfa6ba4dfc0b63f5174d632ca01b55dc1d56c942ad2cc3"), looks := false }, kinds := [], alts := [], laidByText := true, laidKinds := [.data], laidTests := true, laidLooks := .later }
def GridCoversCardSaid : Prop := Claim7.holds Tryz.pinned (.plain (OpenSpec.ofChange gridCoversSpec)) gridCoversCard

/-- THE TIED CARD OF 'gantkeep1.PolyHull'. -/
def polyHullCard : Claim7 := { stood := { row := polyHullRow, standIns := [], harness := (true, "d253074cd2f5a56c1ccfa6ba4dfc0b63f5174d632ca01b55dc1d56c942ad2cc3"), looks := false }, kinds := [], alts := [], laidByText := true, laidKinds := [.data], laidTests := true, laidLooks := .later }
def PolyHullCardSaid : Prop := Claim7.holds Tryz.pinned (.plain (OpenSpec.ofChange polyHullSpec)) polyHullCard

/-- THE TIED CARD OF 'gantkeep1.GridGrows'. -/
def gridGrowsCard : Claim7 := { stood := { row := gridGrowsRow, standIns := [], harness := (true, "d253074cd2f5a56c1ccfa6ba4dfc0b63f5174d632ca01b55dc1d56c942ad2cc3"), looks := false }, kinds := [], alts := [], laidByText := true, laidKinds := [.data], laidTests := true, laidLooks := .later }
def GridGrowsCardSaid : Prop := Claim7.holds Tryz.pinned (.plain (OpenSpec.ofChange gridGrowsSpec)) gridGrowsCard

/-- THE SECOND FORM's CARD OF 'gantkeep1.GridCovers'. -/
def gridCoversUptoCard : Claim7 := { stood := { row := gridCoversUptoRow, standIns := [], harness := (true, "d253074cd2f5a56c1ccfa6ba4dfc0b63f5174d632ca01b55dc1d56c942ad2cc3"), looks := false }, kinds := [], alts := [], laidByText := true, laidKinds := [.data], laidTests := true, laidLooks := .later }
def GridCoversUptoCardSaid : Prop := Claim7.holds Tryz.pinned (.plain (OpenSpec.upto gridCoversSpec)) gridCoversUptoCard

/-- THE SECOND FORM's CARD OF 'gantkeep1.PolyHull'. -/
def polyHullUptoCard : Claim7 := { stood := { row := polyHullUptoRow, standIns := [], harness := (true, "d253074cd2f5a56c1ccfa6ba4dfc0b63f5174d632ca01b55dc1d56c942ad2cc3"), looks := false }, kinds := [], alts := [], laidByText := true, laidKinds := [.data], laidTests := true, laidLooks := .later }
def PolyHullUptoCardSaid : Prop := Claim7.holds Tryz.pinned (.plain (OpenSpec.upto polyHullSpec)) polyHullUptoCard

/-- THE SECOND FORM's CARD OF 'gantkeep1.GridGrows'. -/
def gridGrowsUptoCard : Claim7 := { stood := { row := gridGrowsUptoRow, standIns := [], harness := (true, "d253074cd2f5a56c1ccfa6ba4dfc0b63f5174d632ca01b55dc1d56c942ad2cc3"), looks := false }, kinds := [], alts := [], laidByText := true, laidKinds := [.data], laidTests := true, laidLooks := .later }
def GridGrowsUptoCardSaid : Prop := Claim7.holds Tryz.pinned (.plain (OpenSpec.upto gridGrowsSpec)) gridGrowsUptoCard
end Rows
end Go.Proofs.YtoejojfjiikogaaGreatDoor
