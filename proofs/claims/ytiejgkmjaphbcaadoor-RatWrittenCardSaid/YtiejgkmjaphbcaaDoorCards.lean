/-
  DERIVED. GIVEN WITH THE SEED: THE CARDS: each row of YtiejgkmjaphbcaaDoorRows.lean that lists a variable, with what it lists TIED to the program's text (the seventh form; the later family's looks); each row that meets fmt, with fmt's text TOLD by the authors' own Lean function (tested against real Go, not proved from fmt's source: count such statements apart). THE CARD IS WHAT COUNTS. Prove the row's statement (the work); the ties are given (YtiejgkmjaphbcaaDoorTie.lean); close each card by the builder's one call (the guide's Derived/Test/ToyasCard.lean, 'card_holds'). Laid BY PROGRAM, IN A SANDBOX (cutbox-door.mjs). By AI agents, Wed Nov 11 2026. No macro, syntax, notation, axiom, sorry.
-/
import Derived.Test.YtiejgkmjaphbcaaDoorRows
import GoSem.ClaimSeven
namespace Go.Proofs.YtiejgkmjaphbcaaDoor
namespace Rows

/-- THE TIED CARD OF 'gantkeep1.RatWritten'. -/
def ratWrittenCard : Claim7 := { stood := { row := ratWrittenRow, standIns := [], harness := (true, "f7d4512f90cf62aba0db7aa5495787ab2a87ab88bd1832b2e2199e240aad7667"), looks := false }, kinds := [], alts := [], laidByText := true, laidKinds := [.data], laidTests := true, laidLooks := .later }
def RatWrittenCardSaid : Prop := Claim7.holds Tryd.pinned (.plain (OpenSpec.ofChange ratWrittenSpec)) ratWrittenCard

/-- THE TIED CARD OF 'gantkeep1.GridBoole'. -/
def gridBooleCard : Claim7 := { stood := { row := gridBooleRow, standIns := [], harness := (true, "f7d4512f90cf62aba0db7aa5495787ab2a87ab88bd1832b2e2199e240aad7667"), looks := false }, kinds := [], alts := [], laidByText := true, laidKinds := [.data], laidTests := true, laidLooks := .later }
def GridBooleCardSaid : Prop := Claim7.holds Tryd.pinned (.plain (OpenSpec.ofChange gridBooleSpec)) gridBooleCard

/-- THE SECOND FORM's CARD OF 'gantkeep1.RatWritten'. -/
def ratWrittenUptoCard : Claim7 := { stood := { row := ratWrittenUptoRow, standIns := [], harness := (true, "f7d4512f90cf62aba0db7aa5495787ab2a87ab88bd1832b2e2199e240aad7667"), looks := false }, kinds := [], alts := [], laidByText := true, laidKinds := [.data], laidTests := true, laidLooks := .later }
def RatWrittenUptoCardSaid : Prop := Claim7.holds Tryd.pinned (.plain (OpenSpec.upto ratWrittenSpec)) ratWrittenUptoCard

/-- THE SECOND FORM's CARD OF 'gantkeep1.GridBoole'. -/
def gridBooleUptoCard : Claim7 := { stood := { row := gridBooleUptoRow, standIns := [], harness := (true, "f7d4512f90cf62aba0db7aa5495787ab2a87ab88bd1832b2e2199e240aad7667"), looks := false }, kinds := [], alts := [], laidByText := true, laidKinds := [.data], laidTests := true, laidLooks := .later }
def GridBooleUptoCardSaid : Prop := Claim7.holds Tryd.pinned (.plain (OpenSpec.upto gridBooleSpec)) gridBooleUptoCard
end Rows
end Go.Proofs.YtiejgkmjaphbcaaDoor
