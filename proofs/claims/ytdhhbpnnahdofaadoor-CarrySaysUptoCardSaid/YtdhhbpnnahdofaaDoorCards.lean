/-
  DERIVED. GIVEN WITH THE SEED: THE CARDS: each row of YtdhhbpnnahdofaaDoorRows.lean that lists a variable, with what it lists TIED to the program's text (the seventh form; the later family's looks); each row that meets fmt, with fmt's text TOLD by the authors' own Lean function (tested against real Go, not proved from fmt's source: count such statements apart). THE CARD IS WHAT COUNTS. Prove the row's statement (the work); the ties are given (YtdhhbpnnahdofaaDoorTie.lean); close each card by the builder's one call (the guide's Derived/Test/ToyasCard.lean, 'card_holds'). Laid BY PROGRAM, IN A SANDBOX (cutbox-door.mjs). By AI agents, Wed Nov 11 2026. No macro, syntax, notation, axiom, sorry.
-/
import Derived.Test.YtdhhbpnnahdofaaDoorRows
import GoSem.ClaimSeven
namespace Go.Proofs.YtdhhbpnnahdofaaDoor
namespace Rows

/-- THE TIED CARD OF 'gantlaw4.WordTexts'. -/
def wordTextsCard : Claim7 := { stood := { row := wordTextsRow, standIns := [], harness := (true, "396af8018e0f675e2822fbb551f9b2a0409572ba20b3139337372f5cfa462409"), looks := false }, kinds := [], alts := [], laidByText := true, laidKinds := [.data, .pinned], laidTests := true, laidLooks := .later }
def WordTextsCardSaid : Prop := Claim7.holds Tryd.pinned (.plain (OpenSpec.ofChange wordTextsSpec)) wordTextsCard

/-- THE TIED CARD OF 'gantlaw4.SeeSays'. -/
def seeSaysCard : Claim7 := { stood := { row := seeSaysRow, standIns := [], harness := (true, "396af8018e0f675e2822fbb551f9b2a0409572ba20b3139337372f5cfa462409"), looks := false }, kinds := [], alts := [], laidByText := true, laidKinds := [.data], laidTests := true, laidLooks := .later }
def SeeSaysCardSaid : Prop := Claim7.holds Tryd.pinned (.plain (OpenSpec.ofChange seeSaysSpec)) seeSaysCard

/-- THE TIED CARD OF 'gantlaw4.SeePoints'. -/
def seePointsCard : Claim7 := { stood := { row := seePointsRow, standIns := [], harness := (true, "396af8018e0f675e2822fbb551f9b2a0409572ba20b3139337372f5cfa462409"), looks := false }, kinds := [], alts := [], laidByText := true, laidKinds := [.data], laidTests := true, laidLooks := .later }
def SeePointsCardSaid : Prop := Claim7.holds Tryd.pinned (.plain (OpenSpec.ofChange seePointsSpec)) seePointsCard

/-- THE TIED CARD OF 'gantlaw4.CarrySays'. -/
def carrySaysCard : Claim7 := { stood := { row := carrySaysRow, standIns := [], harness := (true, "396af8018e0f675e2822fbb551f9b2a0409572ba20b3139337372f5cfa462409"), looks := false }, kinds := [], alts := [], laidByText := true, laidKinds := [.data], laidTests := true, laidLooks := .later }
def CarrySaysCardSaid : Prop := Claim7.holds Tryd.pinned (.plain (OpenSpec.ofChange carrySaysSpec)) carrySaysCard

/-- THE TIED CARD OF 'gantlaw4.CarryNeeds'. -/
def carryNeedsCard : Claim7 := { stood := { row := carryNeedsRow, standIns := [], harness := (true, "396af8018e0f675e2822fbb551f9b2a0409572ba20b3139337372f5cfa462409"), looks := false }, kinds := [], alts := [], laidByText := true, laidKinds := [.data], laidTests := true, laidLooks := .later }
def CarryNeedsCardSaid : Prop := Claim7.holds Tryd.pinned (.plain (OpenSpec.ofChange carryNeedsSpec)) carryNeedsCard

/-- THE TIED CARD OF 'gantkeep1.GridBoole'. -/
def gridBooleCard : Claim7 := { stood := { row := gridBooleRow, standIns := [], harness := (true, "396af8018e0f675e2822fbb551f9b2a0409572ba20b3139337372f5cfa462409"), looks := false }, kinds := [], alts := [], laidByText := true, laidKinds := [.data], laidTests := true, laidLooks := .later }
def GridBooleCardSaid : Prop := Claim7.holds Tryd.pinned (.plain (OpenSpec.ofChange gridBooleSpec)) gridBooleCard

/-- THE SECOND FORM's CARD OF 'gantlaw4.WordTexts'. -/
def wordTextsUptoCard : Claim7 := { stood := { row := wordTextsUptoRow, standIns := [], harness := (true, "396af8018e0f675e2822fbb551f9b2a0409572ba20b3139337372f5cfa462409"), looks := false }, kinds := [], alts := [], laidByText := true, laidKinds := [.data, .pinned], laidTests := true, laidLooks := .later }
def WordTextsUptoCardSaid : Prop := Claim7.holds Tryd.pinned (.plain (OpenSpec.upto wordTextsSpec)) wordTextsUptoCard

/-- THE SECOND FORM's CARD OF 'gantlaw4.SeeSays'. -/
def seeSaysUptoCard : Claim7 := { stood := { row := seeSaysUptoRow, standIns := [], harness := (true, "396af8018e0f675e2822fbb551f9b2a0409572ba20b3139337372f5cfa462409"), looks := false }, kinds := [], alts := [], laidByText := true, laidKinds := [.data], laidTests := true, laidLooks := .later }
def SeeSaysUptoCardSaid : Prop := Claim7.holds Tryd.pinned (.plain (OpenSpec.upto seeSaysSpec)) seeSaysUptoCard

/-- THE SECOND FORM's CARD OF 'gantlaw4.SeePoints'. -/
def seePointsUptoCard : Claim7 := { stood := { row := seePointsUptoRow, standIns := [], harness := (true, "396af8018e0f675e2822fbb551f9b2a0409572ba20b3139337372f5cfa462409"), looks := false }, kinds := [], alts := [], laidByText := true, laidKinds := [.data], laidTests := true, laidLooks := .later }
def SeePointsUptoCardSaid : Prop := Claim7.holds Tryd.pinned (.plain (OpenSpec.upto seePointsSpec)) seePointsUptoCard

/-- THE SECOND FORM's CARD OF 'gantlaw4.CarrySays'. -/
def carrySaysUptoCard : Claim7 := { stood := { row := carrySaysUptoRow, standIns := [], harness := (true, "396af8018e0f675e2822fbb551f9b2a0409572ba20b3139337372f5cfa462409"), looks := false }, kinds := [], alts := [], laidByText := true, laidKinds := [.data], laidTests := true, laidLooks := .later }
def CarrySaysUptoCardSaid : Prop := Claim7.holds Tryd.pinned (.plain (OpenSpec.upto carrySaysSpec)) carrySaysUptoCard

/-- THE SECOND FORM's CARD OF 'gantlaw4.CarryNeeds'. -/
def carryNeedsUptoCard : Claim7 := { stood := { row := carryNeedsUptoRow, standIns := [], harness := (true, "396af8018e0f675e2822fbb551f9b2a0409572ba20b3139337372f5cfa462409"), looks := false }, kinds := [], alts := [], laidByText := true, laidKinds := [.data], laidTests := true, laidLooks := .later }
def CarryNeedsUptoCardSaid : Prop := Claim7.holds Tryd.pinned (.plain (OpenSpec.upto carryNeedsSpec)) carryNeedsUptoCard

/-- THE SECOND FORM's CARD OF 'gantkeep1.GridBoole'. -/
def gridBooleUptoCard : Claim7 := { stood := { row := gridBooleUptoRow, standIns := [], harness := (true, "396af8018e0f675e2822fbb551f9b2a0409572ba20b3139337372f5cfa462409"), looks := false }, kinds := [], alts := [], laidByText := true, laidKinds := [.data], laidTests := true, laidLooks := .later }
def GridBooleUptoCardSaid : Prop := Claim7.holds Tryd.pinned (.plain (OpenSpec.upto gridBooleSpec)) gridBooleUptoCard
end Rows
end Go.Proofs.YtdhhbpnnahdofaaDoor
