/-
  DERIVED. GIVEN WITH THE SEED: THE CARDS: each row of YtekbpiooecdopaaDoorRows.lean that lists a variable, with what it lists TIED to the program's text (the seventh form; the later family's looks); each row that meets fmt, with fmt's text TOLD by the authors' own Lean function (tested against real Go, not proved from fmt's source: count such statements apart). THE CARD IS WHAT COUNTS. Prove the row's statement (the work); the ties are given (YtekbpiooecdopaaDoorTie.lean); close each card by the builder's one call (the guide's Derived/Test/ToyasCard.lean, 'card_holds'). Laid BY PROGRAM, IN A SANDBOX (cutbox-door.mjs). By AI agents, Wed Nov 11 2026. No macro, syntax, notation, axiom, sorry.
-/
import Derived.Test.YtekbpiooecdopaaDoorRows
import GoSem.ClaimSeven
namespace Go.Proofs.YtekbpiooecdopaaDoor
namespace Rows

/-- THE TIED CARD OF 'gantlaw4.TypesBinds'. -/
def typesBindsCard : Claim7 := { stood := { row := typesBindsRow, standIns := [], harness := (true, "431113aac43fc9e509fa44f0513af8b38db73e8e929efee9870f103b88911cdc"), looks := false }, kinds := [], alts := [], laidByText := true, laidKinds := [.data, .data, .pinned], laidTests := true, laidLooks := .later }
def TypesBindsCardSaid : Prop := Claim7.holds Tryd.pinned (.plain (OpenSpec.ofChange typesBindsSpec)) typesBindsCard

/-- THE SECOND FORM's CARD OF 'gantlaw4.TypesBinds'. -/
def typesBindsUptoCard : Claim7 := { stood := { row := typesBindsUptoRow, standIns := [], harness := (true, "431113aac43fc9e509fa44f0513af8b38db73e8e929efee9870f103b88911cdc"), looks := false }, kinds := [], alts := [], laidByText := true, laidKinds := [.data, .data, .pinned], laidTests := true, laidLooks := .later }
def TypesBindsUptoCardSaid : Prop := Claim7.holds Tryd.pinned (.plain (OpenSpec.upto typesBindsSpec)) typesBindsUptoCard
end Rows
end Go.Proofs.YtekbpiooecdopaaDoor
