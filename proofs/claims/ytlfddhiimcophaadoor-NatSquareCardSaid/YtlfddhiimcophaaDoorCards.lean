/-
  DERIVED. GIVEN WITH THE SEED: THE CARDS: each row of YtlfddhiimcophaaDoorRows.lean that lists a variable, with what it lists TIED to the program's text (the seventh form; the later family's looks); each row that meets fmt, with fmt's text TOLD by the authors' own Lean function (tested against real Go, not proved from fmt's source: count such statements apart). THE CARD IS WHAT COUNTS. Prove the row's statement (the work); the ties are given (YtlfddhiimcophaaDoorTie.lean); close each card by the builder's one call (the guide's Derived/Test/ToyasCard.lean, 'card_holds'). Laid BY PROGRAM, IN A SANDBOX (cutbox-door.mjs). By AI agents, Wed Nov 11 2026. No macro, syntax, notation, axiom, sorry.
-/
import Derived.Test.YtlfddhiimcophaaDoorRows
import GoSem.ClaimSeven
namespace Go.Proofs.YtlfddhiimcophaaDoor
namespace Rows

/-- THE TIED CARD OF 'gantkeep1.NatWritten'. -/
def natWrittenCard : Claim7 := { stood := { row := natWrittenRow, standIns := [], harness := (true, "8b4dfa716af804579acb2469c66ac244f4afc8f290c359b669ecc8cb8e54c6ec"), looks := false }, kinds := [], alts := [], laidByText := true, laidKinds := [.data, .pinned], laidTests := true, laidLooks := .later }
def NatWrittenCardSaid : Prop := Claim7.holds Tryd.pinned (.plain (OpenSpec.ofChange natWrittenSpec)) natWrittenCard

/-- THE TIED CARD OF 'gantkeep1.NatLaws'. -/
def natLawsCard : Claim7 := { stood := { row := natLawsRow, standIns := [], harness := (true, "8b4dfa716af804579acb2469c66ac244f4afc8f290c359b669ecc8cb8e54c6ec"), looks := false }, kinds := [], alts := [], laidByText := true, laidKinds := [.data, .pinned], laidTests := true, laidLooks := .later }
def NatLawsCardSaid : Prop := Claim7.holds Tryd.pinned (.plain (OpenSpec.ofChange natLawsSpec)) natLawsCard

/-- THE TIED CARD OF 'gantkeep1.NatDivides'. -/
def natDividesCard : Claim7 := { stood := { row := natDividesRow, standIns := [], harness := (true, "8b4dfa716af804579acb2469c66ac244f4afc8f290c359b669ecc8cb8e54c6ec"), looks := false }, kinds := [], alts := [], laidByText := true, laidKinds := [.data, .pinned], laidTests := true, laidLooks := .later }
def NatDividesCardSaid : Prop := Claim7.holds Tryd.pinned (.plain (OpenSpec.ofChange natDividesSpec)) natDividesCard

/-- THE TIED CARD OF 'gantkeep1.RatField'. -/
def ratFieldCard : Claim7 := { stood := { row := ratFieldRow, standIns := [], harness := (true, "8b4dfa716af804579acb2469c66ac244f4afc8f290c359b669ecc8cb8e54c6ec"), looks := false }, kinds := [], alts := [], laidByText := true, laidKinds := [.data], laidTests := true, laidLooks := .later }
def RatFieldCardSaid : Prop := Claim7.holds Tryd.pinned (.plain (OpenSpec.ofChange ratFieldSpec)) ratFieldCard

/-- THE TIED CARD OF 'gantkeep1.RatOrder'. -/
def ratOrderCard : Claim7 := { stood := { row := ratOrderRow, standIns := [], harness := (true, "8b4dfa716af804579acb2469c66ac244f4afc8f290c359b669ecc8cb8e54c6ec"), looks := false }, kinds := [], alts := [], laidByText := true, laidKinds := [.data], laidTests := true, laidLooks := .later }
def RatOrderCardSaid : Prop := Claim7.holds Tryd.pinned (.plain (OpenSpec.ofChange ratOrderSpec)) ratOrderCard

/-- THE TIED CARD OF 'gantkeep1.RatRounds'. -/
def ratRoundsCard : Claim7 := { stood := { row := ratRoundsRow, standIns := [], harness := (true, "8b4dfa716af804579acb2469c66ac244f4afc8f290c359b669ecc8cb8e54c6ec"), looks := false }, kinds := [], alts := [], laidByText := true, laidKinds := [.data], laidTests := true, laidLooks := .later }
def RatRoundsCardSaid : Prop := Claim7.holds Tryd.pinned (.plain (OpenSpec.ofChange ratRoundsSpec)) ratRoundsCard

/-- THE TIED CARD OF 'gantkeep1.NatDivisors'. -/
def natDivisorsCard : Claim7 := { stood := { row := natDivisorsRow, standIns := [], harness := (true, "8b4dfa716af804579acb2469c66ac244f4afc8f290c359b669ecc8cb8e54c6ec"), looks := false }, kinds := [], alts := [], laidByText := true, laidKinds := [.data, .data, .pinned], laidTests := true, laidLooks := .later }
def NatDivisorsCardSaid : Prop := Claim7.holds Tryd.pinned (.plain (OpenSpec.ofChange natDivisorsSpec)) natDivisorsCard

/-- THE TIED CARD OF 'gantkeep1.NatSquare'. -/
def natSquareCard : Claim7 := { stood := { row := natSquareRow, standIns := [], harness := (true, "8b4dfa716af804579acb2469c66ac244f4afc8f290c359b669ecc8cb8e54c6ec"), looks := false }, kinds := [], alts := [], laidByText := true, laidKinds := [.data, .pinned], laidTests := true, laidLooks := .later }
def NatSquareCardSaid : Prop := Claim7.holds Tryd.pinned (.plain (OpenSpec.ofChange natSquareSpec)) natSquareCard

/-- THE TIED CARD OF 'gantkeep1.RatWritten'. -/
def ratWrittenCard : Claim7 := { stood := { row := ratWrittenRow, standIns := [], harness := (true, "8b4dfa716af804579acb2469c66ac244f4afc8f290c359b669ecc8cb8e54c6ec"), looks := false }, kinds := [], alts := [], laidByText := true, laidKinds := [.data], laidTests := true, laidLooks := .later }
def RatWrittenCardSaid : Prop := Claim7.holds Tryd.pinned (.plain (OpenSpec.ofChange ratWrittenSpec)) ratWrittenCard

/-- THE SECOND FORM's CARD OF 'gantkeep1.NatWritten'. -/
def natWrittenUptoCard : Claim7 := { stood := { row := natWrittenUptoRow, standIns := [], harness := (true, "8b4dfa716af804579acb2469c66ac244f4afc8f290c359b669ecc8cb8e54c6ec"), looks := false }, kinds := [], alts := [], laidByText := true, laidKinds := [.data, .pinned], laidTests := true, laidLooks := .later }
def NatWrittenUptoCardSaid : Prop := Claim7.holds Tryd.pinned (.plain (OpenSpec.upto natWrittenSpec)) natWrittenUptoCard

/-- THE SECOND FORM's CARD OF 'gantkeep1.NatLaws'. -/
def natLawsUptoCard : Claim7 := { stood := { row := natLawsUptoRow, standIns := [], harness := (true, "8b4dfa716af804579acb2469c66ac244f4afc8f290c359b669ecc8cb8e54c6ec"), looks := false }, kinds := [], alts := [], laidByText := true, laidKinds := [.data, .pinned], laidTests := true, laidLooks := .later }
def NatLawsUptoCardSaid : Prop := Claim7.holds Tryd.pinned (.plain (OpenSpec.upto natLawsSpec)) natLawsUptoCard

/-- THE SECOND FORM's CARD OF 'gantkeep1.NatDivides'. -/
def natDividesUptoCard : Claim7 := { stood := { row := natDividesUptoRow, standIns := [], harness := (true, "8b4dfa716af804579acb2469c66ac244f4afc8f290c359b669ecc8cb8e54c6ec"), looks := false }, kinds := [], alts := [], laidByText := true, laidKinds := [.data, .pinned], laidTests := true, laidLooks := .later }
def NatDividesUptoCardSaid : Prop := Claim7.holds Tryd.pinned (.plain (OpenSpec.upto natDividesSpec)) natDividesUptoCard

/-- THE SECOND FORM's CARD OF 'gantkeep1.RatField'. -/
def ratFieldUptoCard : Claim7 := { stood := { row := ratFieldUptoRow, standIns := [], harness := (true, "8b4dfa716af804579acb2469c66ac244f4afc8f290c359b669ecc8cb8e54c6ec"), looks := false }, kinds := [], alts := [], laidByText := true, laidKinds := [.data], laidTests := true, laidLooks := .later }
def RatFieldUptoCardSaid : Prop := Claim7.holds Tryd.pinned (.plain (OpenSpec.upto ratFieldSpec)) ratFieldUptoCard

/-- THE SECOND FORM's CARD OF 'gantkeep1.RatOrder'. -/
def ratOrderUptoCard : Claim7 := { stood := { row := ratOrderUptoRow, standIns := [], harness := (true, "8b4dfa716af804579acb2469c66ac244f4afc8f290c359b669ecc8cb8e54c6ec"), looks := false }, kinds := [], alts := [], laidByText := true, laidKinds := [.data], laidTests := true, laidLooks := .later }
def RatOrderUptoCardSaid : Prop := Claim7.holds Tryd.pinned (.plain (OpenSpec.upto ratOrderSpec)) ratOrderUptoCard

/-- THE SECOND FORM's CARD OF 'gantkeep1.RatRounds'. -/
def ratRoundsUptoCard : Claim7 := { stood := { row := ratRoundsUptoRow, standIns := [], harness := (true, "8b4dfa716af804579acb2469c66ac244f4afc8f290c359b669ecc8cb8e54c6ec"), looks := false }, kinds := [], alts := [], laidByText := true, laidKinds := [.data], laidTests := true, laidLooks := .later }
def RatRoundsUptoCardSaid : Prop := Claim7.holds Tryd.pinned (.plain (OpenSpec.upto ratRoundsSpec)) ratRoundsUptoCard

/-- THE SECOND FORM's CARD OF 'gantkeep1.NatDivisors'. -/
def natDivisorsUptoCard : Claim7 := { stood := { row := natDivisorsUptoRow, standIns := [], harness := (true, "8b4dfa716af804579acb2469c66ac244f4afc8f290c359b669ecc8cb8e54c6ec"), looks := false }, kinds := [], alts := [], laidByText := true, laidKinds := [.data, .data, .pinned], laidTests := true, laidLooks := .later }
def NatDivisorsUptoCardSaid : Prop := Claim7.holds Tryd.pinned (.plain (OpenSpec.upto natDivisorsSpec)) natDivisorsUptoCard

/-- THE SECOND FORM's CARD OF 'gantkeep1.NatSquare'. -/
def natSquareUptoCard : Claim7 := { stood := { row := natSquareUptoRow, standIns := [], harness := (true, "8b4dfa716af804579acb2469c66ac244f4afc8f290c359b669ecc8cb8e54c6ec"), looks := false }, kinds := [], alts := [], laidByText := true, laidKinds := [.data, .pinned], laidTests := true, laidLooks := .later }
def NatSquareUptoCardSaid : Prop := Claim7.holds Tryd.pinned (.plain (OpenSpec.upto natSquareSpec)) natSquareUptoCard

/-- THE SECOND FORM's CARD OF 'gantkeep1.RatWritten'. -/
def ratWrittenUptoCard : Claim7 := { stood := { row := ratWrittenUptoRow, standIns := [], harness := (true, "8b4dfa716af804579acb2469c66ac244f4afc8f290c359b669ecc8cb8e54c6ec"), looks := false }, kinds := [], alts := [], laidByText := true, laidKinds := [.data], laidTests := true, laidLooks := .later }
def RatWrittenUptoCardSaid : Prop := Claim7.holds Tryd.pinned (.plain (OpenSpec.upto ratWrittenSpec)) ratWrittenUptoCard
end Rows
end Go.Proofs.YtlfddhiimcophaaDoor
