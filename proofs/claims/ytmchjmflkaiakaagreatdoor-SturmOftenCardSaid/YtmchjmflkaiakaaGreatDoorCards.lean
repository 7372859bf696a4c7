/-
  DERIVED. GIVEN WITH THE SEED: THE CARDS: each row of YtmchjmflkaiakaaGreatDoorRows.lean that lists a variable, with what it lists TIED to the program's text (the seventh form; the later family's looks); each row that meets fmt, with fmt's text TOLD by the authors' own Lean function (tested against real Go, not proved from fmt's source: count such statements apart). THE CARD IS WHAT COUNTS. Prove the row's statement (the work); the ties are given (YtmchjmflkaiakaaGreatDoorTie.lean); close each card by the builder's one call (the guide's Derived/Test/ToyasCard.lean, 'card_holds'). Laid BY PROGRAM, IN A SANDBOX (cutbox-door.mjs). By AI agents, Wed Nov 11 2026. No macro, syntax, notation, axiom, sorry.
-/
import Derived.Test.YtmchjmflkaiakaaGreatDoorRows
import GoSem.ClaimSeven
namespace Go.Proofs.YtmchjmflkaiakaaGreatDoor
namespace Rows

/-- THE TIED CARD OF 'gantkeep1.SweepHolds'. -/
def sweepHoldsCard : Claim7 := { stood := { row := sweepHoldsRow, standIns := [], harness := (true, "61c1f5acbb6acd8ce74036f8b128b404983929f62023536bd85cb2248c5ae650"), looks := false }, kinds := [], alts := [], laidByText := true, laidKinds := [.data], laidTests := true, laidLooks := .later }
def SweepHoldsCardSaid : Prop := Claim7.holds Tryz.pinned (.plain (OpenSpec.ofChange sweepHoldsSpec)) sweepHoldsCard

/-- THE TIED CARD OF 'gantkeep1.SturmSigns'. -/
def sturmSignsCard : Claim7 := { stood := { row := sturmSignsRow, standIns := [], harness := (true, "61c1f5acbb6acd8ce74036f8b128b404983929f62023536bd85cb2248c5ae650"), looks := false }, kinds := [], alts := [], laidByText := true, laidKinds := [.data], laidTests := true, laidLooks := .later }
def SturmSignsCardSaid : Prop := Claim7.holds Tryz.pinned (.plain (OpenSpec.ofChange sturmSignsSpec)) sturmSignsCard

/-- THE TIED CARD OF 'gantkeep1.SturmOften'. -/
def sturmOftenCard : Claim7 := { stood := { row := sturmOftenRow, standIns := [], harness := (true, "61c1f5acbb6acd8ce74036f8b128b404983929f62023536bd85cb2248c5ae650"), looks := false }, kinds := [], alts := [], laidByText := true, laidKinds := [.data], laidTests := true, laidLooks := .later }
def SturmOftenCardSaid : Prop := Claim7.holds Tryz.pinned (.plain (OpenSpec.ofChange sturmOftenSpec)) sturmOftenCard

/-- THE TIED CARD OF 'gantkeep1.SturmMade'. -/
def sturmMadeCard : Claim7 := { stood := { row := sturmMadeRow, standIns := [], harness := (true, "61c1f5acbb6acd8ce74036f8b128b404983929f62023536bd85cb2248c5ae650"), looks := false }, kinds := [], alts := [], laidByText := true, laidKinds := [.data], laidTests := true, laidLooks := .later }
def SturmMadeCardSaid : Prop := Claim7.holds Tryz.pinned (.plain (OpenSpec.ofChange sturmMadeSpec)) sturmMadeCard

/-- THE TIED CARD OF 'ganttop.NumbersHold'. -/
def numbersHoldCard : Claim7 := { stood := { row := numbersHoldRow, standIns := [], harness := (true, "61c1f5acbb6acd8ce74036f8b128b404983929f62023536bd85cb2248c5ae650"), looks := false }, kinds := [], alts := [], laidByText := true, laidKinds := [.data], laidTests := true, laidLooks := .later }
def NumbersHoldCardSaid : Prop := Claim7.holds Tryz.pinned (.plain (OpenSpec.ofChange numbersHoldSpec)) numbersHoldCard

/-- THE TIED CARD OF 'ganttop.ApartSweep'. -/
def apartSweepCard : Claim7 := { stood := { row := apartSweepRow, standIns := [], harness := (true, "61c1f5acbb6acd8ce74036f8b128b404983929f62023536bd85cb2248c5ae650"), looks := false }, kinds := [], alts := [], laidByText := true, laidKinds := [.data], laidTests := true, laidLooks := .later }
def ApartSweepCardSaid : Prop := Claim7.holds Tryz.pinned (.plain (OpenSpec.ofChange apartSweepSpec)) apartSweepCard

/-- THE SECOND FORM's CARD OF 'gantkeep1.SweepHolds'. -/
def sweepHoldsUptoCard : Claim7 := { stood := { row := sweepHoldsUptoRow, standIns := [], harness := (true, "61c1f5acbb6acd8ce74036f8b128b404983929f62023536bd85cb2248c5ae650"), looks := false }, kinds := [], alts := [], laidByText := true, laidKinds := [.data], laidTests := true, laidLooks := .later }
def SweepHoldsUptoCardSaid : Prop := Claim7.holds Tryz.pinned (.plain (OpenSpec.upto sweepHoldsSpec)) sweepHoldsUptoCard

/-- THE SECOND FORM's CARD OF 'gantkeep1.SturmSigns'. -/
def sturmSignsUptoCard : Claim7 := { stood := { row := sturmSignsUptoRow, standIns := [], harness := (true, "61c1f5acbb6acd8ce74036f8b128b404983929f62023536bd85cb2248c5ae650"), looks := false }, kinds := [], alts := [], laidByText := true, laidKinds := [.data], laidTests := true, laidLooks := .later }
def SturmSignsUptoCardSaid : Prop := Claim7.holds Tryz.pinned (.plain (OpenSpec.upto sturmSignsSpec)) sturmSignsUptoCard

/-- THE SECOND FORM's CARD OF 'gantkeep1.SturmOften'. -/
def sturmOftenUptoCard : Claim7 := { stood := { row := sturmOftenUptoRow, standIns := [], harness := (true, "61c1f5acbb6acd8ce74036f8b128b404983929f62023536bd85cb2248c5ae650"), looks := false }, kinds := [], alts := [], laidByText := true, laidKinds := [.data], laidTests := true, laidLooks := .later }
def SturmOftenUptoCardSaid : Prop := Claim7.holds Tryz.pinned (.plain (OpenSpec.upto sturmOftenSpec)) sturmOftenUptoCard

/-- THE SECOND FORM's CARD OF 'gantkeep1.SturmMade'. -/
def sturmMadeUptoCard : Claim7 := { stood := { row := sturmMadeUptoRow, standIns := [], harness := (true, "61c1f5acbb6acd8ce74036f8b128b404983929f62023536bd85cb2248c5ae650"), looks := false }, kinds := [], alts := [], laidByText := true, laidKinds := [.data], laidTests := true, laidLooks := .later }
def SturmMadeUptoCardSaid : Prop := Claim7.holds Tryz.pinned (.plain (OpenSpec.upto sturmMadeSpec)) sturmMadeUptoCard

/-- THE SECOND FORM's CARD OF 'ganttop.NumbersHold'. -/
def numbersHoldUptoCard : Claim7 := { stood := { row := numbersHoldUptoRow, standIns := [], harness := (true, "61c1f5acbb6acd8ce74036f8b128b404983929f62023536bd85cb2248c5ae650"), looks := false }, kinds := [], alts := [], laidByText := true, laidKinds := [.data], laidTests := true, laidLooks := .later }
def NumbersHoldUptoCardSaid : Prop := Claim7.holds Tryz.pinned (.plain (OpenSpec.upto numbersHoldSpec)) numbersHoldUptoCard

/-- THE SECOND FORM's CARD OF 'ganttop.ApartSweep'. -/
def apartSweepUptoCard : Claim7 := { stood := { row := apartSweepUptoRow, standIns := [], harness := (true, "61c1f5acbb6acd8ce74036f8b128b404983929f62023536bd85cb2248c5ae650"), looks := false }, kinds := [], alts := [], laidByText := true, laidKinds := [.data], laidTests := true, laidLooks := .later }
def ApartSweepUptoCardSaid : Prop := Claim7.holds Tryz.pinned (.plain (OpenSpec.upto apartSweepSpec)) apartSweepUptoCard
end Rows
end Go.Proofs.YtmchjmflkaiakaaGreatDoor
