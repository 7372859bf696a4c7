/-
  DERIVED. GIVEN WITH THE SEED: THE CARDS: each row of YtbgifinfflehmaaDoorRows.lean that lists a variable, with what it lists TIED to the program's text (the seventh form; the later family's looks); each row that meets fmt, with fmt's text TOLD by the authors' own Lean function (tested against real Go, not proved from fmt's source: count such statements apart). THE CARD IS WHAT COUNTS. Prove the row's statement (the work); the ties are given (YtbgifinfflehmaaDoorTie.lean); close each card by the builder's one call (the guide's Derived/Test/ToyasCard.lean, 'card_holds'). Laid BY PROGRAM, IN A SANDBOX (cutbox-door.mjs). By AI agents, Wed Nov 11 2026. No macro, syntax, notation, axiom, sorry.
-/
import Derived.Test.YtbgifinfflehmaaDoorRows
import GoSem.ClaimSeven
namespace Go.Proofs.YtbgifinfflehmaaDoor
namespace Rows

/-- THE TIED CARD OF 'gantkeep1.ApartMoves'. -/
def apartMovesCard : Claim7 := { stood := { row := apartMovesRow, standIns := [], harness := (true, "935f85aa13af16301474e011f663254e128a0afb7a5bb4f1023fe5b18997d9c2"), looks := false }, kinds := [], alts := [], laidByText := true, laidKinds := [.data], laidTests := true, laidLooks := .later }
def ApartMovesCardSaid : Prop := Claim7.holds Tryd.pinned (.plain (OpenSpec.ofChange apartMovesSpec)) apartMovesCard

/-- THE TIED CARD OF 'gantkeep1.ApartWay'. -/
def apartWayCard : Claim7 := { stood := { row := apartWayRow, standIns := [], harness := (true, "935f85aa13af16301474e011f663254e128a0afb7a5bb4f1023fe5b18997d9c2"), looks := false }, kinds := [], alts := [], laidByText := true, laidKinds := [.data], laidTests := true, laidLooks := .later }
def ApartWayCardSaid : Prop := Claim7.holds Tryd.pinned (.plain (OpenSpec.ofChange apartWaySpec)) apartWayCard

/-- THE TIED CARD OF 'gantkeep1.ApartAxis'. -/
def apartAxisCard : Claim7 := { stood := { row := apartAxisRow, standIns := [], harness := (true, "935f85aa13af16301474e011f663254e128a0afb7a5bb4f1023fe5b18997d9c2"), looks := false }, kinds := [], alts := [], laidByText := true, laidKinds := [.data], laidTests := true, laidLooks := .later }
def ApartAxisCardSaid : Prop := Claim7.holds Tryd.pinned (.plain (OpenSpec.ofChange apartAxisSpec)) apartAxisCard

/-- THE TIED CARD OF 'gantkeep1.GridBoole'. -/
def gridBooleCard : Claim7 := { stood := { row := gridBooleRow, standIns := [], harness := (true, "935f85aa13af16301474e011f663254e128a0afb7a5bb4f1023fe5b18997d9c2"), looks := false }, kinds := [], alts := [], laidByText := true, laidKinds := [.data], laidTests := true, laidLooks := .later }
def GridBooleCardSaid : Prop := Claim7.holds Tryd.pinned (.plain (OpenSpec.ofChange gridBooleSpec)) gridBooleCard

/-- THE TIED CARD OF 'gantkeep1.RatWritten'. -/
def ratWrittenCard : Claim7 := { stood := { row := ratWrittenRow, standIns := [], harness := (true, "935f85aa13af16301474e011f663254e128a0afb7a5bb4f1023fe5b18997d9c2"), looks := false }, kinds := [], alts := [], laidByText := true, laidKinds := [.data], laidTests := true, laidLooks := .later }
def RatWrittenCardSaid : Prop := Claim7.holds Tryd.pinned (.plain (OpenSpec.ofChange ratWrittenSpec)) ratWrittenCard

/-- THE SECOND FORM's CARD OF 'gantkeep1.ApartMoves'. -/
def apartMovesUptoCard : Claim7 := { stood := { row := apartMovesUptoRow, standIns := [], harness := (true, "935f85aa13af16301474e011f663254e128a0afb7a5bb4f1023fe5b18997d9c2"), looks := false }, kinds := [], alts := [], laidByText := true, laidKinds := [.data], laidTests := true, laidLooks := .later }
def ApartMovesUptoCardSaid : Prop := Claim7.holds Tryd.pinned (.plain (OpenSpec.upto apartMovesSpec)) apartMovesUptoCard

/-- THE SECOND FORM's CARD OF 'gantkeep1.ApartWay'. -/
def apartWayUptoCard : Claim7 := { stood := { row := apartWayUptoRow, standIns := [], harness := (true, "935f85aa13af16301474e011f663254e128a0afb7a5bb4f1023fe5b18997d9c2"), looks := false }, kinds := [], alts := [], laidByText := true, laidKinds := [.data], laidTests := true, laidLooks := .later }
def ApartWayUptoCardSaid : Prop := Claim7.holds Tryd.pinned (.plain (OpenSpec.upto apartWaySpec)) apartWayUptoCard

/-- THE SECOND FORM's CARD OF 'gantkeep1.ApartAxis'. -/
def apartAxisUptoCard : Claim7 := { stood := { row := apartAxisUptoRow, standIns := [], harness := (true, "935f85aa13af16301474e011f663254e128a0afb7a5bb4f1023fe5b18997d9c2"), looks := false }, kinds := [], alts := [], laidByText := true, laidKinds := [.data], laidTests := true, laidLooks := .later }
def ApartAxisUptoCardSaid : Prop := Claim7.holds Tryd.pinned (.plain (OpenSpec.upto apartAxisSpec)) apartAxisUptoCard

/-- THE SECOND FORM's CARD OF 'gantkeep1.GridBoole'. -/
def gridBooleUptoCard : Claim7 := { stood := { row := gridBooleUptoRow, standIns := [], harness := (true, "935f85aa13af16301474e011f663254e128a0afb7a5bb4f1023fe5b18997d9c2"), looks := false }, kinds := [], alts := [], laidByText := true, laidKinds := [.data], laidTests := true, laidLooks := .later }
def GridBooleUptoCardSaid : Prop := Claim7.holds Tryd.pinned (.plain (OpenSpec.upto gridBooleSpec)) gridBooleUptoCard

/-- THE SECOND FORM's CARD OF 'gantkeep1.RatWritten'. -/
def ratWrittenUptoCard : Claim7 := { stood := { row := ratWrittenUptoRow, standIns := [], harness := (true, "935f85aa13af16301474e011f663254e128a0afb7a5bb4f1023fe5b18997d9c2"), looks := false }, kinds := [], alts := [], laidByText := true, laidKinds := [.data], laidTests := true, laidLooks := .later }
def RatWrittenUptoCardSaid : Prop := Claim7.holds Tryd.pinned (.plain (OpenSpec.upto ratWrittenSpec)) ratWrittenUptoCard
end Rows
end Go.Proofs.YtbgifinfflehmaaDoor
