/-
  DERIVED. GIVEN WITH THE SEED: THE CARDS: each row of YtnddggenhefaeaaGreatDoorRows.lean that lists a variable, with what it lists TIED to the program's text (the seventh form; the later family's looks); each row that meets fmt, with fmt's text TOLD by the authors' own Lean function (tested against real Go, not proved from fmt's source: count such statements apart). THE CARD IS WHAT COUNTS. Prove the row's statement (the work); the ties are given (YtnddggenhefaeaaGreatDoorTie.lean); close each card by the builder's one call (the guide's Derived/Test/ToyasCard.lean, 'card_holds'). Laid BY PROGRAM, IN A SANDBOX (cutbox-door.mjs). By AI agents, Wed Nov 11 2026. No macro, syntax, notation, axiom, sorry.
-/
import Derived.Test.YtnddggenhefaeaaGreatDoorRows
import GoSem.ClaimSeven
namespace Go.Proofs.YtnddggenhefaeaaGreatDoor
namespace Rows

/-- THE TIED CARD OF 'stilelaw17.GenMakes'. -/
def genMakesCard : Claim7 := { stood := { row := genMakesRow, standIns := [], harness := (true, "e649096e9131ef78071e4a94f784efb1eac0b8cd64687975398657883f911cf9"), looks := false }, kinds := [], alts := [], laidByText := true, laidKinds := [.data], laidTests := true, laidLooks := .later }
def GenMakesCardSaid : Prop := Claim7.holds Tryz.pinned (.plain (OpenSpec.ofChange genMakesSpec)) genMakesCard

/-- THE TIED CARD OF 'stilelaw17.GenNew'. -/
def genNewCard : Claim7 := { stood := { row := genNewRow, standIns := [], harness := (true, "e649096e9131ef78071e4a94f784efb1eac0b8cd64687975398657883f911cf9"), looks := false }, kinds := [], alts := [], laidByText := true, laidKinds := [.data], laidTests := true, laidLooks := .later }
def GenNewCardSaid : Prop := Claim7.holds Tryz.pinned (.plain (OpenSpec.ofChange genNewSpec)) genNewCard

/-- THE TIED CARD OF 'stilelaw17.GenPlaces'. -/
def genPlacesCard : Claim7 := { stood := { row := genPlacesRow, standIns := [], harness := (true, "e649096e9131ef78071e4a94f784efb1eac0b8cd64687975398657883f911cf9"), looks := false }, kinds := [], alts := [], laidByText := true, laidKinds := [.data], laidTests := true, laidLooks := .later }
def GenPlacesCardSaid : Prop := Claim7.holds Tryz.pinned (.plain (OpenSpec.ofChange genPlacesSpec)) genPlacesCard

/-- THE TIED CARD OF 'stilelaw17.GenRight'. -/
def genRightCard : Claim7 := { stood := { row := genRightRow, standIns := [], harness := (true, "e649096e9131ef78071e4a94f784efb1eac0b8cd64687975398657883f911cf9"), looks := false }, kinds := [], alts := [], laidByText := true, laidKinds := [.data], laidTests := true, laidLooks := .later }
def GenRightCardSaid : Prop := Claim7.holds Tryz.pinned (.plain (OpenSpec.ofChange genRightSpec)) genRightCard

/-- THE SECOND FORM's CARD OF 'stilelaw17.GenMakes'. -/
def genMakesUptoCard : Claim7 := { stood := { row := genMakesUptoRow, standIns := [], harness := (true, "e649096e9131ef78071e4a94f784efb1eac0b8cd64687975398657883f911cf9"), looks := false }, kinds := [], alts := [], laidByText := true, laidKinds := [.data], laidTests := true, laidLooks := .later }
def GenMakesUptoCardSaid : Prop := Claim7.holds Tryz.pinned (.plain (OpenSpec.upto genMakesSpec)) genMakesUptoCard

/-- THE SECOND FORM's CARD OF 'stilelaw17.GenNew'. -/
def genNewUptoCard : Claim7 := { stood := { row := genNewUptoRow, standIns := [], harness := (true, "e649096e9131ef78071e4a94f784efb1eac0b8cd64687975398657883f911cf9"), looks := false }, kinds := [], alts := [], laidByText := true, laidKinds := [.data], laidTests := true, laidLooks := .later }
def GenNewUptoCardSaid : Prop := Claim7.holds Tryz.pinned (.plain (OpenSpec.upto genNewSpec)) genNewUptoCard

/-- THE SECOND FORM's CARD OF 'stilelaw17.GenPlaces'. -/
def genPlacesUptoCard : Claim7 := { stood := { row := genPlacesUptoRow, standIns := [], harness := (true, "e649096e9131ef78071e4a94f784efb1eac0b8cd64687975398657883f911cf9"), looks := false }, kinds := [], alts := [], laidByText := true, laidKinds := [.data], laidTests := true, laidLooks := .later }
def GenPlacesUptoCardSaid : Prop := Claim7.holds Tryz.pinned (.plain (OpenSpec.upto genPlacesSpec)) genPlacesUptoCard

/-- THE SECOND FORM's CARD OF 'stilelaw17.GenRight'. -/
def genRightUptoCard : Claim7 := { stood := { row := genRightUptoRow, standIns := [], harness := (true, "e649096e9131ef78071e4a94f784efb1eac0b8cd64687975398657883f911cf9"), looks := false }, kinds := [], alts := [], laidByText := true, laidKinds := [.data], laidTests := true, laidLooks := .later }
def GenRightUptoCardSaid : Prop := Claim7.holds Tryz.pinned (.plain (OpenSpec.upto genRightSpec)) genRightUptoCard
end Rows
end Go.Proofs.YtnddggenhefaeaaGreatDoor
