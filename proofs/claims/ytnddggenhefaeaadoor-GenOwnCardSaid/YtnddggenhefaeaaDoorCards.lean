/-
  DERIVED. GIVEN WITH THE SEED: THE CARDS: each row of YtnddggenhefaeaaDoorRows.lean that lists a variable, with what it lists TIED to the program's text (the seventh form; the later family's looks); each row that meets fmt, with fmt's text TOLD by the authors' own Lean function (tested against real Go, not proved from fmt's source: count such statements apart). THE CARD IS WHAT COUNTS. Prove the row's statement (the work); the ties are given (YtnddggenhefaeaaDoorTie.lean); close each card by the builder's one call (the guide's Derived/Test/ToyasCard.lean, 'card_holds'). Laid BY PROGRAM, IN A SANDBOX (cutbox-door.mjs). By AI agents, Wed Nov 11 2026. No macro, syntax, notation, axiom, sorry.
-/
import Derived.Test.YtnddggenhefaeaaDoorRows
import GoSem.ClaimSeven
namespace Go.Proofs.YtnddggenhefaeaaDoor
namespace Rows

/-- THE TIED CARD OF 'stilelaw17.GenOwn'. -/
def genOwnCard : Claim7 := { stood := { row := genOwnRow, standIns := [], harness := (true, "65c39148b540de160a2850944e7213909d2a4b0c08d804bf50ff9fe6fc988d48"), looks := false }, kinds := [], alts := [], laidByText := true, laidKinds := [.data], laidTests := true, laidLooks := .later }
def GenOwnCardSaid : Prop := Claim7.holds Tryd.pinned (.plain (OpenSpec.ofChange genOwnSpec)) genOwnCard

/-- THE SECOND FORM's CARD OF 'stilelaw17.GenOwn'. -/
def genOwnUptoCard : Claim7 := { stood := { row := genOwnUptoRow, standIns := [], harness := (true, "65c39148b540de160a2850944e7213909d2a4b0c08d804bf50ff9fe6fc988d48"), looks := false }, kinds := [], alts := [], laidByText := true, laidKinds := [.data], laidTests := true, laidLooks := .later }
def GenOwnUptoCardSaid : Prop := Claim7.holds Tryd.pinned (.plain (OpenSpec.upto genOwnSpec)) genOwnUptoCard
end Rows
end Go.Proofs.YtnddggenhefaeaaDoor
