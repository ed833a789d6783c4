/-
  NARROWER THAN 'FOR EVERY INPUT', by the rows' own cells (each row's printed sentence says how): GenMakes: laid · GenNew: laid · GenPlaces: laid · GenRight: laid.
  DERIVED. THE GIVEN ROWS OF THIS SEAT. 4 by the template 'for every input the law returns true; each argument reads behind the call as it read before'; 0 by the template 'total and deterministic' (their statements: YtnddggenhefaeaaGreatDoorTotals.lean).
  GIVEN WITH THE SEED: the statements are not yours to turn. If you find one false, say at which input.
  Laid BY PROGRAM, IN A SANDBOX (cutbox-rows.mjs): the forced cells as the released guide's own fill.sh prints them over the translation 38df5300fb7d8854… (all of the seat's roots in one cut). By AI agents, Wed Nov 11 2026. No macro, syntax, notation, axiom, sorry.
-/
import Derived.Test.YtnddggenhefaeaaGreatDoorChecked
import GoSem.Claim
import GoSem.ClaimJoined
import GoSem.ClaimMapViews
import Derived.JoinedTies
import Derived.KernelRfl
namespace Go.Proofs.YtnddggenhefaeaaGreatDoor
/- THE CELL 'sum', in the pinned program and in every row, IS THE sha256 OF THE DUMP (.gsa) THAT YtnddggenhefaeaaGreatDoorProg.lean LOADS. Nothing in Lean hashes anything: it is a label: what it is worth is what the hold of that sum in a sandbox is worth. -/
noncomputable def Tryz.pinned : Pinned := { name := "ytnddggenhefaeaagreatdoor", sum := "38df5300fb7d885467a6805364e66be4b055453678409e846580c604c696fe40", checked := Tryz.checked }
namespace Rows
def none {H : Type} : Left H := { results := [], args := [] }

/- WHAT THE LISTED PACKAGE-LEVEL VARIABLES READ AS WHEN THE CALL BEGINS. Each datum BY PROGRAM (the guide's laid-datum.mjs) off the statement by which the dump's own 'gosem.cut.vars' lays the variable. In a bare row this is a premise. The card (YtnddggenhefaeaaGreatDoorCards.lean) ties it to the program's text. -/
def laid_math_bits_deBruijn32tab {H : Type} : DataW H := .agg [.lit (.int .u8 0), .lit (.int .u8 1), .lit (.int .u8 28), .lit (.int .u8 2), .lit (.int .u8 29), .lit (.int .u8 14), .lit (.int .u8 24), .lit (.int .u8 3), .lit (.int .u8 30), .lit (.int .u8 22), .lit (.int .u8 20), .lit (.int .u8 15), .lit (.int .u8 25), .lit (.int .u8 17), .lit (.int .u8 4), .lit (.int .u8 8), .lit (.int .u8 31), .lit (.int .u8 27), .lit (.int .u8 13), .lit (.int .u8 23), .lit (.int .u8 21), .lit (.int .u8 19), .lit (.int .u8 16), .lit (.int .u8 7), .lit (.int .u8 26), .lit (.int .u8 12), .lit (.int .u8 18), .lit (.int .u8 6), .lit (.int .u8 11), .lit (.int .u8 5), .lit (.int .u8 10), .lit (.int .u8 9)]

/-- 'stilelaw17.GenMakes': WHATEVER THE INPUT: true; the input reads as it did. -/
def genMakesSpec : ChangeSpec := { name := "genMakes", fn := fun _ => fun
  | [d1, d2, d3, d4] => { results := [.lit (.bool true)], args := [d1, d2, d3, d4] }
  | _ => none }
def genMakesRow : OpenClaim := { program := "ytnddggenhefaeaagreatdoor", sum := "38df5300fb7d885467a6805364e66be4b055453678409e846580c604c696fe40", func := "stile/stilelaw17.GenMakes", spec := "genMakes", unfollowed := true, recurses := true, named := ["math/bits.deBruijn32tab"], plainKeys := false, apart := false, laid := [("math/bits.deBruijn32tab", laid_math_bits_deBruijn32tab)] }
def GenMakesSaid : Prop := genMakesRow.holds Tryz.pinned (OpenSpec.ofChange genMakesSpec)

/-- ITS FALSE NEIGHBOUR: 'it returns false'. Refute it at one input. -/
def genMakesWrong : ChangeSpec := { name := "genMakes", fn := fun _ => fun
  | [d1, d2, d3, d4] => { results := [.lit (.bool false)], args := [d1, d2, d3, d4] }
  | _ => none }
def GenMakesWrongFalsely : Prop := genMakesRow.holds Tryz.pinned (OpenSpec.ofChange genMakesWrong)

/-- 'stilelaw17.GenNew': WHATEVER THE INPUT: true; the input reads as it did. -/
def genNewSpec : ChangeSpec := { name := "genNew", fn := fun _ => fun
  | [d1, d2, d3] => { results := [.lit (.bool true)], args := [d1, d2, d3] }
  | _ => none }
def genNewRow : OpenClaim := { program := "ytnddggenhefaeaagreatdoor", sum := "38df5300fb7d885467a6805364e66be4b055453678409e846580c604c696fe40", func := "stile/stilelaw17.GenNew", spec := "genNew", unfollowed := true, recurses := true, named := ["math/bits.deBruijn32tab"], plainKeys := false, apart := false, laid := [("math/bits.deBruijn32tab", laid_math_bits_deBruijn32tab)] }
def GenNewSaid : Prop := genNewRow.holds Tryz.pinned (OpenSpec.ofChange genNewSpec)

/-- ITS FALSE NEIGHBOUR: 'it returns false'. Refute it at one input. -/
def genNewWrong : ChangeSpec := { name := "genNew", fn := fun _ => fun
  | [d1, d2, d3] => { results := [.lit (.bool false)], args := [d1, d2, d3] }
  | _ => none }
def GenNewWrongFalsely : Prop := genNewRow.holds Tryz.pinned (OpenSpec.ofChange genNewWrong)

/-- 'stilelaw17.GenPlaces': WHATEVER THE INPUT: true; the input reads as it did. -/
def genPlacesSpec : ChangeSpec := { name := "genPlaces", fn := fun _ => fun
  | [d1, d2, d3, d4, d5] => { results := [.lit (.bool true)], args := [d1, d2, d3, d4, d5] }
  | _ => none }
def genPlacesRow : OpenClaim := { program := "ytnddggenhefaeaagreatdoor", sum := "38df5300fb7d885467a6805364e66be4b055453678409e846580c604c696fe40", func := "stile/stilelaw17.GenPlaces", spec := "genPlaces", unfollowed := true, recurses := true, named := ["math/bits.deBruijn32tab"], plainKeys := false, apart := false, laid := [("math/bits.deBruijn32tab", laid_math_bits_deBruijn32tab)] }
def GenPlacesSaid : Prop := genPlacesRow.holds Tryz.pinned (OpenSpec.ofChange genPlacesSpec)

/-- ITS FALSE NEIGHBOUR: 'it returns false'. Refute it at one input. -/
def genPlacesWrong : ChangeSpec := { name := "genPlaces", fn := fun _ => fun
  | [d1, d2, d3, d4, d5] => { results := [.lit (.bool false)], args := [d1, d2, d3, d4, d5] }
  | _ => none }
def GenPlacesWrongFalsely : Prop := genPlacesRow.holds Tryz.pinned (OpenSpec.ofChange genPlacesWrong)

/-- 'stilelaw17.GenRight': WHATEVER THE INPUT: true; the input reads as it did. -/
def genRightSpec : ChangeSpec := { name := "genRight", fn := fun _ => fun
  | [d1, d2, d3, d4] => { results := [.lit (.bool true)], args := [d1, d2, d3, d4] }
  | _ => none }
def genRightRow : OpenClaim := { program := "ytnddggenhefaeaagreatdoor", sum := "38df5300fb7d885467a6805364e66be4b055453678409e846580c604c696fe40", func := "stile/stilelaw17.GenRight", spec := "genRight", unfollowed := true, recurses := true, named := ["math/bits.deBruijn32tab"], plainKeys := false, apart := false, laid := [("math/bits.deBruijn32tab", laid_math_bits_deBruijn32tab)] }
def GenRightSaid : Prop := genRightRow.holds Tryz.pinned (OpenSpec.ofChange genRightSpec)

/-- ITS FALSE NEIGHBOUR: 'it returns false'. Refute it at one input. -/
def genRightWrong : ChangeSpec := { name := "genRight", fn := fun _ => fun
  | [d1, d2, d3, d4] => { results := [.lit (.bool false)], args := [d1, d2, d3, d4] }
  | _ => none }
def GenRightWrongFalsely : Prop := genRightRow.holds Tryz.pinned (OpenSpec.ofChange genRightWrong)

/- THE SECOND FORM. 'bulk': how many values and letters a reading holds, each counted each time it is reached (what is shared counts as often as it is met; a slice's spare places count too). A statement '..UptoSaid' is the law's where the arguments, and the package variables that the reading takes, are together of bulk at most 1048576: NARROWER than '..Said'. Prove '..Said' where nothing that the law and all that it calls make is longer than what came in: it says more and counts as full. Else prove '..UptoSaid'. A law counts once. -/
mutual
def uptoBulk {H : Type} : DataW H → Nat
  | .lit (.string bytes) => bytes.length + 1
  | .lit _ => 1
  | .nil => 1
  | .ptr d => uptoBulk d + 1
  | .slice elems spare => uptoBulkAll elems + uptoBulkAll spare + 1
  | .agg parts => uptoBulkAll parts + 1
  | .iface _ d => uptoBulk d + 1
  | .map entries => uptoBulkEntries entries + 1
  | .held _ => 1
def uptoBulkAll {H : Type} : List (DataW H) → Nat
  | [] => 0
  | d :: r => uptoBulk d + uptoBulkAll r
def uptoBulkEntries {H : Type} : List (Lit × DataW H) → Nat
  | [] => 0
  | x :: r => uptoBulkEntry x + uptoBulkEntries r
def uptoBulkEntry {H : Type} : Lit × DataW H → Nat
  | (.string bytes, d) => bytes.length + uptoBulk d + 1
  | (_, d) => uptoBulk d + 1
 end
def uptoSmall : (H : Type) → List (DataW H) → Bool := fun _ ds => decide (uptoBulkAll ds ≤ 1048576)
def OpenSpec.upto (s : _root_.Go.ChangeSpec) : _root_.Go.OpenSpec := { _root_.Go.OpenSpec.ofChange s with cond := some uptoSmall }

/-- 'stilelaw17.GenMakes', WHERE WHAT IT READS IS OF BULK AT MOST 1048576: true; the input reads as it did. -/
def genMakesUptoRow : OpenClaim := { program := "ytnddggenhefaeaagreatdoor", sum := "38df5300fb7d885467a6805364e66be4b055453678409e846580c604c696fe40", func := "stile/stilelaw17.GenMakes", spec := "genMakes", unfollowed := true, recurses := true, named := ["math/bits.deBruijn32tab"], plainKeys := false, apart := false, laid := [("math/bits.deBruijn32tab", laid_math_bits_deBruijn32tab)], narrowed := true }
def GenMakesUptoSaid : Prop := genMakesUptoRow.holds Tryz.pinned (OpenSpec.upto genMakesSpec)

/-- 'stilelaw17.GenNew', WHERE WHAT IT READS IS OF BULK AT MOST 1048576: true; the input reads as it did. -/
def genNewUptoRow : OpenClaim := { program := "ytnddggenhefaeaagreatdoor", sum := "38df5300fb7d885467a6805364e66be4b055453678409e846580c604c696fe40", func := "stile/stilelaw17.GenNew", spec := "genNew", unfollowed := true, recurses := true, named := ["math/bits.deBruijn32tab"], plainKeys := false, apart := false, laid := [("math/bits.deBruijn32tab", laid_math_bits_deBruijn32tab)], narrowed := true }
def GenNewUptoSaid : Prop := genNewUptoRow.holds Tryz.pinned (OpenSpec.upto genNewSpec)

/-- 'stilelaw17.GenPlaces', WHERE WHAT IT READS IS OF BULK AT MOST 1048576: true; the input reads as it did. -/
def genPlacesUptoRow : OpenClaim := { program := "ytnddggenhefaeaagreatdoor", sum := "38df5300fb7d885467a6805364e66be4b055453678409e846580c604c696fe40", func := "stile/stilelaw17.GenPlaces", spec := "genPlaces", unfollowed := true, recurses := true, named := ["math/bits.deBruijn32tab"], plainKeys := false, apart := false, laid := [("math/bits.deBruijn32tab", laid_math_bits_deBruijn32tab)], narrowed := true }
def GenPlacesUptoSaid : Prop := genPlacesUptoRow.holds Tryz.pinned (OpenSpec.upto genPlacesSpec)

/-- 'stilelaw17.GenRight', WHERE WHAT IT READS IS OF BULK AT MOST 1048576: true; the input reads as it did. -/
def genRightUptoRow : OpenClaim := { program := "ytnddggenhefaeaagreatdoor", sum := "38df5300fb7d885467a6805364e66be4b055453678409e846580c604c696fe40", func := "stile/stilelaw17.GenRight", spec := "genRight", unfollowed := true, recurses := true, named := ["math/bits.deBruijn32tab"], plainKeys := false, apart := false, laid := [("math/bits.deBruijn32tab", laid_math_bits_deBruijn32tab)], narrowed := true }
def GenRightUptoSaid : Prop := genRightUptoRow.holds Tryz.pinned (OpenSpec.upto genRightSpec)

end Rows
end Go.Proofs.YtnddggenhefaeaaGreatDoor
