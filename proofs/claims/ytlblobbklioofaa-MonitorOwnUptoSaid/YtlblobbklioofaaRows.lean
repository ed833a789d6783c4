/-
  No cell of these rows narrows 'for every input' (looked for: loops, veiled, ifaces, maps, wideKeys, modest, calm, conditions, laid).
  DERIVED. THE GIVEN ROWS OF THIS SEAT. 3 by the template 'for every input the law returns true; each argument reads behind the call as it read before'; 0 by the template 'total and deterministic' (their statements: YtlblobbklioofaaTotals.lean).
  GIVEN WITH THE SEED: the statements are not yours to turn. If you find one false, say at which input.
  Laid BY PROGRAM, IN A SANDBOX (cutbox-rows.mjs): the forced cells as the released guide's own fill.sh prints them over the translation 9cca6a3c2f6e6cc8… (all of the seat's roots in one cut). By AI agents, Wed Nov 11 2026. No macro, syntax, notation, axiom, sorry.
-/
import Derived.Test.YtlblobbklioofaaChecked
import GoSem.Claim
import GoSem.ClaimJoined
import GoSem.ClaimMapViews
import Derived.JoinedTies
import Derived.KernelRfl
namespace Go.Proofs.Ytlblobbklioofaa
/- THE CELL 'sum', in the pinned program and in every row, IS THE sha256 OF THE DUMP (.gsa) THAT YtlblobbklioofaaProg.lean LOADS. Nothing in Lean hashes anything: it is a label: what it is worth is what the hold of that sum in a sandbox is worth. -/
noncomputable def Try.pinned : Pinned := { name := "ytlblobbklioofaa", sum := "9cca6a3c2f6e6cc82f3a47b932c414247debf4996c33b624cc02d22657d48645", checked := Try.checked }
namespace Rows
def none {H : Type} : Left H := { results := [], args := [] }

/-- 'stilelaw23.MonitorBlocks': WHATEVER THE INPUT: true; the input reads as it did. -/
def monitorBlocksSpec : ChangeSpec := { name := "monitorBlocks", fn := fun _ => fun
  | [d1, d2] => { results := [.lit (.bool true)], args := [d1, d2] }
  | _ => none }
def monitorBlocksRow : OpenClaim := { program := "ytlblobbklioofaa", sum := "9cca6a3c2f6e6cc82f3a47b932c414247debf4996c33b624cc02d22657d48645", func := "stile/stilelaw23.MonitorBlocks", spec := "monitorBlocks", unfollowed := true, recurses := true, plainKeys := false, apart := false }
def MonitorBlocksSaid : Prop := monitorBlocksRow.holds Try.pinned (OpenSpec.ofChange monitorBlocksSpec)

/-- ITS FALSE NEIGHBOUR: 'it returns false'. Refute it at one input. -/
def monitorBlocksWrong : ChangeSpec := { name := "monitorBlocks", fn := fun _ => fun
  | [d1, d2] => { results := [.lit (.bool false)], args := [d1, d2] }
  | _ => none }
def MonitorBlocksWrongFalsely : Prop := monitorBlocksRow.holds Try.pinned (OpenSpec.ofChange monitorBlocksWrong)

/-- 'stilelaw23.MonitorHands': WHATEVER THE INPUT: true; the input reads as it did. -/
def monitorHandsSpec : ChangeSpec := { name := "monitorHands", fn := fun _ => fun
  | [d1, d2, d3] => { results := [.lit (.bool true)], args := [d1, d2, d3] }
  | _ => none }
def monitorHandsRow : OpenClaim := { program := "ytlblobbklioofaa", sum := "9cca6a3c2f6e6cc82f3a47b932c414247debf4996c33b624cc02d22657d48645", func := "stile/stilelaw23.MonitorHands", spec := "monitorHands", unfollowed := true, recurses := true, plainKeys := false, apart := false }
def MonitorHandsSaid : Prop := monitorHandsRow.holds Try.pinned (OpenSpec.ofChange monitorHandsSpec)

/-- ITS FALSE NEIGHBOUR: 'it returns false'. Refute it at one input. -/
def monitorHandsWrong : ChangeSpec := { name := "monitorHands", fn := fun _ => fun
  | [d1, d2, d3] => { results := [.lit (.bool false)], args := [d1, d2, d3] }
  | _ => none }
def MonitorHandsWrongFalsely : Prop := monitorHandsRow.holds Try.pinned (OpenSpec.ofChange monitorHandsWrong)

/-- 'stilelaw23.MonitorOwn': WHATEVER THE INPUT: true; the input reads as it did. -/
def monitorOwnSpec : ChangeSpec := { name := "monitorOwn", fn := fun _ => fun
  | [d1, d2, d3] => { results := [.lit (.bool true)], args := [d1, d2, d3] }
  | _ => none }
def monitorOwnRow : OpenClaim := { program := "ytlblobbklioofaa", sum := "9cca6a3c2f6e6cc82f3a47b932c414247debf4996c33b624cc02d22657d48645", func := "stile/stilelaw23.MonitorOwn", spec := "monitorOwn", unfollowed := true, recurses := true, plainKeys := false, apart := false }
def MonitorOwnSaid : Prop := monitorOwnRow.holds Try.pinned (OpenSpec.ofChange monitorOwnSpec)

/-- ITS FALSE NEIGHBOUR: 'it returns false'. Refute it at one input. -/
def monitorOwnWrong : ChangeSpec := { name := "monitorOwn", fn := fun _ => fun
  | [d1, d2, d3] => { results := [.lit (.bool false)], args := [d1, d2, d3] }
  | _ => none }
def MonitorOwnWrongFalsely : Prop := monitorOwnRow.holds Try.pinned (OpenSpec.ofChange monitorOwnWrong)

/- THE SECOND FORM. 'bulk': how many values and letters a reading holds, each counted each time it is reached (what is shared counts as often as it is met; a slice's spare places count too). A statement '..UptoSaid' is the law's where the arguments, and the package variables that the reading takes, are together of bulk at most 1048576: NARROWER than '..Said'. Prove '..Said' where nothing that the law and all that it calls make is longer than what came in: it says more and counts as full. Else prove '..UptoSaid'. A law counts once. -/
mutual
def uptoBulk {H : Type} : DataW H → Nat
  | .lit (.string bytes) => bytes.length + 1
  | .lit _ => 1
  | .nil => 1
  | .ptr d => uptoBulk d + 1
  | .slice elems spare => uptoBulkAll elems + uptoBulkAll spare + 1
  | .agg parts => uptoBulkAll parts + 1
  | .iface _ d => uptoBulk d + 1
  | .map entries => uptoBulkEntries entries + 1
  | .held _ => 1
def uptoBulkAll {H : Type} : List (DataW H) → Nat
  | [] => 0
  | d :: r => uptoBulk d + uptoBulkAll r
def uptoBulkEntries {H : Type} : List (Lit × DataW H) → Nat
  | [] => 0
  | x :: r => uptoBulkEntry x + uptoBulkEntries r
def uptoBulkEntry {H : Type} : Lit × DataW H → Nat
  | (.string bytes, d) => bytes.length + uptoBulk d + 1
  | (_, d) => uptoBulk d + 1
 end
def uptoSmall : (H : Type) → List (DataW H) → Bool := fun _ ds => decide (uptoBulkAll ds ≤ 1048576)
def OpenSpec.upto (s : _root_.Go.ChangeSpec) : _root_.Go.OpenSpec := { _root_.Go.OpenSpec.ofChange s with cond := some uptoSmall }

/-- 'stilelaw23.MonitorBlocks', WHERE WHAT IT READS IS OF BULK AT MOST 1048576: true; the input reads as it did. -/
def monitorBlocksUptoRow : OpenClaim := { program := "ytlblobbklioofaa", sum := "9cca6a3c2f6e6cc82f3a47b932c414247debf4996c33b624cc02d22657d48645", func := "stile/stilelaw23.MonitorBlocks", spec := "monitorBlocks", unfollowed := true, recurses := true, plainKeys := false, apart := false, narrowed := true }
def MonitorBlocksUptoSaid : Prop := monitorBlocksUptoRow.holds Try.pinned (OpenSpec.upto monitorBlocksSpec)

/-- 'stilelaw23.MonitorHands', WHERE WHAT IT READS IS OF BULK AT MOST 1048576: true; the input reads as it did. -/
def monitorHandsUptoRow : OpenClaim := { program := "ytlblobbklioofaa", sum := "9cca6a3c2f6e6cc82f3a47b932c414247debf4996c33b624cc02d22657d48645", func := "stile/stilelaw23.MonitorHands", spec := "monitorHands", unfollowed := true, recurses := true, plainKeys := false, apart := false, narrowed := true }
def MonitorHandsUptoSaid : Prop := monitorHandsUptoRow.holds Try.pinned (OpenSpec.upto monitorHandsSpec)

/-- 'stilelaw23.MonitorOwn', WHERE WHAT IT READS IS OF BULK AT MOST 1048576: true; the input reads as it did. -/
def monitorOwnUptoRow : OpenClaim := { program := "ytlblobbklioofaa", sum := "9cca6a3c2f6e6cc82f3a47b932c414247debf4996c33b624cc02d22657d48645", func := "stile/stilelaw23.MonitorOwn", spec := "monitorOwn", unfollowed := true, recurses := true, plainKeys := false, apart := false, narrowed := true }
def MonitorOwnUptoSaid : Prop := monitorOwnUptoRow.holds Try.pinned (OpenSpec.upto monitorOwnSpec)

end Rows
end Go.Proofs.Ytlblobbklioofaa
