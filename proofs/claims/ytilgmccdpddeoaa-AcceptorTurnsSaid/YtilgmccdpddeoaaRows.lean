/-
  No cell of these rows narrows 'for every input' (looked for: loops, veiled, ifaces, maps, wideKeys, modest, calm, conditions, laid).
  DERIVED. THE GIVEN ROWS OF THIS SEAT. 14 by the template 'for every input the law returns true; each argument reads behind the call as it read before'; 0 by the template 'total and deterministic' (their statements: YtilgmccdpddeoaaTotals.lean).
  GIVEN WITH THE SEED: the statements are not yours to turn. If you find one false, say at which input.
  Laid BY PROGRAM, IN A SANDBOX (cutbox-rows.mjs): the forced cells as the released guide's own fill.sh prints them over the translation 3588356f5c175039… (all of the seat's roots in one cut). By AI agents, Wed Nov 11 2026. No macro, syntax, notation, axiom, sorry.
-/
import Derived.Test.YtilgmccdpddeoaaChecked
import GoSem.Claim
import GoSem.ClaimJoined
import GoSem.ClaimMapViews
import Derived.JoinedTies
import Derived.KernelRfl
namespace Go.Proofs.Ytilgmccdpddeoaa
/- THE CELL 'sum', in the pinned program and in every row, IS THE sha256 OF THE DUMP (.gsa) THAT YtilgmccdpddeoaaProg.lean LOADS. Nothing in Lean hashes anything: it is a label: what it is worth is what the hold of that sum in a sandbox is worth. -/
noncomputable def Try.pinned : Pinned := { name := "ytilgmccdpddeoaa", sum := "3588356f5c1750391160fc3c8d29e75468719ed97b9f583a2db8c0d7f1a5690d", checked := Try.checked }
namespace Rows
def none {H : Type} : Left H := { results := [], args := [] }

/-- 'windroselaw16.AcceptorTurns': WHATEVER THE INPUT: true; the input reads as it did. -/
def acceptorTurnsSpec : ChangeSpec := { name := "acceptorTurns", fn := fun _ => fun
  | [d1, d2, d3] => { results := [.lit (.bool true)], args := [d1, d2, d3] }
  | _ => none }
def acceptorTurnsRow : OpenClaim := { program := "ytilgmccdpddeoaa", sum := "3588356f5c1750391160fc3c8d29e75468719ed97b9f583a2db8c0d7f1a5690d", func := "windrose/windroselaw16.AcceptorTurns", spec := "acceptorTurns", unfollowed := true, recurses := true, plainKeys := false, apart := false }
def AcceptorTurnsSaid : Prop := acceptorTurnsRow.holds Try.pinned (OpenSpec.ofChange acceptorTurnsSpec)

/-- ITS FALSE NEIGHBOUR: 'it returns false'. Refute it at one input. -/
def acceptorTurnsWrong : ChangeSpec := { name := "acceptorTurns", fn := fun _ => fun
  | [d1, d2, d3] => { results := [.lit (.bool false)], args := [d1, d2, d3] }
  | _ => none }
def AcceptorTurnsWrongFalsely : Prop := acceptorTurnsRow.holds Try.pinned (OpenSpec.ofChange acceptorTurnsWrong)

/-- 'windroselaw16.AcceptorAgrees': WHATEVER THE INPUT: true; the input reads as it did. -/
def acceptorAgreesSpec : ChangeSpec := { name := "acceptorAgrees", fn := fun _ => fun
  | [d1, d2] => { results := [.lit (.bool true)], args := [d1, d2] }
  | _ => none }
def acceptorAgreesRow : OpenClaim := { program := "ytilgmccdpddeoaa", sum := "3588356f5c1750391160fc3c8d29e75468719ed97b9f583a2db8c0d7f1a5690d", func := "windrose/windroselaw16.AcceptorAgrees", spec := "acceptorAgrees", plainKeys := false, apart := false }
def AcceptorAgreesSaid : Prop := acceptorAgreesRow.holds Try.pinned (OpenSpec.ofChange acceptorAgreesSpec)

/-- ITS FALSE NEIGHBOUR: 'it returns false'. Refute it at one input. -/
def acceptorAgreesWrong : ChangeSpec := { name := "acceptorAgrees", fn := fun _ => fun
  | [d1, d2] => { results := [.lit (.bool false)], args := [d1, d2] }
  | _ => none }
def AcceptorAgreesWrongFalsely : Prop := acceptorAgreesRow.holds Try.pinned (OpenSpec.ofChange acceptorAgreesWrong)

/-- 'windroselaw12.SamplesPuts': WHATEVER THE INPUT: true; the input reads as it did. -/
def samplesPutsSpec : ChangeSpec := { name := "samplesPuts", fn := fun _ => fun
  | [d1, d2] => { results := [.lit (.bool true)], args := [d1, d2] }
  | _ => none }
def samplesPutsRow : OpenClaim := { program := "ytilgmccdpddeoaa", sum := "3588356f5c1750391160fc3c8d29e75468719ed97b9f583a2db8c0d7f1a5690d", func := "windrose/windroselaw12.SamplesPuts", spec := "samplesPuts", inPlace := ["slices.overlaps[windrose/api.Sample]"], unfollowed := true, recurses := true, plainKeys := false, apart := false }
def SamplesPutsSaid : Prop := samplesPutsRow.holds Try.pinned (OpenSpec.ofChange samplesPutsSpec)

/-- ITS FALSE NEIGHBOUR: 'it returns false'. Refute it at one input. -/
def samplesPutsWrong : ChangeSpec := { name := "samplesPuts", fn := fun _ => fun
  | [d1, d2] => { results := [.lit (.bool false)], args := [d1, d2] }
  | _ => none }
def SamplesPutsWrongFalsely : Prop := samplesPutsRow.holds Try.pinned (OpenSpec.ofChange samplesPutsWrong)

/-- 'windroselaw12.SamplesOrders': WHATEVER THE INPUT: true; the input reads as it did. -/
def samplesOrdersSpec : ChangeSpec := { name := "samplesOrders", fn := fun _ => fun
  | [d1, d2] => { results := [.lit (.bool true)], args := [d1, d2] }
  | _ => none }
def samplesOrdersRow : OpenClaim := { program := "ytilgmccdpddeoaa", sum := "3588356f5c1750391160fc3c8d29e75468719ed97b9f583a2db8c0d7f1a5690d", func := "windrose/windroselaw12.SamplesOrders", spec := "samplesOrders", inPlace := ["slices.overlaps[windrose/api.Sample]"], unfollowed := true, recurses := true, plainKeys := false, apart := false }
def SamplesOrdersSaid : Prop := samplesOrdersRow.holds Try.pinned (OpenSpec.ofChange samplesOrdersSpec)

/-- ITS FALSE NEIGHBOUR: 'it returns false'. Refute it at one input. -/
def samplesOrdersWrong : ChangeSpec := { name := "samplesOrders", fn := fun _ => fun
  | [d1, d2] => { results := [.lit (.bool false)], args := [d1, d2] }
  | _ => none }
def SamplesOrdersWrongFalsely : Prop := samplesOrdersRow.holds Try.pinned (OpenSpec.ofChange samplesOrdersWrong)

/-- 'windroselaw12.SamplesReads': WHATEVER THE INPUT: true; the input reads as it did. -/
def samplesReadsSpec : ChangeSpec := { name := "samplesReads", fn := fun _ => fun
  | [d1, d2, d3] => { results := [.lit (.bool true)], args := [d1, d2, d3] }
  | _ => none }
def samplesReadsRow : OpenClaim := { program := "ytilgmccdpddeoaa", sum := "3588356f5c1750391160fc3c8d29e75468719ed97b9f583a2db8c0d7f1a5690d", func := "windrose/windroselaw12.SamplesReads", spec := "samplesReads", inPlace := ["slices.overlaps[windrose/api.Sample]"], unfollowed := true, recurses := true, plainKeys := false, apart := false }
def SamplesReadsSaid : Prop := samplesReadsRow.holds Try.pinned (OpenSpec.ofChange samplesReadsSpec)

/-- ITS FALSE NEIGHBOUR: 'it returns false'. Refute it at one input. -/
def samplesReadsWrong : ChangeSpec := { name := "samplesReads", fn := fun _ => fun
  | [d1, d2, d3] => { results := [.lit (.bool false)], args := [d1, d2, d3] }
  | _ => none }
def SamplesReadsWrongFalsely : Prop := samplesReadsRow.holds Try.pinned (OpenSpec.ofChange samplesReadsWrong)

/-- 'windroselaw05.DrawOrders': WHATEVER THE INPUT: true; the input reads as it did. -/
def drawOrdersSpec : ChangeSpec := { name := "drawOrders", fn := fun _ => fun
  | [d1, d2] => { results := [.lit (.bool true)], args := [d1, d2] }
  | _ => none }
def drawOrdersRow : OpenClaim := { program := "ytilgmccdpddeoaa", sum := "3588356f5c1750391160fc3c8d29e75468719ed97b9f583a2db8c0d7f1a5690d", func := "windrose/windroselaw05.DrawOrders", spec := "drawOrders", unfollowed := true, recurses := true, plainKeys := false, apart := false }
def DrawOrdersSaid : Prop := drawOrdersRow.holds Try.pinned (OpenSpec.ofChange drawOrdersSpec)

/-- ITS FALSE NEIGHBOUR: 'it returns false'. Refute it at one input. -/
def drawOrdersWrong : ChangeSpec := { name := "drawOrders", fn := fun _ => fun
  | [d1, d2] => { results := [.lit (.bool false)], args := [d1, d2] }
  | _ => none }
def DrawOrdersWrongFalsely : Prop := drawOrdersRow.holds Try.pinned (OpenSpec.ofChange drawOrdersWrong)

/-- 'windroselaw05.DrawMoves': WHATEVER THE INPUT: true; the input reads as it did. -/
def drawMovesSpec : ChangeSpec := { name := "drawMoves", fn := fun _ => fun
  | [d1, d2, d3] => { results := [.lit (.bool true)], args := [d1, d2, d3] }
  | _ => none }
def drawMovesRow : OpenClaim := { program := "ytilgmccdpddeoaa", sum := "3588356f5c1750391160fc3c8d29e75468719ed97b9f583a2db8c0d7f1a5690d", func := "windrose/windroselaw05.DrawMoves", spec := "drawMoves", unfollowed := true, recurses := true, plainKeys := false, apart := false }
def DrawMovesSaid : Prop := drawMovesRow.holds Try.pinned (OpenSpec.ofChange drawMovesSpec)

/-- ITS FALSE NEIGHBOUR: 'it returns false'. Refute it at one input. -/
def drawMovesWrong : ChangeSpec := { name := "drawMoves", fn := fun _ => fun
  | [d1, d2, d3] => { results := [.lit (.bool false)], args := [d1, d2, d3] }
  | _ => none }
def DrawMovesWrongFalsely : Prop := drawMovesRow.holds Try.pinned (OpenSpec.ofChange drawMovesWrong)

/-- 'windroselaw05.DrawEach': WHATEVER THE INPUT: true; the input reads as it did. -/
def drawEachSpec : ChangeSpec := { name := "drawEach", fn := fun _ => fun
  | [d1, d2] => { results := [.lit (.bool true)], args := [d1, d2] }
  | _ => none }
def drawEachRow : OpenClaim := { program := "ytilgmccdpddeoaa", sum := "3588356f5c1750391160fc3c8d29e75468719ed97b9f583a2db8c0d7f1a5690d", func := "windrose/windroselaw05.DrawEach", spec := "drawEach", unfollowed := true, recurses := true, plainKeys := false, apart := false }
def DrawEachSaid : Prop := drawEachRow.holds Try.pinned (OpenSpec.ofChange drawEachSpec)

/-- ITS FALSE NEIGHBOUR: 'it returns false'. Refute it at one input. -/
def drawEachWrong : ChangeSpec := { name := "drawEach", fn := fun _ => fun
  | [d1, d2] => { results := [.lit (.bool false)], args := [d1, d2] }
  | _ => none }
def DrawEachWrongFalsely : Prop := drawEachRow.holds Try.pinned (OpenSpec.ofChange drawEachWrong)

/-- 'windroselaw05.DrawCosts': WHATEVER THE INPUT: true; the input reads as it did. -/
def drawCostsSpec : ChangeSpec := { name := "drawCosts", fn := fun _ => fun
  | [d1, d2, d3] => { results := [.lit (.bool true)], args := [d1, d2, d3] }
  | _ => none }
def drawCostsRow : OpenClaim := { program := "ytilgmccdpddeoaa", sum := "3588356f5c1750391160fc3c8d29e75468719ed97b9f583a2db8c0d7f1a5690d", func := "windrose/windroselaw05.DrawCosts", spec := "drawCosts", unfollowed := true, recurses := true, plainKeys := false, apart := false }
def DrawCostsSaid : Prop := drawCostsRow.holds Try.pinned (OpenSpec.ofChange drawCostsSpec)

/-- ITS FALSE NEIGHBOUR: 'it returns false'. Refute it at one input. -/
def drawCostsWrong : ChangeSpec := { name := "drawCosts", fn := fun _ => fun
  | [d1, d2, d3] => { results := [.lit (.bool false)], args := [d1, d2, d3] }
  | _ => none }
def DrawCostsWrongFalsely : Prop := drawCostsRow.holds Try.pinned (OpenSpec.ofChange drawCostsWrong)

/-- 'windroselaw12.SamplesMerge': WHATEVER THE INPUT: true; the input reads as it did. -/
def samplesMergeSpec : ChangeSpec := { name := "samplesMerge", fn := fun _ => fun
  | [d1, d2] => { results := [.lit (.bool true)], args := [d1, d2] }
  | _ => none }
def samplesMergeRow : OpenClaim := { program := "ytilgmccdpddeoaa", sum := "3588356f5c1750391160fc3c8d29e75468719ed97b9f583a2db8c0d7f1a5690d", func := "windrose/windroselaw12.SamplesMerge", spec := "samplesMerge", inPlace := ["slices.overlaps[windrose/api.Sample]"], unfollowed := true, recurses := true, plainKeys := false, apart := false }
def SamplesMergeSaid : Prop := samplesMergeRow.holds Try.pinned (OpenSpec.ofChange samplesMergeSpec)

/-- ITS FALSE NEIGHBOUR: 'it returns false'. Refute it at one input. -/
def samplesMergeWrong : ChangeSpec := { name := "samplesMerge", fn := fun _ => fun
  | [d1, d2] => { results := [.lit (.bool false)], args := [d1, d2] }
  | _ => none }
def SamplesMergeWrongFalsely : Prop := samplesMergeRow.holds Try.pinned (OpenSpec.ofChange samplesMergeWrong)

/-- 'windroselaw07.PlaceRules': WHATEVER THE INPUT: true; the input reads as it did. -/
def placeRulesSpec : ChangeSpec := { name := "placeRules", fn := fun _ => fun
  | [d1, d2] => { results := [.lit (.bool true)], args := [d1, d2] }
  | _ => none }
def placeRulesRow : OpenClaim := { program := "ytilgmccdpddeoaa", sum := "3588356f5c1750391160fc3c8d29e75468719ed97b9f583a2db8c0d7f1a5690d", func := "windrose/windroselaw07.PlaceRules", spec := "placeRules", inPlace := ["slices.overlaps[windrose/api.Choice]"], unfollowed := true, recurses := true, plainKeys := false, apart := false }
def PlaceRulesSaid : Prop := placeRulesRow.holds Try.pinned (OpenSpec.ofChange placeRulesSpec)

/-- ITS FALSE NEIGHBOUR: 'it returns false'. Refute it at one input. -/
def placeRulesWrong : ChangeSpec := { name := "placeRules", fn := fun _ => fun
  | [d1, d2] => { results := [.lit (.bool false)], args := [d1, d2] }
  | _ => none }
def PlaceRulesWrongFalsely : Prop := placeRulesRow.holds Try.pinned (OpenSpec.ofChange placeRulesWrong)

/-- 'windroselaw07.PlaceRuns': WHATEVER THE INPUT: true; the input reads as it did. -/
def placeRunsSpec : ChangeSpec := { name := "placeRuns", fn := fun _ => fun
  | [d1, d2, d3] => { results := [.lit (.bool true)], args := [d1, d2, d3] }
  | _ => none }
def placeRunsRow : OpenClaim := { program := "ytilgmccdpddeoaa", sum := "3588356f5c1750391160fc3c8d29e75468719ed97b9f583a2db8c0d7f1a5690d", func := "windrose/windroselaw07.PlaceRuns", spec := "placeRuns", inPlace := ["slices.overlaps[windrose/api.Choice]"], unfollowed := true, recurses := true, plainKeys := false, apart := false }
def PlaceRunsSaid : Prop := placeRunsRow.holds Try.pinned (OpenSpec.ofChange placeRunsSpec)

/-- ITS FALSE NEIGHBOUR: 'it returns false'. Refute it at one input. -/
def placeRunsWrong : ChangeSpec := { name := "placeRuns", fn := fun _ => fun
  | [d1, d2, d3] => { results := [.lit (.bool false)], args := [d1, d2, d3] }
  | _ => none }
def PlaceRunsWrongFalsely : Prop := placeRunsRow.holds Try.pinned (OpenSpec.ofChange placeRunsWrong)

/-- 'windroselaw07.PlaceZones': WHATEVER THE INPUT: true; the input reads as it did. -/
def placeZonesSpec : ChangeSpec := { name := "placeZones", fn := fun _ => fun
  | [d1, d2, d3] => { results := [.lit (.bool true)], args := [d1, d2, d3] }
  | _ => none }
def placeZonesRow : OpenClaim := { program := "ytilgmccdpddeoaa", sum := "3588356f5c1750391160fc3c8d29e75468719ed97b9f583a2db8c0d7f1a5690d", func := "windrose/windroselaw07.PlaceZones", spec := "placeZones", inPlace := ["slices.overlaps[windrose/api.Choice]"], unfollowed := true, recurses := true, plainKeys := false, apart := false }
def PlaceZonesSaid : Prop := placeZonesRow.holds Try.pinned (OpenSpec.ofChange placeZonesSpec)

/-- ITS FALSE NEIGHBOUR: 'it returns false'. Refute it at one input. -/
def placeZonesWrong : ChangeSpec := { name := "placeZones", fn := fun _ => fun
  | [d1, d2, d3] => { results := [.lit (.bool false)], args := [d1, d2, d3] }
  | _ => none }
def PlaceZonesWrongFalsely : Prop := placeZonesRow.holds Try.pinned (OpenSpec.ofChange placeZonesWrong)

/-- 'windroselaw07.PlaceMoves': WHATEVER THE INPUT: true; the input reads as it did. -/
def placeMovesSpec : ChangeSpec := { name := "placeMoves", fn := fun _ => fun
  | [d1, d2, d3] => { results := [.lit (.bool true)], args := [d1, d2, d3] }
  | _ => none }
def placeMovesRow : OpenClaim := { program := "ytilgmccdpddeoaa", sum := "3588356f5c1750391160fc3c8d29e75468719ed97b9f583a2db8c0d7f1a5690d", func := "windrose/windroselaw07.PlaceMoves", spec := "placeMoves", inPlace := ["slices.overlaps[windrose/api.Choice]"], unfollowed := true, recurses := true, plainKeys := false, apart := false }
def PlaceMovesSaid : Prop := placeMovesRow.holds Try.pinned (OpenSpec.ofChange placeMovesSpec)

/-- ITS FALSE NEIGHBOUR: 'it returns false'. Refute it at one input. -/
def placeMovesWrong : ChangeSpec := { name := "placeMoves", fn := fun _ => fun
  | [d1, d2, d3] => { results := [.lit (.bool false)], args := [d1, d2, d3] }
  | _ => none }
def PlaceMovesWrongFalsely : Prop := placeMovesRow.holds Try.pinned (OpenSpec.ofChange placeMovesWrong)

/- THE SECOND FORM. 'bulk': how many values and letters a reading holds, each counted each time it is reached (what is shared counts as often as it is met; a slice's spare places count too). A statement '..UptoSaid' is the law's where the arguments, and the package variables that the reading takes, are together of bulk at most 1048576: NARROWER than '..Said'. Prove '..Said' where nothing that the law and all that it calls make is longer than what came in: it says more and counts as full. Else prove '..UptoSaid'. A law counts once. -/
mutual
def uptoBulk {H : Type} : DataW H → Nat
  | .lit (.string bytes) => bytes.length + 1
  | .lit _ => 1
  | .nil => 1
  | .ptr d => uptoBulk d + 1
  | .slice elems spare => uptoBulkAll elems + uptoBulkAll spare + 1
  | .agg parts => uptoBulkAll parts + 1
  | .iface _ d => uptoBulk d + 1
  | .map entries => uptoBulkEntries entries + 1
  | .held _ => 1
def uptoBulkAll {H : Type} : List (DataW H) → Nat
  | [] => 0
  | d :: r => uptoBulk d + uptoBulkAll r
def uptoBulkEntries {H : Type} : List (Lit × DataW H) → Nat
  | [] => 0
  | x :: r => uptoBulkEntry x + uptoBulkEntries r
def uptoBulkEntry {H : Type} : Lit × DataW H → Nat
  | (.string bytes, d) => bytes.length + uptoBulk d + 1
  | (_, d) => uptoBulk d + 1
 end
def uptoSmall : (H : Type) → List (DataW H) → Bool := fun _ ds => decide (uptoBulkAll ds ≤ 1048576)
def OpenSpec.upto (s : _root_.Go.ChangeSpec) : _root_.Go.OpenSpec := { _root_.Go.OpenSpec.ofChange s with cond := some uptoSmall }

/-- 'windroselaw16.AcceptorTurns', WHERE WHAT IT READS IS OF BULK AT MOST 1048576: true; the input reads as it did. -/
def acceptorTurnsUptoRow : OpenClaim := { program := "ytilgmccdpddeoaa", sum := "3588356f5c1750391160fc3c8d29e75468719ed97b9f583a2db8c0d7f1a5690d", func := "windrose/windroselaw16.AcceptorTurns", spec := "acceptorTurns", unfollowed := true, recurses := true, plainKeys := false, apart := false, narrowed := true }
def AcceptorTurnsUptoSaid : Prop := acceptorTurnsUptoRow.holds Try.pinned (OpenSpec.upto acceptorTurnsSpec)

/-- 'windroselaw16.AcceptorAgrees', WHERE WHAT IT READS IS OF BULK AT MOST 1048576: true; the input reads as it did. -/
def acceptorAgreesUptoRow : OpenClaim := { program := "ytilgmccdpddeoaa", sum := "3588356f5c1750391160fc3c8d29e75468719ed97b9f583a2db8c0d7f1a5690d", func := "windrose/windroselaw16.AcceptorAgrees", spec := "acceptorAgrees", plainKeys := false, apart := false, narrowed := true }
def AcceptorAgreesUptoSaid : Prop := acceptorAgreesUptoRow.holds Try.pinned (OpenSpec.upto acceptorAgreesSpec)

/-- 'windroselaw12.SamplesPuts', WHERE WHAT IT READS IS OF BULK AT MOST 1048576: true; the input reads as it did. -/
def samplesPutsUptoRow : OpenClaim := { program := "ytilgmccdpddeoaa", sum := "3588356f5c1750391160fc3c8d29e75468719ed97b9f583a2db8c0d7f1a5690d", func := "windrose/windroselaw12.SamplesPuts", spec := "samplesPuts", inPlace := ["slices.overlaps[windrose/api.Sample]"], unfollowed := true, recurses := true, plainKeys := false, apart := false, narrowed := true }
def SamplesPutsUptoSaid : Prop := samplesPutsUptoRow.holds Try.pinned (OpenSpec.upto samplesPutsSpec)

/-- 'windroselaw12.SamplesOrders', WHERE WHAT IT READS IS OF BULK AT MOST 1048576: true; the input reads as it did. -/
def samplesOrdersUptoRow : OpenClaim := { program := "ytilgmccdpddeoaa", sum := "3588356f5c1750391160fc3c8d29e75468719ed97b9f583a2db8c0d7f1a5690d", func := "windrose/windroselaw12.SamplesOrders", spec := "samplesOrders", inPlace := ["slices.overlaps[windrose/api.Sample]"], unfollowed := true, recurses := true, plainKeys := false, apart := false, narrowed := true }
def SamplesOrdersUptoSaid : Prop := samplesOrdersUptoRow.holds Try.pinned (OpenSpec.upto samplesOrdersSpec)

/-- 'windroselaw12.SamplesReads', WHERE WHAT IT READS IS OF BULK AT MOST 1048576: true; the input reads as it did. -/
def samplesReadsUptoRow : OpenClaim := { program := "ytilgmccdpddeoaa", sum := "3588356f5c1750391160fc3c8d29e75468719ed97b9f583a2db8c0d7f1a5690d", func := "windrose/windroselaw12.SamplesReads", spec := "samplesReads", inPlace := ["slices.overlaps[windrose/api.Sample]"], unfollowed := true, recurses := true, plainKeys := false, apart := false, narrowed := true }
def SamplesReadsUptoSaid : Prop := samplesReadsUptoRow.holds Try.pinned (OpenSpec.upto samplesReadsSpec)

/-- 'windroselaw05.DrawOrders', WHERE WHAT IT READS IS OF BULK AT MOST 1048576: true; the input reads as it did. -/
def drawOrdersUptoRow : OpenClaim := { program := "ytilgmccdpddeoaa", sum := "3588356f5c1750391160fc3c8d29e75468719ed97b9f583a2db8c0d7f1a5690d", func := "windrose/windroselaw05.DrawOrders", spec := "drawOrders", unfollowed := true, recurses := true, plainKeys := false, apart := false, narrowed := true }
def DrawOrdersUptoSaid : Prop := drawOrdersUptoRow.holds Try.pinned (OpenSpec.upto drawOrdersSpec)

/-- 'windroselaw05.DrawMoves', WHERE WHAT IT READS IS OF BULK AT MOST 1048576: true; the input reads as it did. -/
def drawMovesUptoRow : OpenClaim := { program := "ytilgmccdpddeoaa", sum := "3588356f5c1750391160fc3c8d29e75468719ed97b9f583a2db8c0d7f1a5690d", func := "windrose/windroselaw05.DrawMoves", spec := "drawMoves", unfollowed := true, recurses := true, plainKeys := false, apart := false, narrowed := true }
def DrawMovesUptoSaid : Prop := drawMovesUptoRow.holds Try.pinned (OpenSpec.upto drawMovesSpec)

/-- 'windroselaw05.DrawEach', WHERE WHAT IT READS IS OF BULK AT MOST 1048576: true; the input reads as it did. -/
def drawEachUptoRow : OpenClaim := { program := "ytilgmccdpddeoaa", sum := "3588356f5c1750391160fc3c8d29e75468719ed97b9f583a2db8c0d7f1a5690d", func := "windrose/windroselaw05.DrawEach", spec := "drawEach", unfollowed := true, recurses := true, plainKeys := false, apart := false, narrowed := true }
def DrawEachUptoSaid : Prop := drawEachUptoRow.holds Try.pinned (OpenSpec.upto drawEachSpec)

/-- 'windroselaw05.DrawCosts', WHERE WHAT IT READS IS OF BULK AT MOST 1048576: true; the input reads as it did. -/
def drawCostsUptoRow : OpenClaim := { program := "ytilgmccdpddeoaa", sum := "3588356f5c1750391160fc3c8d29e75468719ed97b9f583a2db8c0d7f1a5690d", func := "windrose/windroselaw05.DrawCosts", spec := "drawCosts", unfollowed := true, recurses := true, plainKeys := false, apart := false, narrowed := true }
def DrawCostsUptoSaid : Prop := drawCostsUptoRow.holds Try.pinned (OpenSpec.upto drawCostsSpec)

/-- 'windroselaw12.SamplesMerge', WHERE WHAT IT READS IS OF BULK AT MOST 1048576: true; the input reads as it did. -/
def samplesMergeUptoRow : OpenClaim := { program := "ytilgmccdpddeoaa", sum := "3588356f5c1750391160fc3c8d29e75468719ed97b9f583a2db8c0d7f1a5690d", func := "windrose/windroselaw12.SamplesMerge", spec := "samplesMerge", inPlace := ["slices.overlaps[windrose/api.Sample]"], unfollowed := true, recurses := true, plainKeys := false, apart := false, narrowed := true }
def SamplesMergeUptoSaid : Prop := samplesMergeUptoRow.holds Try.pinned (OpenSpec.upto samplesMergeSpec)

/-- 'windroselaw07.PlaceRules', WHERE WHAT IT READS IS OF BULK AT MOST 1048576: true; the input reads as it did. -/
def placeRulesUptoRow : OpenClaim := { program := "ytilgmccdpddeoaa", sum := "3588356f5c1750391160fc3c8d29e75468719ed97b9f583a2db8c0d7f1a5690d", func := "windrose/windroselaw07.PlaceRules", spec := "placeRules", inPlace := ["slices.overlaps[windrose/api.Choice]"], unfollowed := true, recurses := true, plainKeys := false, apart := false, narrowed := true }
def PlaceRulesUptoSaid : Prop := placeRulesUptoRow.holds Try.pinned (OpenSpec.upto placeRulesSpec)

/-- 'windroselaw07.PlaceRuns', WHERE WHAT IT READS IS OF BULK AT MOST 1048576: true; the input reads as it did. -/
def placeRunsUptoRow : OpenClaim := { program := "ytilgmccdpddeoaa", sum := "3588356f5c1750391160fc3c8d29e75468719ed97b9f583a2db8c0d7f1a5690d", func := "windrose/windroselaw07.PlaceRuns", spec := "placeRuns", inPlace := ["slices.overlaps[windrose/api.Choice]"], unfollowed := true, recurses := true, plainKeys := false, apart := false, narrowed := true }
def PlaceRunsUptoSaid : Prop := placeRunsUptoRow.holds Try.pinned (OpenSpec.upto placeRunsSpec)

/-- 'windroselaw07.PlaceZones', WHERE WHAT IT READS IS OF BULK AT MOST 1048576: true; the input reads as it did. -/
def placeZonesUptoRow : OpenClaim := { program := "ytilgmccdpddeoaa", sum := "3588356f5c1750391160fc3c8d29e75468719ed97b9f583a2db8c0d7f1a5690d", func := "windrose/windroselaw07.PlaceZones", spec := "placeZones", inPlace := ["slices.overlaps[windrose/api.Choice]"], unfollowed := true, recurses := true, plainKeys := false, apart := false, narrowed := true }
def PlaceZonesUptoSaid : Prop := placeZonesUptoRow.holds Try.pinned (OpenSpec.upto placeZonesSpec)

/-- 'windroselaw07.PlaceMoves', WHERE WHAT IT READS IS OF BULK AT MOST 1048576: true; the input reads as it did. -/
def placeMovesUptoRow : OpenClaim := { program := "ytilgmccdpddeoaa", sum := "3588356f5c1750391160fc3c8d29e75468719ed97b9f583a2db8c0d7f1a5690d", func := "windrose/windroselaw07.PlaceMoves", spec := "placeMoves", inPlace := ["slices.overlaps[windrose/api.Choice]"], unfollowed := true, recurses := true, plainKeys := false, apart := false, narrowed := true }
def PlaceMovesUptoSaid : Prop := placeMovesUptoRow.holds Try.pinned (OpenSpec.upto placeMovesSpec)

end Rows
end Go.Proofs.Ytilgmccdpddeoaa
