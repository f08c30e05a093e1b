/-
  No cell of these rows narrows 'for every input' (looked for: loops, veiled, ifaces, maps, wideKeys, modest, calm, conditions, laid).
  DERIVED. THE GIVEN ROWS OF THIS SEAT. 9 by the template 'for every input the law returns true; each argument reads behind the call as it read before'; 0 by the template 'total and deterministic' (their statements: YtihjknnhbgkinaaTotals.lean).
  GIVEN WITH THE SEED: the statements are not yours to turn. If you find one false, say at which input.
  Laid BY PROGRAM, IN A SANDBOX (cutbox-rows.mjs): the forced cells as the released guide's own fill.sh prints them over the translation d5d44d31d0f2247c… (all of the seat's roots in one cut). By AI agents, Wed Nov 11 2026. No macro, syntax, notation, axiom, sorry.
-/
import Derived.Test.YtihjknnhbgkinaaChecked
import GoSem.Claim
import GoSem.ClaimJoined
import GoSem.ClaimMapViews
import Derived.JoinedTies
import Derived.KernelRfl
namespace Go.Proofs.Ytihjknnhbgkinaa
/- THE CELL 'sum', in the pinned program and in every row, IS THE sha256 OF THE DUMP (.gsa) THAT YtihjknnhbgkinaaProg.lean LOADS. Nothing in Lean hashes anything: it is a label: what it is worth is what the hold of that sum in a sandbox is worth. -/
noncomputable def Try.pinned : Pinned := { name := "ytihjknnhbgkinaa", sum := "d5d44d31d0f2247c2d546fe865a1b2b12bf85dcc3716766f650b8f0af63d3fda", checked := Try.checked }
namespace Rows
def none {H : Type} : Left H := { results := [], args := [] }

/-- 'windroselaw01.MixPieces': WHATEVER THE INPUT: true; the input reads as it did. -/
def mixPiecesSpec : ChangeSpec := { name := "mixPieces", fn := fun _ => fun
  | [d1, d2, d3] => { results := [.lit (.bool true)], args := [d1, d2, d3] }
  | _ => none }
def mixPiecesRow : OpenClaim := { program := "ytihjknnhbgkinaa", sum := "d5d44d31d0f2247c2d546fe865a1b2b12bf85dcc3716766f650b8f0af63d3fda", func := "windrose/windroselaw01.MixPieces", spec := "mixPieces", plainKeys := false, apart := false }
def MixPiecesSaid : Prop := mixPiecesRow.holds Try.pinned (OpenSpec.ofChange mixPiecesSpec)

/-- ITS FALSE NEIGHBOUR: 'it returns false'. Refute it at one input. -/
def mixPiecesWrong : ChangeSpec := { name := "mixPieces", fn := fun _ => fun
  | [d1, d2, d3] => { results := [.lit (.bool false)], args := [d1, d2, d3] }
  | _ => none }
def MixPiecesWrongFalsely : Prop := mixPiecesRow.holds Try.pinned (OpenSpec.ofChange mixPiecesWrong)

/-- 'windroselaw27.PastDeltas': WHATEVER THE INPUT: true; the input reads as it did. -/
def pastDeltasSpec : ChangeSpec := { name := "pastDeltas", fn := fun _ => fun
  | [d1, d2] => { results := [.lit (.bool true)], args := [d1, d2] }
  | _ => none }
def pastDeltasRow : OpenClaim := { program := "ytihjknnhbgkinaa", sum := "d5d44d31d0f2247c2d546fe865a1b2b12bf85dcc3716766f650b8f0af63d3fda", func := "windrose/windroselaw27.PastDeltas", spec := "pastDeltas", plainKeys := false, apart := false }
def PastDeltasSaid : Prop := pastDeltasRow.holds Try.pinned (OpenSpec.ofChange pastDeltasSpec)

/-- ITS FALSE NEIGHBOUR: 'it returns false'. Refute it at one input. -/
def pastDeltasWrong : ChangeSpec := { name := "pastDeltas", fn := fun _ => fun
  | [d1, d2] => { results := [.lit (.bool false)], args := [d1, d2] }
  | _ => none }
def PastDeltasWrongFalsely : Prop := pastDeltasRow.holds Try.pinned (OpenSpec.ofChange pastDeltasWrong)

/-- 'windroselaw16.AcceptorAgrees': WHATEVER THE INPUT: true; the input reads as it did. -/
def acceptorAgreesSpec : ChangeSpec := { name := "acceptorAgrees", fn := fun _ => fun
  | [d1, d2] => { results := [.lit (.bool true)], args := [d1, d2] }
  | _ => none }
def acceptorAgreesRow : OpenClaim := { program := "ytihjknnhbgkinaa", sum := "d5d44d31d0f2247c2d546fe865a1b2b12bf85dcc3716766f650b8f0af63d3fda", func := "windrose/windroselaw16.AcceptorAgrees", spec := "acceptorAgrees", plainKeys := false, apart := false }
def AcceptorAgreesSaid : Prop := acceptorAgreesRow.holds Try.pinned (OpenSpec.ofChange acceptorAgreesSpec)

/-- ITS FALSE NEIGHBOUR: 'it returns false'. Refute it at one input. -/
def acceptorAgreesWrong : ChangeSpec := { name := "acceptorAgrees", fn := fun _ => fun
  | [d1, d2] => { results := [.lit (.bool false)], args := [d1, d2] }
  | _ => none }
def AcceptorAgreesWrongFalsely : Prop := acceptorAgreesRow.holds Try.pinned (OpenSpec.ofChange acceptorAgreesWrong)

/-- 'windroselaw27.PastReads': WHATEVER THE INPUT: true; the input reads as it did. -/
def pastReadsSpec : ChangeSpec := { name := "pastReads", fn := fun _ => fun
  | [d] => { results := [.lit (.bool true)], args := [d] }
  | _ => none }
def pastReadsRow : OpenClaim := { program := "ytihjknnhbgkinaa", sum := "d5d44d31d0f2247c2d546fe865a1b2b12bf85dcc3716766f650b8f0af63d3fda", func := "windrose/windroselaw27.PastReads", spec := "pastReads", unfollowed := true, recurses := true, plainKeys := false, apart := false }
def PastReadsSaid : Prop := pastReadsRow.holds Try.pinned (OpenSpec.ofChange pastReadsSpec)

/-- ITS FALSE NEIGHBOUR: 'it returns false'. Refute it at one input. -/
def pastReadsWrong : ChangeSpec := { name := "pastReads", fn := fun _ => fun
  | [d] => { results := [.lit (.bool false)], args := [d] }
  | _ => none }
def PastReadsWrongFalsely : Prop := pastReadsRow.holds Try.pinned (OpenSpec.ofChange pastReadsWrong)

/-- 'windroselaw27.PastMaps': WHATEVER THE INPUT: true; the input reads as it did. -/
def pastMapsSpec : ChangeSpec := { name := "pastMaps", fn := fun _ => fun
  | [d] => { results := [.lit (.bool true)], args := [d] }
  | _ => none }
def pastMapsRow : OpenClaim := { program := "ytihjknnhbgkinaa", sum := "d5d44d31d0f2247c2d546fe865a1b2b12bf85dcc3716766f650b8f0af63d3fda", func := "windrose/windroselaw27.PastMaps", spec := "pastMaps", unfollowed := true, recurses := true, plainKeys := false, apart := false }
def PastMapsSaid : Prop := pastMapsRow.holds Try.pinned (OpenSpec.ofChange pastMapsSpec)

/-- ITS FALSE NEIGHBOUR: 'it returns false'. Refute it at one input. -/
def pastMapsWrong : ChangeSpec := { name := "pastMaps", fn := fun _ => fun
  | [d] => { results := [.lit (.bool false)], args := [d] }
  | _ => none }
def PastMapsWrongFalsely : Prop := pastMapsRow.holds Try.pinned (OpenSpec.ofChange pastMapsWrong)

/-- 'windroselaw07.PlaceRules': WHATEVER THE INPUT: true; the input reads as it did. -/
def placeRulesSpec : ChangeSpec := { name := "placeRules", fn := fun _ => fun
  | [d1, d2] => { results := [.lit (.bool true)], args := [d1, d2] }
  | _ => none }
def placeRulesRow : OpenClaim := { program := "ytihjknnhbgkinaa", sum := "d5d44d31d0f2247c2d546fe865a1b2b12bf85dcc3716766f650b8f0af63d3fda", func := "windrose/windroselaw07.PlaceRules", spec := "placeRules", inPlace := ["slices.overlaps[windrose/api.Choice]"], unfollowed := true, recurses := true, plainKeys := false, apart := false }
def PlaceRulesSaid : Prop := placeRulesRow.holds Try.pinned (OpenSpec.ofChange placeRulesSpec)

/-- ITS FALSE NEIGHBOUR: 'it returns false'. Refute it at one input. -/
def placeRulesWrong : ChangeSpec := { name := "placeRules", fn := fun _ => fun
  | [d1, d2] => { results := [.lit (.bool false)], args := [d1, d2] }
  | _ => none }
def PlaceRulesWrongFalsely : Prop := placeRulesRow.holds Try.pinned (OpenSpec.ofChange placeRulesWrong)

/-- 'windroselaw07.PlaceRuns': WHATEVER THE INPUT: true; the input reads as it did. -/
def placeRunsSpec : ChangeSpec := { name := "placeRuns", fn := fun _ => fun
  | [d1, d2, d3] => { results := [.lit (.bool true)], args := [d1, d2, d3] }
  | _ => none }
def placeRunsRow : OpenClaim := { program := "ytihjknnhbgkinaa", sum := "d5d44d31d0f2247c2d546fe865a1b2b12bf85dcc3716766f650b8f0af63d3fda", func := "windrose/windroselaw07.PlaceRuns", spec := "placeRuns", inPlace := ["slices.overlaps[windrose/api.Choice]"], unfollowed := true, recurses := true, plainKeys := false, apart := false }
def PlaceRunsSaid : Prop := placeRunsRow.holds Try.pinned (OpenSpec.ofChange placeRunsSpec)

/-- ITS FALSE NEIGHBOUR: 'it returns false'. Refute it at one input. -/
def placeRunsWrong : ChangeSpec := { name := "placeRuns", fn := fun _ => fun
  | [d1, d2, d3] => { results := [.lit (.bool false)], args := [d1, d2, d3] }
  | _ => none }
def PlaceRunsWrongFalsely : Prop := placeRunsRow.holds Try.pinned (OpenSpec.ofChange placeRunsWrong)

/-- 'windroselaw07.PlaceZones': WHATEVER THE INPUT: true; the input reads as it did. -/
def placeZonesSpec : ChangeSpec := { name := "placeZones", fn := fun _ => fun
  | [d1, d2, d3] => { results := [.lit (.bool true)], args := [d1, d2, d3] }
  | _ => none }
def placeZonesRow : OpenClaim := { program := "ytihjknnhbgkinaa", sum := "d5d44d31d0f2247c2d546fe865a1b2b12bf85dcc3716766f650b8f0af63d3fda", func := "windrose/windroselaw07.PlaceZones", spec := "placeZones", inPlace := ["slices.overlaps[windrose/api.Choice]"], unfollowed := true, recurses := true, plainKeys := false, apart := false }
def PlaceZonesSaid : Prop := placeZonesRow.holds Try.pinned (OpenSpec.ofChange placeZonesSpec)

/-- ITS FALSE NEIGHBOUR: 'it returns false'. Refute it at one input. -/
def placeZonesWrong : ChangeSpec := { name := "placeZones", fn := fun _ => fun
  | [d1, d2, d3] => { results := [.lit (.bool false)], args := [d1, d2, d3] }
  | _ => none }
def PlaceZonesWrongFalsely : Prop := placeZonesRow.holds Try.pinned (OpenSpec.ofChange placeZonesWrong)

/-- 'windroselaw07.PlaceMoves': WHATEVER THE INPUT: true; the input reads as it did. -/
def placeMovesSpec : ChangeSpec := { name := "placeMoves", fn := fun _ => fun
  | [d1, d2, d3] => { results := [.lit (.bool true)], args := [d1, d2, d3] }
  | _ => none }
def placeMovesRow : OpenClaim := { program := "ytihjknnhbgkinaa", sum := "d5d44d31d0f2247c2d546fe865a1b2b12bf85dcc3716766f650b8f0af63d3fda", func := "windrose/windroselaw07.PlaceMoves", spec := "placeMoves", inPlace := ["slices.overlaps[windrose/api.Choice]"], unfollowed := true, recurses := true, plainKeys := false, apart := false }
def PlaceMovesSaid : Prop := placeMovesRow.holds Try.pinned (OpenSpec.ofChange placeMovesSpec)

/-- ITS FALSE NEIGHBOUR: 'it returns false'. Refute it at one input. -/
def placeMovesWrong : ChangeSpec := { name := "placeMoves", fn := fun _ => fun
  | [d1, d2, d3] => { results := [.lit (.bool false)], args := [d1, d2, d3] }
  | _ => none }
def PlaceMovesWrongFalsely : Prop := placeMovesRow.holds Try.pinned (OpenSpec.ofChange placeMovesWrong)

/- THE SECOND FORM. 'bulk': how many values and letters a reading holds, each counted each time it is reached (what is shared counts as often as it is met; a slice's spare places count too). A statement '..UptoSaid' is the law's where the arguments, and the package variables that the reading takes, are together of bulk at most 1048576: NARROWER than '..Said'. Prove '..Said' where nothing that the law and all that it calls make is longer than what came in: it says more and counts as full. Else prove '..UptoSaid'. A law counts once. -/
mutual
def uptoBulk {H : Type} : DataW H → Nat
  | .lit (.string bytes) => bytes.length + 1
  | .lit _ => 1
  | .nil => 1
  | .ptr d => uptoBulk d + 1
  | .slice elems spare => uptoBulkAll elems + uptoBulkAll spare + 1
  | .agg parts => uptoBulkAll parts + 1
  | .iface _ d => uptoBulk d + 1
  | .map entries => uptoBulkEntries entries + 1
  | .held _ => 1
def uptoBulkAll {H : Type} : List (DataW H) → Nat
  | [] => 0
  | d :: r => uptoBulk d + uptoBulkAll r
def uptoBulkEntries {H : Type} : List (Lit × DataW H) → Nat
  | [] => 0
  | x :: r => uptoBulkEntry x + uptoBulkEntries r
def uptoBulkEntry {H : Type} : Lit × DataW H → Nat
  | (.string bytes, d) => bytes.length + uptoBulk d + 1
  | (_, d) => uptoBulk d + 1
 end
def uptoSmall : (H : Type) → List (DataW H) → Bool := fun _ ds => decide (uptoBulkAll ds ≤ 1048576)
def OpenSpec.upto (s : _root_.Go.ChangeSpec) : _root_.Go.OpenSpec := { _root_.Go.OpenSpec.ofChange s with cond := some uptoSmall }

/-- 'windroselaw01.MixPieces', WHERE WHAT IT READS IS OF BULK AT MOST 1048576: true; the input reads as it did. -/
def mixPiecesUptoRow : OpenClaim := { program := "ytihjknnhbgkinaa", sum := "d5d44d31d0f2247c2d546fe865a1b2b12bf85dcc3716766f650b8f0af63d3fda", func := "windrose/windroselaw01.MixPieces", spec := "mixPieces", plainKeys := false, apart := false, narrowed := true }
def MixPiecesUptoSaid : Prop := mixPiecesUptoRow.holds Try.pinned (OpenSpec.upto mixPiecesSpec)

/-- 'windroselaw27.PastDeltas', WHERE WHAT IT READS IS OF BULK AT MOST 1048576: true; the input reads as it did. -/
def pastDeltasUptoRow : OpenClaim := { program := "ytihjknnhbgkinaa", sum := "d5d44d31d0f2247c2d546fe865a1b2b12bf85dcc3716766f650b8f0af63d3fda", func := "windrose/windroselaw27.PastDeltas", spec := "pastDeltas", plainKeys := false, apart := false, narrowed := true }
def PastDeltasUptoSaid : Prop := pastDeltasUptoRow.holds Try.pinned (OpenSpec.upto pastDeltasSpec)

/-- 'windroselaw16.AcceptorAgrees', WHERE WHAT IT READS IS OF BULK AT MOST 1048576: true; the input reads as it did. -/
def acceptorAgreesUptoRow : OpenClaim := { program := "ytihjknnhbgkinaa", sum := "d5d44d31d0f2247c2d546fe865a1b2b12bf85dcc3716766f650b8f0af63d3fda", func := "windrose/windroselaw16.AcceptorAgrees", spec := "acceptorAgrees", plainKeys := false, apart := false, narrowed := true }
def AcceptorAgreesUptoSaid : Prop := acceptorAgreesUptoRow.holds Try.pinned (OpenSpec.upto acceptorAgreesSpec)

/-- 'windroselaw27.PastReads', WHERE WHAT IT READS IS OF BULK AT MOST 1048576: true; the input reads as it did. -/
def pastReadsUptoRow : OpenClaim := { program := "ytihjknnhbgkinaa", sum := "d5d44d31d0f2247c2d546fe865a1b2b12bf85dcc3716766f650b8f0af63d3fda", func := "windrose/windroselaw27.PastReads", spec := "pastReads", unfollowed := true, recurses := true, plainKeys := false, apart := false, narrowed := true }
def PastReadsUptoSaid : Prop := pastReadsUptoRow.holds Try.pinned (OpenSpec.upto pastReadsSpec)

/-- 'windroselaw27.PastMaps', WHERE WHAT IT READS IS OF BULK AT MOST 1048576: true; the input reads as it did. -/
def pastMapsUptoRow : OpenClaim := { program := "ytihjknnhbgkinaa", sum := "d5d44d31d0f2247c2d546fe865a1b2b12bf85dcc3716766f650b8f0af63d3fda", func := "windrose/windroselaw27.PastMaps", spec := "pastMaps", unfollowed := true, recurses := true, plainKeys := false, apart := false, narrowed := true }
def PastMapsUptoSaid : Prop := pastMapsUptoRow.holds Try.pinned (OpenSpec.upto pastMapsSpec)

/-- 'windroselaw07.PlaceRules', WHERE WHAT IT READS IS OF BULK AT MOST 1048576: true; the input reads as it did. -/
def placeRulesUptoRow : OpenClaim := { program := "ytihjknnhbgkinaa", sum := "d5d44d31d0f2247c2d546fe865a1b2b12bf85dcc3716766f650b8f0af63d3fda", func := "windrose/windroselaw07.PlaceRules", spec := "placeRules", inPlace := ["slices.overlaps[windrose/api.Choice]"], unfollowed := true, recurses := true, plainKeys := false, apart := false, narrowed := true }
def PlaceRulesUptoSaid : Prop := placeRulesUptoRow.holds Try.pinned (OpenSpec.upto placeRulesSpec)

/-- 'windroselaw07.PlaceRuns', WHERE WHAT IT READS IS OF BULK AT MOST 1048576: true; the input reads as it did. -/
def placeRunsUptoRow : OpenClaim := { program := "ytihjknnhbgkinaa", sum := "d5d44d31d0f2247c2d546fe865a1b2b12bf85dcc3716766f650b8f0af63d3fda", func := "windrose/windroselaw07.PlaceRuns", spec := "placeRuns", inPlace := ["slices.overlaps[windrose/api.Choice]"], unfollowed := true, recurses := true, plainKeys := false, apart := false, narrowed := true }
def PlaceRunsUptoSaid : Prop := placeRunsUptoRow.holds Try.pinned (OpenSpec.upto placeRunsSpec)

/-- 'windroselaw07.PlaceZones', WHERE WHAT IT READS IS OF BULK AT MOST 1048576: true; the input reads as it did. -/
def placeZonesUptoRow : OpenClaim := { program := "ytihjknnhbgkinaa", sum := "d5d44d31d0f2247c2d546fe865a1b2b12bf85dcc3716766f650b8f0af63d3fda", func := "windrose/windroselaw07.PlaceZones", spec := "placeZones", inPlace := ["slices.overlaps[windrose/api.Choice]"], unfollowed := true, recurses := true, plainKeys := false, apart := false, narrowed := true }
def PlaceZonesUptoSaid : Prop := placeZonesUptoRow.holds Try.pinned (OpenSpec.upto placeZonesSpec)

/-- 'windroselaw07.PlaceMoves', WHERE WHAT IT READS IS OF BULK AT MOST 1048576: true; the input reads as it did. -/
def placeMovesUptoRow : OpenClaim := { program := "ytihjknnhbgkinaa", sum := "d5d44d31d0f2247c2d546fe865a1b2b12bf85dcc3716766f650b8f0af63d3fda", func := "windrose/windroselaw07.PlaceMoves", spec := "placeMoves", inPlace := ["slices.overlaps[windrose/api.Choice]"], unfollowed := true, recurses := true, plainKeys := false, apart := false, narrowed := true }
def PlaceMovesUptoSaid : Prop := placeMovesUptoRow.holds Try.pinned (OpenSpec.upto placeMovesSpec)

end Rows
end Go.Proofs.Ytihjknnhbgkinaa
