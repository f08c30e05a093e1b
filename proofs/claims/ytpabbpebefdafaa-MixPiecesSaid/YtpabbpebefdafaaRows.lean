/-
  No cell of these rows narrows 'for every input' (looked for: loops, veiled, ifaces, maps, wideKeys, modest, calm, conditions, laid).
  DERIVED. THE GIVEN ROWS OF THIS SEAT. 3 by the template 'for every input the law returns true; each argument reads behind the call as it read before'; 0 by the template 'total and deterministic' (their statements: YtpabbpebefdafaaTotals.lean).
  GIVEN WITH THE SEED: the statements are not yours to turn. If you find one false, say at which input.
  Laid BY PROGRAM, IN A SANDBOX (cutbox-rows.mjs): the forced cells as the released guide's own fill.sh prints them over the translation 4eb91327c480bff9… (all of the seat's roots in one cut). By AI agents, Wed Nov 11 2026. No macro, syntax, notation, axiom, sorry.
-/
import Derived.Test.YtpabbpebefdafaaChecked
import GoSem.Claim
import GoSem.ClaimJoined
import GoSem.ClaimMapViews
import Derived.JoinedTies
import Derived.KernelRfl
namespace Go.Proofs.Ytpabbpebefdafaa
/- THE CELL 'sum', in the pinned program and in every row, IS THE sha256 OF THE DUMP (.gsa) THAT YtpabbpebefdafaaProg.lean LOADS. Nothing in Lean hashes anything: it is a label: what it is worth is what the hold of that sum in a sandbox is worth. -/
noncomputable def Try.pinned : Pinned := { name := "ytpabbpebefdafaa", sum := "4eb91327c480bff927245233f0e52849f3acc0e5fe2768328e8703aa95540cd7", checked := Try.checked }
namespace Rows
def none {H : Type} : Left H := { results := [], args := [] }

/-- 'windroselaw01.MixPieces': WHATEVER THE INPUT: true; the input reads as it did. -/
def mixPiecesSpec : ChangeSpec := { name := "mixPieces", fn := fun _ => fun
  | [d1, d2, d3] => { results := [.lit (.bool true)], args := [d1, d2, d3] }
  | _ => none }
def mixPiecesRow : OpenClaim := { program := "ytpabbpebefdafaa", sum := "4eb91327c480bff927245233f0e52849f3acc0e5fe2768328e8703aa95540cd7", func := "windrose/windroselaw01.MixPieces", spec := "mixPieces", plainKeys := false, apart := false }
def MixPiecesSaid : Prop := mixPiecesRow.holds Try.pinned (OpenSpec.ofChange mixPiecesSpec)

/-- ITS FALSE NEIGHBOUR: 'it returns false'. Refute it at one input. -/
def mixPiecesWrong : ChangeSpec := { name := "mixPieces", fn := fun _ => fun
  | [d1, d2, d3] => { results := [.lit (.bool false)], args := [d1, d2, d3] }
  | _ => none }
def MixPiecesWrongFalsely : Prop := mixPiecesRow.holds Try.pinned (OpenSpec.ofChange mixPiecesWrong)

/-- 'windroselaw16.AcceptorAgrees': WHATEVER THE INPUT: true; the input reads as it did. -/
def acceptorAgreesSpec : ChangeSpec := { name := "acceptorAgrees", fn := fun _ => fun
  | [d1, d2] => { results := [.lit (.bool true)], args := [d1, d2] }
  | _ => none }
def acceptorAgreesRow : OpenClaim := { program := "ytpabbpebefdafaa", sum := "4eb91327c480bff927245233f0e52849f3acc0e5fe2768328e8703aa95540cd7", func := "windrose/windroselaw16.AcceptorAgrees", spec := "acceptorAgrees", plainKeys := false, apart := false }
def AcceptorAgreesSaid : Prop := acceptorAgreesRow.holds Try.pinned (OpenSpec.ofChange acceptorAgreesSpec)

/-- ITS FALSE NEIGHBOUR: 'it returns false'. Refute it at one input. -/
def acceptorAgreesWrong : ChangeSpec := { name := "acceptorAgrees", fn := fun _ => fun
  | [d1, d2] => { results := [.lit (.bool false)], args := [d1, d2] }
  | _ => none }
def AcceptorAgreesWrongFalsely : Prop := acceptorAgreesRow.holds Try.pinned (OpenSpec.ofChange acceptorAgreesWrong)

/-- 'windroselaw27.PastMaps': WHATEVER THE INPUT: true; the input reads as it did. -/
def pastMapsSpec : ChangeSpec := { name := "pastMaps", fn := fun _ => fun
  | [d] => { results := [.lit (.bool true)], args := [d] }
  | _ => none }
def pastMapsRow : OpenClaim := { program := "ytpabbpebefdafaa", sum := "4eb91327c480bff927245233f0e52849f3acc0e5fe2768328e8703aa95540cd7", func := "windrose/windroselaw27.PastMaps", spec := "pastMaps", unfollowed := true, recurses := true, plainKeys := false, apart := false }
def PastMapsSaid : Prop := pastMapsRow.holds Try.pinned (OpenSpec.ofChange pastMapsSpec)

/-- ITS FALSE NEIGHBOUR: 'it returns false'. Refute it at one input. -/
def pastMapsWrong : ChangeSpec := { name := "pastMaps", fn := fun _ => fun
  | [d] => { results := [.lit (.bool false)], args := [d] }
  | _ => none }
def PastMapsWrongFalsely : Prop := pastMapsRow.holds Try.pinned (OpenSpec.ofChange pastMapsWrong)

/- THE SECOND FORM. 'bulk': how many values and letters a reading holds, each counted each time it is reached (what is shared counts as often as it is met; a slice's spare places count too). A statement '..UptoSaid' is the law's where the arguments, and the package variables that the reading takes, are together of bulk at most 1048576: NARROWER than '..Said'. Prove '..Said' where nothing that the law and all that it calls make is longer than what came in: it says more and counts as full. Else prove '..UptoSaid'. A law counts once. -/
mutual
def uptoBulk {H : Type} : DataW H → Nat
  | .lit (.string bytes) => bytes.length + 1
  | .lit _ => 1
  | .nil => 1
  | .ptr d => uptoBulk d + 1
  | .slice elems spare => uptoBulkAll elems + uptoBulkAll spare + 1
  | .agg parts => uptoBulkAll parts + 1
  | .iface _ d => uptoBulk d + 1
  | .map entries => uptoBulkEntries entries + 1
  | .held _ => 1
def uptoBulkAll {H : Type} : List (DataW H) → Nat
  | [] => 0
  | d :: r => uptoBulk d + uptoBulkAll r
def uptoBulkEntries {H : Type} : List (Lit × DataW H) → Nat
  | [] => 0
  | x :: r => uptoBulkEntry x + uptoBulkEntries r
def uptoBulkEntry {H : Type} : Lit × DataW H → Nat
  | (.string bytes, d) => bytes.length + uptoBulk d + 1
  | (_, d) => uptoBulk d + 1
 end
def uptoSmall : (H : Type) → List (DataW H) → Bool := fun _ ds => decide (uptoBulkAll ds ≤ 1048576)
def OpenSpec.upto (s : _root_.Go.ChangeSpec) : _root_.Go.OpenSpec := { _root_.Go.OpenSpec.ofChange s with cond := some uptoSmall }

/-- 'windroselaw01.MixPieces', WHERE WHAT IT READS IS OF BULK AT MOST 1048576: true; the input reads as it did. -/
def mixPiecesUptoRow : OpenClaim := { program := "ytpabbpebefdafaa", sum := "4eb91327c480bff927245233f0e52849f3acc0e5fe2768328e8703aa95540cd7", func := "windrose/windroselaw01.MixPieces", spec := "mixPieces", plainKeys := false, apart := false, narrowed := true }
def MixPiecesUptoSaid : Prop := mixPiecesUptoRow.holds Try.pinned (OpenSpec.upto mixPiecesSpec)

/-- 'windroselaw16.AcceptorAgrees', WHERE WHAT IT READS IS OF BULK AT MOST 1048576: true; the input reads as it did. -/
def acceptorAgreesUptoRow : OpenClaim := { program := "ytpabbpebefdafaa", sum := "4eb91327c480bff927245233f0e52849f3acc0e5fe2768328e8703aa95540cd7", func := "windrose/windroselaw16.AcceptorAgrees", spec := "acceptorAgrees", plainKeys := false, apart := false, narrowed := true }
def AcceptorAgreesUptoSaid : Prop := acceptorAgreesUptoRow.holds Try.pinned (OpenSpec.upto acceptorAgreesSpec)

/-- 'windroselaw27.PastMaps', WHERE WHAT IT READS IS OF BULK AT MOST 1048576: true; the input reads as it did. -/
def pastMapsUptoRow : OpenClaim := { program := "ytpabbpebefdafaa", sum := "4eb91327c480bff927245233f0e52849f3acc0e5fe2768328e8703aa95540cd7", func := "windrose/windroselaw27.PastMaps", spec := "pastMaps", unfollowed := true, recurses := true, plainKeys := false, apart := false, narrowed := true }
def PastMapsUptoSaid : Prop := pastMapsUptoRow.holds Try.pinned (OpenSpec.upto pastMapsSpec)

end Rows
end Go.Proofs.Ytpabbpebefdafaa
