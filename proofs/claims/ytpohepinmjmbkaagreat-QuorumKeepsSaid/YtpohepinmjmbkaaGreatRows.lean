/-
  No cell of these rows narrows 'for every input' (looked for: loops, veiled, ifaces, maps, wideKeys, modest, calm, conditions, laid).
  DERIVED. THE GIVEN ROWS OF THIS SEAT. 12 by the template 'for every input the law returns true; each argument reads behind the call as it read before'; 0 by the template 'total and deterministic' (their statements: YtpohepinmjmbkaaGreatTotals.lean).
  GIVEN WITH THE SEED: the statements are not yours to turn. If you find one false, say at which input.
  Laid BY PROGRAM, IN A SANDBOX (cutbox-rows.mjs): the forced cells as the released guide's own fill.sh prints them over the translation 375da02e4c39bf0f… (all of the seat's roots in one cut). By AI agents, Wed Nov 11 2026. No macro, syntax, notation, axiom, sorry.
-/
import Derived.Test.YtpohepinmjmbkaaGreatChecked
import GoSem.Claim
import GoSem.ClaimJoined
import GoSem.ClaimMapViews
import Derived.JoinedTies
import Derived.KernelRfl
namespace Go.Proofs.YtpohepinmjmbkaaGreat
/- THE CELL 'sum', in the pinned program and in every row, IS THE sha256 OF THE DUMP (.gsa) THAT YtpohepinmjmbkaaGreatProg.lean LOADS. Nothing in Lean hashes anything: it is a label: what it is worth is what the hold of that sum in a sandbox is worth. -/
noncomputable def Tryz.pinned : Pinned := { name := "ytpohepinmjmbkaagreat", sum := "375da02e4c39bf0fffee1cdeec3ce473b2b3bd922f4b0e95b00051bf2c3ffcef", checked := Tryz.checked }
namespace Rows
def none {H : Type} : Left H := { results := [], args := [] }

/-- 'windroselaw08.MapsNew': WHATEVER THE INPUT: true; the input reads as it did. -/
def mapsNewSpec : ChangeSpec := { name := "mapsNew", fn := fun _ => fun
  | [d1, d2, d3] => { results := [.lit (.bool true)], args := [d1, d2, d3] }
  | _ => none }
def mapsNewRow : OpenClaim := { program := "ytpohepinmjmbkaagreat", sum := "375da02e4c39bf0fffee1cdeec3ce473b2b3bd922f4b0e95b00051bf2c3ffcef", func := "windrose/windroselaw08.MapsNew", spec := "mapsNew", inPlace := ["slices.overlaps[windrose/api.Node]", "slices.overlaps[windrose/api.Temp]", "slices.overlaps[windrose/api.Choice]"], unfollowed := true, recurses := true, apart := false }
def MapsNewSaid : Prop := mapsNewRow.holds Tryz.pinned (OpenSpec.ofChange mapsNewSpec)

/-- ITS FALSE NEIGHBOUR: 'it returns false'. Refute it at one input. -/
def mapsNewWrong : ChangeSpec := { name := "mapsNew", fn := fun _ => fun
  | [d1, d2, d3] => { results := [.lit (.bool false)], args := [d1, d2, d3] }
  | _ => none }
def MapsNewWrongFalsely : Prop := mapsNewRow.holds Tryz.pinned (OpenSpec.ofChange mapsNewWrong)

/-- 'windroselaw08.MapsStands': WHATEVER THE INPUT: true; the input reads as it did. -/
def mapsStandsSpec : ChangeSpec := { name := "mapsStands", fn := fun _ => fun
  | [d1, d2] => { results := [.lit (.bool true)], args := [d1, d2] }
  | _ => none }
def mapsStandsRow : OpenClaim := { program := "ytpohepinmjmbkaagreat", sum := "375da02e4c39bf0fffee1cdeec3ce473b2b3bd922f4b0e95b00051bf2c3ffcef", func := "windrose/windroselaw08.MapsStands", spec := "mapsStands", inPlace := ["slices.overlaps[windrose/api.Node]", "slices.overlaps[windrose/api.Temp]", "slices.overlaps[windrose/api.Choice]"], unfollowed := true, recurses := true, apart := false }
def MapsStandsSaid : Prop := mapsStandsRow.holds Tryz.pinned (OpenSpec.ofChange mapsStandsSpec)

/-- ITS FALSE NEIGHBOUR: 'it returns false'. Refute it at one input. -/
def mapsStandsWrong : ChangeSpec := { name := "mapsStands", fn := fun _ => fun
  | [d1, d2] => { results := [.lit (.bool false)], args := [d1, d2] }
  | _ => none }
def MapsStandsWrongFalsely : Prop := mapsStandsRow.holds Tryz.pinned (OpenSpec.ofChange mapsStandsWrong)

/-- 'windroselaw08.MapsMoves': WHATEVER THE INPUT: true; the input reads as it did. -/
def mapsMovesSpec : ChangeSpec := { name := "mapsMoves", fn := fun _ => fun
  | [d1, d2] => { results := [.lit (.bool true)], args := [d1, d2] }
  | _ => none }
def mapsMovesRow : OpenClaim := { program := "ytpohepinmjmbkaagreat", sum := "375da02e4c39bf0fffee1cdeec3ce473b2b3bd922f4b0e95b00051bf2c3ffcef", func := "windrose/windroselaw08.MapsMoves", spec := "mapsMoves", inPlace := ["slices.overlaps[windrose/api.Node]", "slices.overlaps[windrose/api.Temp]", "slices.overlaps[windrose/api.Choice]"], unfollowed := true, recurses := true, apart := false }
def MapsMovesSaid : Prop := mapsMovesRow.holds Tryz.pinned (OpenSpec.ofChange mapsMovesSpec)

/-- ITS FALSE NEIGHBOUR: 'it returns false'. Refute it at one input. -/
def mapsMovesWrong : ChangeSpec := { name := "mapsMoves", fn := fun _ => fun
  | [d1, d2] => { results := [.lit (.bool false)], args := [d1, d2] }
  | _ => none }
def MapsMovesWrongFalsely : Prop := mapsMovesRow.holds Tryz.pinned (OpenSpec.ofChange mapsMovesWrong)

/-- 'windroselaw08.MapsTrails': WHATEVER THE INPUT: true; the input reads as it did. -/
def mapsTrailsSpec : ChangeSpec := { name := "mapsTrails", fn := fun _ => fun
  | [d1, d2] => { results := [.lit (.bool true)], args := [d1, d2] }
  | _ => none }
def mapsTrailsRow : OpenClaim := { program := "ytpohepinmjmbkaagreat", sum := "375da02e4c39bf0fffee1cdeec3ce473b2b3bd922f4b0e95b00051bf2c3ffcef", func := "windrose/windroselaw08.MapsTrails", spec := "mapsTrails", inPlace := ["slices.overlaps[windrose/api.Node]", "slices.overlaps[windrose/api.Temp]", "slices.overlaps[windrose/api.Choice]"], unfollowed := true, recurses := true, apart := false }
def MapsTrailsSaid : Prop := mapsTrailsRow.holds Tryz.pinned (OpenSpec.ofChange mapsTrailsSpec)

/-- ITS FALSE NEIGHBOUR: 'it returns false'. Refute it at one input. -/
def mapsTrailsWrong : ChangeSpec := { name := "mapsTrails", fn := fun _ => fun
  | [d1, d2] => { results := [.lit (.bool false)], args := [d1, d2] }
  | _ => none }
def MapsTrailsWrongFalsely : Prop := mapsTrailsRow.holds Tryz.pinned (OpenSpec.ofChange mapsTrailsWrong)

/-- 'windroselaw08.MapsFolds': WHATEVER THE INPUT: true; the input reads as it did. -/
def mapsFoldsSpec : ChangeSpec := { name := "mapsFolds", fn := fun _ => fun
  | [d1, d2, d3] => { results := [.lit (.bool true)], args := [d1, d2, d3] }
  | _ => none }
def mapsFoldsRow : OpenClaim := { program := "ytpohepinmjmbkaagreat", sum := "375da02e4c39bf0fffee1cdeec3ce473b2b3bd922f4b0e95b00051bf2c3ffcef", func := "windrose/windroselaw08.MapsFolds", spec := "mapsFolds", inPlace := ["slices.overlaps[windrose/api.Node]", "slices.overlaps[windrose/api.Temp]", "slices.overlaps[windrose/api.Choice]"], unfollowed := true, recurses := true, apart := false }
def MapsFoldsSaid : Prop := mapsFoldsRow.holds Tryz.pinned (OpenSpec.ofChange mapsFoldsSpec)

/-- ITS FALSE NEIGHBOUR: 'it returns false'. Refute it at one input. -/
def mapsFoldsWrong : ChangeSpec := { name := "mapsFolds", fn := fun _ => fun
  | [d1, d2, d3] => { results := [.lit (.bool false)], args := [d1, d2, d3] }
  | _ => none }
def MapsFoldsWrongFalsely : Prop := mapsFoldsRow.holds Tryz.pinned (OpenSpec.ofChange mapsFoldsWrong)

/-- 'windroselaw08.MapsTurns': WHATEVER THE INPUT: true; the input reads as it did. -/
def mapsTurnsSpec : ChangeSpec := { name := "mapsTurns", fn := fun _ => fun
  | [d1, d2] => { results := [.lit (.bool true)], args := [d1, d2] }
  | _ => none }
def mapsTurnsRow : OpenClaim := { program := "ytpohepinmjmbkaagreat", sum := "375da02e4c39bf0fffee1cdeec3ce473b2b3bd922f4b0e95b00051bf2c3ffcef", func := "windrose/windroselaw08.MapsTurns", spec := "mapsTurns", inPlace := ["slices.overlaps[windrose/api.Node]", "slices.overlaps[windrose/api.Temp]", "slices.overlaps[windrose/api.Choice]"], unfollowed := true, recurses := true, apart := false }
def MapsTurnsSaid : Prop := mapsTurnsRow.holds Tryz.pinned (OpenSpec.ofChange mapsTurnsSpec)

/-- ITS FALSE NEIGHBOUR: 'it returns false'. Refute it at one input. -/
def mapsTurnsWrong : ChangeSpec := { name := "mapsTurns", fn := fun _ => fun
  | [d1, d2] => { results := [.lit (.bool false)], args := [d1, d2] }
  | _ => none }
def MapsTurnsWrongFalsely : Prop := mapsTurnsRow.holds Tryz.pinned (OpenSpec.ofChange mapsTurnsWrong)

/-- 'windroselaw27.PastPieces': WHATEVER THE INPUT: true; the input reads as it did. -/
def pastPiecesSpec : ChangeSpec := { name := "pastPieces", fn := fun _ => fun
  | [d1, d2, d3] => { results := [.lit (.bool true)], args := [d1, d2, d3] }
  | _ => none }
def pastPiecesRow : OpenClaim := { program := "ytpohepinmjmbkaagreat", sum := "375da02e4c39bf0fffee1cdeec3ce473b2b3bd922f4b0e95b00051bf2c3ffcef", func := "windrose/windroselaw27.PastPieces", spec := "pastPieces", inPlace := ["slices.overlaps[windrose/api.Node]", "slices.overlaps[windrose/api.Temp]", "slices.overlaps[windrose/api.Choice]"], unfollowed := true, recurses := true, apart := false }
def PastPiecesSaid : Prop := pastPiecesRow.holds Tryz.pinned (OpenSpec.ofChange pastPiecesSpec)

/-- ITS FALSE NEIGHBOUR: 'it returns false'. Refute it at one input. -/
def pastPiecesWrong : ChangeSpec := { name := "pastPieces", fn := fun _ => fun
  | [d1, d2, d3] => { results := [.lit (.bool false)], args := [d1, d2, d3] }
  | _ => none }
def PastPiecesWrongFalsely : Prop := pastPiecesRow.holds Tryz.pinned (OpenSpec.ofChange pastPiecesWrong)

/-- 'windroselaw27.PastJumps': WHATEVER THE INPUT: true; the input reads as it did. -/
def pastJumpsSpec : ChangeSpec := { name := "pastJumps", fn := fun _ => fun
  | [d1, d2, d3] => { results := [.lit (.bool true)], args := [d1, d2, d3] }
  | _ => none }
def pastJumpsRow : OpenClaim := { program := "ytpohepinmjmbkaagreat", sum := "375da02e4c39bf0fffee1cdeec3ce473b2b3bd922f4b0e95b00051bf2c3ffcef", func := "windrose/windroselaw27.PastJumps", spec := "pastJumps", inPlace := ["slices.overlaps[windrose/api.Node]", "slices.overlaps[windrose/api.Temp]", "slices.overlaps[windrose/api.Choice]"], unfollowed := true, recurses := true, apart := false }
def PastJumpsSaid : Prop := pastJumpsRow.holds Tryz.pinned (OpenSpec.ofChange pastJumpsSpec)

/-- ITS FALSE NEIGHBOUR: 'it returns false'. Refute it at one input. -/
def pastJumpsWrong : ChangeSpec := { name := "pastJumps", fn := fun _ => fun
  | [d1, d2, d3] => { results := [.lit (.bool false)], args := [d1, d2, d3] }
  | _ => none }
def PastJumpsWrongFalsely : Prop := pastJumpsRow.holds Tryz.pinned (OpenSpec.ofChange pastJumpsWrong)

/-- 'windroselaw29.QuorumDecides': WHATEVER THE INPUT: true; the input reads as it did. -/
def quorumDecidesSpec : ChangeSpec := { name := "quorumDecides", fn := fun _ => fun
  | [d1, d2, d3] => { results := [.lit (.bool true)], args := [d1, d2, d3] }
  | _ => none }
def quorumDecidesRow : OpenClaim := { program := "ytpohepinmjmbkaagreat", sum := "375da02e4c39bf0fffee1cdeec3ce473b2b3bd922f4b0e95b00051bf2c3ffcef", func := "windrose/windroselaw29.QuorumDecides", spec := "quorumDecides", inPlace := ["slices.overlaps[windrose/api.Node]", "slices.overlaps[windrose/api.Temp]", "slices.overlaps[windrose/api.Choice]"], unfollowed := true, recurses := true, apart := false }
def QuorumDecidesSaid : Prop := quorumDecidesRow.holds Tryz.pinned (OpenSpec.ofChange quorumDecidesSpec)

/-- ITS FALSE NEIGHBOUR: 'it returns false'. Refute it at one input. -/
def quorumDecidesWrong : ChangeSpec := { name := "quorumDecides", fn := fun _ => fun
  | [d1, d2, d3] => { results := [.lit (.bool false)], args := [d1, d2, d3] }
  | _ => none }
def QuorumDecidesWrongFalsely : Prop := quorumDecidesRow.holds Tryz.pinned (OpenSpec.ofChange quorumDecidesWrong)

/-- 'windroselaw29.QuorumKeeps': WHATEVER THE INPUT: true; the input reads as it did. -/
def quorumKeepsSpec : ChangeSpec := { name := "quorumKeeps", fn := fun _ => fun
  | [d1, d2, d3] => { results := [.lit (.bool true)], args := [d1, d2, d3] }
  | _ => none }
def quorumKeepsRow : OpenClaim := { program := "ytpohepinmjmbkaagreat", sum := "375da02e4c39bf0fffee1cdeec3ce473b2b3bd922f4b0e95b00051bf2c3ffcef", func := "windrose/windroselaw29.QuorumKeeps", spec := "quorumKeeps", inPlace := ["slices.overlaps[windrose/api.Node]", "slices.overlaps[windrose/api.Temp]", "slices.overlaps[windrose/api.Choice]"], unfollowed := true, recurses := true, apart := false }
def QuorumKeepsSaid : Prop := quorumKeepsRow.holds Tryz.pinned (OpenSpec.ofChange quorumKeepsSpec)

/-- ITS FALSE NEIGHBOUR: 'it returns false'. Refute it at one input. -/
def quorumKeepsWrong : ChangeSpec := { name := "quorumKeeps", fn := fun _ => fun
  | [d1, d2, d3] => { results := [.lit (.bool false)], args := [d1, d2, d3] }
  | _ => none }
def QuorumKeepsWrongFalsely : Prop := quorumKeepsRow.holds Tryz.pinned (OpenSpec.ofChange quorumKeepsWrong)

/-- 'windroselaw29.QuorumBest': WHATEVER THE INPUT: true; the input reads as it did. -/
def quorumBestSpec : ChangeSpec := { name := "quorumBest", fn := fun _ => fun
  | [d1, d2, d3] => { results := [.lit (.bool true)], args := [d1, d2, d3] }
  | _ => none }
def quorumBestRow : OpenClaim := { program := "ytpohepinmjmbkaagreat", sum := "375da02e4c39bf0fffee1cdeec3ce473b2b3bd922f4b0e95b00051bf2c3ffcef", func := "windrose/windroselaw29.QuorumBest", spec := "quorumBest", inPlace := ["slices.overlaps[windrose/api.Node]", "slices.overlaps[windrose/api.Temp]", "slices.overlaps[windrose/api.Choice]"], unfollowed := true, recurses := true, apart := false }
def QuorumBestSaid : Prop := quorumBestRow.holds Tryz.pinned (OpenSpec.ofChange quorumBestSpec)

/-- ITS FALSE NEIGHBOUR: 'it returns false'. Refute it at one input. -/
def quorumBestWrong : ChangeSpec := { name := "quorumBest", fn := fun _ => fun
  | [d1, d2, d3] => { results := [.lit (.bool false)], args := [d1, d2, d3] }
  | _ => none }
def QuorumBestWrongFalsely : Prop := quorumBestRow.holds Tryz.pinned (OpenSpec.ofChange quorumBestWrong)

/-- 'windroselaw29.QuorumSafe': WHATEVER THE INPUT: true; the input reads as it did. -/
def quorumSafeSpec : ChangeSpec := { name := "quorumSafe", fn := fun _ => fun
  | [d1, d2, d3] => { results := [.lit (.bool true)], args := [d1, d2, d3] }
  | _ => none }
def quorumSafeRow : OpenClaim := { program := "ytpohepinmjmbkaagreat", sum := "375da02e4c39bf0fffee1cdeec3ce473b2b3bd922f4b0e95b00051bf2c3ffcef", func := "windrose/windroselaw29.QuorumSafe", spec := "quorumSafe", inPlace := ["slices.overlaps[windrose/api.Node]", "slices.overlaps[windrose/api.Temp]", "slices.overlaps[windrose/api.Choice]"], unfollowed := true, recurses := true, apart := false }
def QuorumSafeSaid : Prop := quorumSafeRow.holds Tryz.pinned (OpenSpec.ofChange quorumSafeSpec)

/-- ITS FALSE NEIGHBOUR: 'it returns false'. Refute it at one input. -/
def quorumSafeWrong : ChangeSpec := { name := "quorumSafe", fn := fun _ => fun
  | [d1, d2, d3] => { results := [.lit (.bool false)], args := [d1, d2, d3] }
  | _ => none }
def QuorumSafeWrongFalsely : Prop := quorumSafeRow.holds Tryz.pinned (OpenSpec.ofChange quorumSafeWrong)

/- THE SECOND FORM. 'bulk': how many values and letters a reading holds, each counted each time it is reached (what is shared counts as often as it is met; a slice's spare places count too). A statement '..UptoSaid' is the law's where the arguments, and the package variables that the reading takes, are together of bulk at most 1048576: NARROWER than '..Said'. Prove '..Said' where nothing that the law and all that it calls make is longer than what came in: it says more and counts as full. Else prove '..UptoSaid'. A law counts once. -/
mutual
def uptoBulk {H : Type} : DataW H → Nat
  | .lit (.string bytes) => bytes.length + 1
  | .lit _ => 1
  | .nil => 1
  | .ptr d => uptoBulk d + 1
  | .slice elems spare => uptoBulkAll elems + uptoBulkAll spare + 1
  | .agg parts => uptoBulkAll parts + 1
  | .iface _ d => uptoBulk d + 1
  | .map entries => uptoBulkEntries entries + 1
  | .held _ => 1
def uptoBulkAll {H : Type} : List (DataW H) → Nat
  | [] => 0
  | d :: r => uptoBulk d + uptoBulkAll r
def uptoBulkEntries {H : Type} : List (Lit × DataW H) → Nat
  | [] => 0
  | x :: r => uptoBulkEntry x + uptoBulkEntries r
def uptoBulkEntry {H : Type} : Lit × DataW H → Nat
  | (.string bytes, d) => bytes.length + uptoBulk d + 1
  | (_, d) => uptoBulk d + 1
 end
def uptoSmall : (H : Type) → List (DataW H) → Bool := fun _ ds => decide (uptoBulkAll ds ≤ 1048576)
def OpenSpec.upto (s : _root_.Go.ChangeSpec) : _root_.Go.OpenSpec := { _root_.Go.OpenSpec.ofChange s with cond := some uptoSmall }

/-- 'windroselaw08.MapsNew', WHERE WHAT IT READS IS OF BULK AT MOST 1048576: true; the input reads as it did. -/
def mapsNewUptoRow : OpenClaim := { program := "ytpohepinmjmbkaagreat", sum := "375da02e4c39bf0fffee1cdeec3ce473b2b3bd922f4b0e95b00051bf2c3ffcef", func := "windrose/windroselaw08.MapsNew", spec := "mapsNew", inPlace := ["slices.overlaps[windrose/api.Node]", "slices.overlaps[windrose/api.Temp]", "slices.overlaps[windrose/api.Choice]"], unfollowed := true, recurses := true, apart := false, narrowed := true }
def MapsNewUptoSaid : Prop := mapsNewUptoRow.holds Tryz.pinned (OpenSpec.upto mapsNewSpec)

/-- 'windroselaw08.MapsStands', WHERE WHAT IT READS IS OF BULK AT MOST 1048576: true; the input reads as it did. -/
def mapsStandsUptoRow : OpenClaim := { program := "ytpohepinmjmbkaagreat", sum := "375da02e4c39bf0fffee1cdeec3ce473b2b3bd922f4b0e95b00051bf2c3ffcef", func := "windrose/windroselaw08.MapsStands", spec := "mapsStands", inPlace := ["slices.overlaps[windrose/api.Node]", "slices.overlaps[windrose/api.Temp]", "slices.overlaps[windrose/api.Choice]"], unfollowed := true, recurses := true, apart := false, narrowed := true }
def MapsStandsUptoSaid : Prop := mapsStandsUptoRow.holds Tryz.pinned (OpenSpec.upto mapsStandsSpec)

/-- 'windroselaw08.MapsMoves', WHERE WHAT IT READS IS OF BULK AT MOST 1048576: true; the input reads as it did. -/
def mapsMovesUptoRow : OpenClaim := { program := "ytpohepinmjmbkaagreat", sum := "375da02e4c39bf0fffee1cdeec3ce473b2b3bd922f4b0e95b00051bf2c3ffcef", func := "windrose/windroselaw08.MapsMoves", spec := "mapsMoves", inPlace := ["slices.overlaps[windrose/api.Node]", "slices.overlaps[windrose/api.Temp]", "slices.overlaps[windrose/api.Choice]"], unfollowed := true, recurses := true, apart := false, narrowed := true }
def MapsMovesUptoSaid : Prop := mapsMovesUptoRow.holds Tryz.pinned (OpenSpec.upto mapsMovesSpec)

/-- 'windroselaw08.MapsTrails', WHERE WHAT IT READS IS OF BULK AT MOST 1048576: true; the input reads as it did. -/
def mapsTrailsUptoRow : OpenClaim := { program := "ytpohepinmjmbkaagreat", sum := "375da02e4c39bf0fffee1cdeec3ce473b2b3bd922f4b0e95b00051bf2c3ffcef", func := "windrose/windroselaw08.MapsTrails", spec := "mapsTrails", inPlace := ["slices.overlaps[windrose/api.Node]", "slices.overlaps[windrose/api.Temp]", "slices.overlaps[windrose/api.Choice]"], unfollowed := true, recurses := true, apart := false, narrowed := true }
def MapsTrailsUptoSaid : Prop := mapsTrailsUptoRow.holds Tryz.pinned (OpenSpec.upto mapsTrailsSpec)

/-- 'windroselaw08.MapsFolds', WHERE WHAT IT READS IS OF BULK AT MOST 1048576: true; the input reads as it did. -/
def mapsFoldsUptoRow : OpenClaim := { program := "ytpohepinmjmbkaagreat", sum := "375da02e4c39bf0fffee1cdeec3ce473b2b3bd922f4b0e95b00051bf2c3ffcef", func := "windrose/windroselaw08.MapsFolds", spec := "mapsFolds", inPlace := ["slices.overlaps[windrose/api.Node]", "slices.overlaps[windrose/api.Temp]", "slices.overlaps[windrose/api.Choice]"], unfollowed := true, recurses := true, apart := false, narrowed := true }
def MapsFoldsUptoSaid : Prop := mapsFoldsUptoRow.holds Tryz.pinned (OpenSpec.upto mapsFoldsSpec)

/-- 'windroselaw08.MapsTurns', WHERE WHAT IT READS IS OF BULK AT MOST 1048576: true; the input reads as it did. -/
def mapsTurnsUptoRow : OpenClaim := { program := "ytpohepinmjmbkaagreat", sum := "375da02e4c39bf0fffee1cdeec3ce473b2b3bd922f4b0e95b00051bf2c3ffcef", func := "windrose/windroselaw08.MapsTurns", spec := "mapsTurns", inPlace := ["slices.overlaps[windrose/api.Node]", "slices.overlaps[windrose/api.Temp]", "slices.overlaps[windrose/api.Choice]"], unfollowed := true, recurses := true, apart := false, narrowed := true }
def MapsTurnsUptoSaid : Prop := mapsTurnsUptoRow.holds Tryz.pinned (OpenSpec.upto mapsTurnsSpec)

/-- 'windroselaw27.PastPieces', WHERE WHAT IT READS IS OF BULK AT MOST 1048576: true; the input reads as it did. -/
def pastPiecesUptoRow : OpenClaim := { program := "ytpohepinmjmbkaagreat", sum := "375da02e4c39bf0fffee1cdeec3ce473b2b3bd922f4b0e95b00051bf2c3ffcef", func := "windrose/windroselaw27.PastPieces", spec := "pastPieces", inPlace := ["slices.overlaps[windrose/api.Node]", "slices.overlaps[windrose/api.Temp]", "slices.overlaps[windrose/api.Choice]"], unfollowed := true, recurses := true, apart := false, narrowed := true }
def PastPiecesUptoSaid : Prop := pastPiecesUptoRow.holds Tryz.pinned (OpenSpec.upto pastPiecesSpec)

/-- 'windroselaw27.PastJumps', WHERE WHAT IT READS IS OF BULK AT MOST 1048576: true; the input reads as it did. -/
def pastJumpsUptoRow : OpenClaim := { program := "ytpohepinmjmbkaagreat", sum := "375da02e4c39bf0fffee1cdeec3ce473b2b3bd922f4b0e95b00051bf2c3ffcef", func := "windrose/windroselaw27.PastJumps", spec := "pastJumps", inPlace := ["slices.overlaps[windrose/api.Node]", "slices.overlaps[windrose/api.Temp]", "slices.overlaps[windrose/api.Choice]"], unfollowed := true, recurses := true, apart := false, narrowed := true }
def PastJumpsUptoSaid : Prop := pastJumpsUptoRow.holds Tryz.pinned (OpenSpec.upto pastJumpsSpec)

/-- 'windroselaw29.QuorumDecides', WHERE WHAT IT READS IS OF BULK AT MOST 1048576: true; the input reads as it did. -/
def quorumDecidesUptoRow : OpenClaim := { program := "ytpohepinmjmbkaagreat", sum := "375da02e4c39bf0fffee1cdeec3ce473b2b3bd922f4b0e95b00051bf2c3ffcef", func := "windrose/windroselaw29.QuorumDecides", spec := "quorumDecides", inPlace := ["slices.overlaps[windrose/api.Node]", "slices.overlaps[windrose/api.Temp]", "slices.overlaps[windrose/api.Choice]"], unfollowed := true, recurses := true, apart := false, narrowed := true }
def QuorumDecidesUptoSaid : Prop := quorumDecidesUptoRow.holds Tryz.pinned (OpenSpec.upto quorumDecidesSpec)

/-- 'windroselaw29.QuorumKeeps', WHERE WHAT IT READS IS OF BULK AT MOST 1048576: true; the input reads as it did. -/
def quorumKeepsUptoRow : OpenClaim := { program := "ytpohepinmjmbkaagreat", sum := "375da02e4c39bf0fffee1cdeec3ce473b2b3bd922f4b0e95b00051bf2c3ffcef", func := "windrose/windroselaw29.QuorumKeeps", spec := "quorumKeeps", inPlace := ["slices.overlaps[windrose/api.Node]", "slices.overlaps[windrose/api.Temp]", "slices.overlaps[windrose/api.Choice]"], unfollowed := true, recurses := true, apart := false, narrowed := true }
def QuorumKeepsUptoSaid : Prop := quorumKeepsUptoRow.holds Tryz.pinned (OpenSpec.upto quorumKeepsSpec)

/-- 'windroselaw29.QuorumBest', WHERE WHAT IT READS IS OF BULK AT MOST 1048576: true; the input reads as it did. -/
def quorumBestUptoRow : OpenClaim := { program := "ytpohepinmjmbkaagreat", sum := "375da02e4c39bf0fffee1cdeec3ce473b2b3bd922f4b0e95b00051bf2c3ffcef", func := "windrose/windroselaw29.QuorumBest", spec := "quorumBest", inPlace := ["slices.overlaps[windrose/api.Node]", "slices.overlaps[windrose/api.Temp]", "slices.overlaps[windrose/api.Choice]"], unfollowed := true, recurses := true, apart := false, narrowed := true }
def QuorumBestUptoSaid : Prop := quorumBestUptoRow.holds Tryz.pinned (OpenSpec.upto quorumBestSpec)

/-- 'windroselaw29.QuorumSafe', WHERE WHAT IT READS IS OF BULK AT MOST 1048576: true; the input reads as it did. -/
def quorumSafeUptoRow : OpenClaim := { program := "ytpohepinmjmbkaagreat", sum := "375da02e4c39bf0fffee1cdeec3ce473b2b3bd922f4b0e95b00051bf2c3ffcef", func := "windrose/windroselaw29.QuorumSafe", spec := "quorumSafe", inPlace := ["slices.overlaps[windrose/api.Node]", "slices.overlaps[windrose/api.Temp]", "slices.overlaps[windrose/api.Choice]"], unfollowed := true, recurses := true, apart := false, narrowed := true }
def QuorumSafeUptoSaid : Prop := quorumSafeUptoRow.holds Tryz.pinned (OpenSpec.upto quorumSafeSpec)

end Rows
end Go.Proofs.YtpohepinmjmbkaaGreat
