/-
  No cell of these rows narrows 'for every input' (looked for: loops, veiled, ifaces, maps, wideKeys, modest, calm, conditions, laid).
  DERIVED. THE GIVEN ROWS OF THIS SEAT. 9 by the template 'for every input the law returns true; each argument reads behind the call as it read before'; 0 by the template 'total and deterministic' (their statements: YtmcnllnfnlgpnaaTotals.lean).
  GIVEN WITH THE SEED: the statements are not yours to turn. If you find one false, say at which input.
  Laid BY PROGRAM, IN A SANDBOX (cutbox-rows.mjs): the forced cells as the released guide's own fill.sh prints them over the translation 7b12b593c343ae47… (all of the seat's roots in one cut). By AI agents, Wed Nov 11 2026. No macro, syntax, notation, axiom, sorry.
-/
import Derived.Test.YtmcnllnfnlgpnaaChecked
import GoSem.Claim
import GoSem.ClaimJoined
import GoSem.ClaimMapViews
import Derived.JoinedTies
import Derived.KernelRfl
namespace Go.Proofs.Ytmcnllnfnlgpnaa
/- THE CELL 'sum', in the pinned program and in every row, IS THE sha256 OF THE DUMP (.gsa) THAT YtmcnllnfnlgpnaaProg.lean LOADS. Nothing in Lean hashes anything: it is a label: what it is worth is what the hold of that sum in a sandbox is worth. -/
noncomputable def Try.pinned : Pinned := { name := "ytmcnllnfnlgpnaa", sum := "7b12b593c343ae47c49745da6423e37f80910b0606af423e81e029519ed33f54", checked := Try.checked }
namespace Rows
def none {H : Type} : Left H := { results := [], args := [] }

/-- 'windroselaw01.MixBelow': WHATEVER THE INPUT: true; the input reads as it did. -/
def mixBelowSpec : ChangeSpec := { name := "mixBelow", fn := fun _ => fun
  | [d1, d2] => { results := [.lit (.bool true)], args := [d1, d2] }
  | _ => none }
def mixBelowRow : OpenClaim := { program := "ytmcnllnfnlgpnaa", sum := "7b12b593c343ae47c49745da6423e37f80910b0606af423e81e029519ed33f54", func := "windrose/windroselaw01.MixBelow", spec := "mixBelow", apart := false }
def MixBelowSaid : Prop := mixBelowRow.holds Try.pinned (OpenSpec.ofChange mixBelowSpec)

/-- ITS FALSE NEIGHBOUR: 'it returns false'. Refute it at one input. -/
def mixBelowWrong : ChangeSpec := { name := "mixBelow", fn := fun _ => fun
  | [d1, d2] => { results := [.lit (.bool false)], args := [d1, d2] }
  | _ => none }
def MixBelowWrongFalsely : Prop := mixBelowRow.holds Try.pinned (OpenSpec.ofChange mixBelowWrong)

/-- 'windroselaw04.NeglogCosts': WHATEVER THE INPUT: true; the input reads as it did. -/
def neglogCostsSpec : ChangeSpec := { name := "neglogCosts", fn := fun _ => fun
  | [d] => { results := [.lit (.bool true)], args := [d] }
  | _ => none }
def neglogCostsRow : OpenClaim := { program := "ytmcnllnfnlgpnaa", sum := "7b12b593c343ae47c49745da6423e37f80910b0606af423e81e029519ed33f54", func := "windrose/windroselaw04.NeglogCosts", spec := "neglogCosts", recurses := true, apart := false }
def NeglogCostsSaid : Prop := neglogCostsRow.holds Try.pinned (OpenSpec.ofChange neglogCostsSpec)

/-- ITS FALSE NEIGHBOUR: 'it returns false'. Refute it at one input. -/
def neglogCostsWrong : ChangeSpec := { name := "neglogCosts", fn := fun _ => fun
  | [d] => { results := [.lit (.bool false)], args := [d] }
  | _ => none }
def NeglogCostsWrongFalsely : Prop := neglogCostsRow.holds Try.pinned (OpenSpec.ofChange neglogCostsWrong)

/-- 'windroselaw04.NeglogFalls': WHATEVER THE INPUT: true; the input reads as it did. -/
def neglogFallsSpec : ChangeSpec := { name := "neglogFalls", fn := fun _ => fun
  | [d1, d2] => { results := [.lit (.bool true)], args := [d1, d2] }
  | _ => none }
def neglogFallsRow : OpenClaim := { program := "ytmcnllnfnlgpnaa", sum := "7b12b593c343ae47c49745da6423e37f80910b0606af423e81e029519ed33f54", func := "windrose/windroselaw04.NeglogFalls", spec := "neglogFalls", apart := false }
def NeglogFallsSaid : Prop := neglogFallsRow.holds Try.pinned (OpenSpec.ofChange neglogFallsSpec)

/-- ITS FALSE NEIGHBOUR: 'it returns false'. Refute it at one input. -/
def neglogFallsWrong : ChangeSpec := { name := "neglogFalls", fn := fun _ => fun
  | [d1, d2] => { results := [.lit (.bool false)], args := [d1, d2] }
  | _ => none }
def NeglogFallsWrongFalsely : Prop := neglogFallsRow.holds Try.pinned (OpenSpec.ofChange neglogFallsWrong)

/-- 'windroselaw01.MixMixes': WHATEVER THE INPUT: true; the input reads as it did. -/
def mixMixesSpec : ChangeSpec := { name := "mixMixes", fn := fun _ => fun
  | [d] => { results := [.lit (.bool true)], args := [d] }
  | _ => none }
def mixMixesRow : OpenClaim := { program := "ytmcnllnfnlgpnaa", sum := "7b12b593c343ae47c49745da6423e37f80910b0606af423e81e029519ed33f54", func := "windrose/windroselaw01.MixMixes", spec := "mixMixes", apart := false }
def MixMixesSaid : Prop := mixMixesRow.holds Try.pinned (OpenSpec.ofChange mixMixesSpec)

/-- ITS FALSE NEIGHBOUR: 'it returns false'. Refute it at one input. -/
def mixMixesWrong : ChangeSpec := { name := "mixMixes", fn := fun _ => fun
  | [d] => { results := [.lit (.bool false)], args := [d] }
  | _ => none }
def MixMixesWrongFalsely : Prop := mixMixesRow.holds Try.pinned (OpenSpec.ofChange mixMixesWrong)

/-- 'windroselaw01.MixFolds': WHATEVER THE INPUT: true; the input reads as it did. -/
def mixFoldsSpec : ChangeSpec := { name := "mixFolds", fn := fun _ => fun
  | [d1, d2] => { results := [.lit (.bool true)], args := [d1, d2] }
  | _ => none }
def mixFoldsRow : OpenClaim := { program := "ytmcnllnfnlgpnaa", sum := "7b12b593c343ae47c49745da6423e37f80910b0606af423e81e029519ed33f54", func := "windrose/windroselaw01.MixFolds", spec := "mixFolds", apart := false }
def MixFoldsSaid : Prop := mixFoldsRow.holds Try.pinned (OpenSpec.ofChange mixFoldsSpec)

/-- ITS FALSE NEIGHBOUR: 'it returns false'. Refute it at one input. -/
def mixFoldsWrong : ChangeSpec := { name := "mixFolds", fn := fun _ => fun
  | [d1, d2] => { results := [.lit (.bool false)], args := [d1, d2] }
  | _ => none }
def MixFoldsWrongFalsely : Prop := mixFoldsRow.holds Try.pinned (OpenSpec.ofChange mixFoldsWrong)

/-- 'windroselaw04.NeglogBetter': WHATEVER THE INPUT: true; the input reads as it did. -/
def neglogBetterSpec : ChangeSpec := { name := "neglogBetter", fn := fun _ => fun
  | [d1, d2, d3] => { results := [.lit (.bool true)], args := [d1, d2, d3] }
  | _ => none }
def neglogBetterRow : OpenClaim := { program := "ytmcnllnfnlgpnaa", sum := "7b12b593c343ae47c49745da6423e37f80910b0606af423e81e029519ed33f54", func := "windrose/windroselaw04.NeglogBetter", spec := "neglogBetter", apart := false }
def NeglogBetterSaid : Prop := neglogBetterRow.holds Try.pinned (OpenSpec.ofChange neglogBetterSpec)

/-- ITS FALSE NEIGHBOUR: 'it returns false'. Refute it at one input. -/
def neglogBetterWrong : ChangeSpec := { name := "neglogBetter", fn := fun _ => fun
  | [d1, d2, d3] => { results := [.lit (.bool false)], args := [d1, d2, d3] }
  | _ => none }
def NeglogBetterWrongFalsely : Prop := neglogBetterRow.holds Try.pinned (OpenSpec.ofChange neglogBetterWrong)

/-- 'windroselaw01.MixTexts': WHATEVER THE INPUT: true; the input reads as it did. -/
def mixTextsSpec : ChangeSpec := { name := "mixTexts", fn := fun _ => fun
  | [d1, d2] => { results := [.lit (.bool true)], args := [d1, d2] }
  | _ => none }
def mixTextsRow : OpenClaim := { program := "ytmcnllnfnlgpnaa", sum := "7b12b593c343ae47c49745da6423e37f80910b0606af423e81e029519ed33f54", func := "windrose/windroselaw01.MixTexts", spec := "mixTexts", apart := false }
def MixTextsSaid : Prop := mixTextsRow.holds Try.pinned (OpenSpec.ofChange mixTextsSpec)

/-- ITS FALSE NEIGHBOUR: 'it returns false'. Refute it at one input. -/
def mixTextsWrong : ChangeSpec := { name := "mixTexts", fn := fun _ => fun
  | [d1, d2] => { results := [.lit (.bool false)], args := [d1, d2] }
  | _ => none }
def MixTextsWrongFalsely : Prop := mixTextsRow.holds Try.pinned (OpenSpec.ofChange mixTextsWrong)

/-- 'windroselaw01.MixPieces': WHATEVER THE INPUT: true; the input reads as it did. -/
def mixPiecesSpec : ChangeSpec := { name := "mixPieces", fn := fun _ => fun
  | [d1, d2, d3] => { results := [.lit (.bool true)], args := [d1, d2, d3] }
  | _ => none }
def mixPiecesRow : OpenClaim := { program := "ytmcnllnfnlgpnaa", sum := "7b12b593c343ae47c49745da6423e37f80910b0606af423e81e029519ed33f54", func := "windrose/windroselaw01.MixPieces", spec := "mixPieces", apart := false }
def MixPiecesSaid : Prop := mixPiecesRow.holds Try.pinned (OpenSpec.ofChange mixPiecesSpec)

/-- ITS FALSE NEIGHBOUR: 'it returns false'. Refute it at one input. -/
def mixPiecesWrong : ChangeSpec := { name := "mixPieces", fn := fun _ => fun
  | [d1, d2, d3] => { results := [.lit (.bool false)], args := [d1, d2, d3] }
  | _ => none }
def MixPiecesWrongFalsely : Prop := mixPiecesRow.holds Try.pinned (OpenSpec.ofChange mixPiecesWrong)

/-- 'windroselaw04.NeglogFloors': WHATEVER THE INPUT: true; the input reads as it did. -/
def neglogFloorsSpec : ChangeSpec := { name := "neglogFloors", fn := fun _ => fun
  | [d] => { results := [.lit (.bool true)], args := [d] }
  | _ => none }
def neglogFloorsRow : OpenClaim := { program := "ytmcnllnfnlgpnaa", sum := "7b12b593c343ae47c49745da6423e37f80910b0606af423e81e029519ed33f54", func := "windrose/windroselaw04.NeglogFloors", spec := "neglogFloors", unfollowed := true, recurses := true, apart := false }
def NeglogFloorsSaid : Prop := neglogFloorsRow.holds Try.pinned (OpenSpec.ofChange neglogFloorsSpec)

/-- ITS FALSE NEIGHBOUR: 'it returns false'. Refute it at one input. -/
def neglogFloorsWrong : ChangeSpec := { name := "neglogFloors", fn := fun _ => fun
  | [d] => { results := [.lit (.bool false)], args := [d] }
  | _ => none }
def NeglogFloorsWrongFalsely : Prop := neglogFloorsRow.holds Try.pinned (OpenSpec.ofChange neglogFloorsWrong)

/- THE SECOND FORM. 'bulk': how many values and letters a reading holds, each counted each time it is reached (what is shared counts as often as it is met; a slice's spare places count too). A statement '..UptoSaid' is the law's where the arguments, and the package variables that the reading takes, are together of bulk at most 1048576: NARROWER than '..Said'. Prove '..Said' where nothing that the law and all that it calls make is longer than what came in: it says more and counts as full. Else prove '..UptoSaid'. A law counts once. -/
mutual
def uptoBulk {H : Type} : DataW H → Nat
  | .lit (.string bytes) => bytes.length + 1
  | .lit _ => 1
  | .nil => 1
  | .ptr d => uptoBulk d + 1
  | .slice elems spare => uptoBulkAll elems + uptoBulkAll spare + 1
  | .agg parts => uptoBulkAll parts + 1
  | .iface _ d => uptoBulk d + 1
  | .map entries => uptoBulkEntries entries + 1
  | .held _ => 1
def uptoBulkAll {H : Type} : List (DataW H) → Nat
  | [] => 0
  | d :: r => uptoBulk d + uptoBulkAll r
def uptoBulkEntries {H : Type} : List (Lit × DataW H) → Nat
  | [] => 0
  | x :: r => uptoBulkEntry x + uptoBulkEntries r
def uptoBulkEntry {H : Type} : Lit × DataW H → Nat
  | (.string bytes, d) => bytes.length + uptoBulk d + 1
  | (_, d) => uptoBulk d + 1
 end
def uptoSmall : (H : Type) → List (DataW H) → Bool := fun _ ds => decide (uptoBulkAll ds ≤ 1048576)
def OpenSpec.upto (s : _root_.Go.ChangeSpec) : _root_.Go.OpenSpec := { _root_.Go.OpenSpec.ofChange s with cond := some uptoSmall }

/-- 'windroselaw01.MixBelow', WHERE WHAT IT READS IS OF BULK AT MOST 1048576: true; the input reads as it did. -/
def mixBelowUptoRow : OpenClaim := { program := "ytmcnllnfnlgpnaa", sum := "7b12b593c343ae47c49745da6423e37f80910b0606af423e81e029519ed33f54", func := "windrose/windroselaw01.MixBelow", spec := "mixBelow", apart := false, narrowed := true }
def MixBelowUptoSaid : Prop := mixBelowUptoRow.holds Try.pinned (OpenSpec.upto mixBelowSpec)

/-- 'windroselaw04.NeglogCosts', WHERE WHAT IT READS IS OF BULK AT MOST 1048576: true; the input reads as it did. -/
def neglogCostsUptoRow : OpenClaim := { program := "ytmcnllnfnlgpnaa", sum := "7b12b593c343ae47c49745da6423e37f80910b0606af423e81e029519ed33f54", func := "windrose/windroselaw04.NeglogCosts", spec := "neglogCosts", recurses := true, apart := false, narrowed := true }
def NeglogCostsUptoSaid : Prop := neglogCostsUptoRow.holds Try.pinned (OpenSpec.upto neglogCostsSpec)

/-- 'windroselaw04.NeglogFalls', WHERE WHAT IT READS IS OF BULK AT MOST 1048576: true; the input reads as it did. -/
def neglogFallsUptoRow : OpenClaim := { program := "ytmcnllnfnlgpnaa", sum := "7b12b593c343ae47c49745da6423e37f80910b0606af423e81e029519ed33f54", func := "windrose/windroselaw04.NeglogFalls", spec := "neglogFalls", apart := false, narrowed := true }
def NeglogFallsUptoSaid : Prop := neglogFallsUptoRow.holds Try.pinned (OpenSpec.upto neglogFallsSpec)

/-- 'windroselaw01.MixMixes', WHERE WHAT IT READS IS OF BULK AT MOST 1048576: true; the input reads as it did. -/
def mixMixesUptoRow : OpenClaim := { program := "ytmcnllnfnlgpnaa", sum := "7b12b593c343ae47c49745da6423e37f80910b0606af423e81e029519ed33f54", func := "windrose/windroselaw01.MixMixes", spec := "mixMixes", apart := false, narrowed := true }
def MixMixesUptoSaid : Prop := mixMixesUptoRow.holds Try.pinned (OpenSpec.upto mixMixesSpec)

/-- 'windroselaw01.MixFolds', WHERE WHAT IT READS IS OF BULK AT MOST 1048576: true; the input reads as it did. -/
def mixFoldsUptoRow : OpenClaim := { program := "ytmcnllnfnlgpnaa", sum := "7b12b593c343ae47c49745da6423e37f80910b0606af423e81e029519ed33f54", func := "windrose/windroselaw01.MixFolds", spec := "mixFolds", apart := false, narrowed := true }
def MixFoldsUptoSaid : Prop := mixFoldsUptoRow.holds Try.pinned (OpenSpec.upto mixFoldsSpec)

/-- 'windroselaw04.NeglogBetter', WHERE WHAT IT READS IS OF BULK AT MOST 1048576: true; the input reads as it did. -/
def neglogBetterUptoRow : OpenClaim := { program := "ytmcnllnfnlgpnaa", sum := "7b12b593c343ae47c49745da6423e37f80910b0606af423e81e029519ed33f54", func := "windrose/windroselaw04.NeglogBetter", spec := "neglogBetter", apart := false, narrowed := true }
def NeglogBetterUptoSaid : Prop := neglogBetterUptoRow.holds Try.pinned (OpenSpec.upto neglogBetterSpec)

/-- 'windroselaw01.MixTexts', WHERE WHAT IT READS IS OF BULK AT MOST 1048576: true; the input reads as it did. -/
def mixTextsUptoRow : OpenClaim := { program := "ytmcnllnfnlgpnaa", sum := "7b12b593c343ae47c49745da6423e37f80910b0606af423e81e029519ed33f54", func := "windrose/windroselaw01.MixTexts", spec := "mixTexts", apart := false, narrowed := true }
def MixTextsUptoSaid : Prop := mixTextsUptoRow.holds Try.pinned (OpenSpec.upto mixTextsSpec)

/-- 'windroselaw01.MixPieces', WHERE WHAT IT READS IS OF BULK AT MOST 1048576: true; the input reads as it did. -/
def mixPiecesUptoRow : OpenClaim := { program := "ytmcnllnfnlgpnaa", sum := "7b12b593c343ae47c49745da6423e37f80910b0606af423e81e029519ed33f54", func := "windrose/windroselaw01.MixPieces", spec := "mixPieces", apart := false, narrowed := true }
def MixPiecesUptoSaid : Prop := mixPiecesUptoRow.holds Try.pinned (OpenSpec.upto mixPiecesSpec)

/-- 'windroselaw04.NeglogFloors', WHERE WHAT IT READS IS OF BULK AT MOST 1048576: true; the input reads as it did. -/
def neglogFloorsUptoRow : OpenClaim := { program := "ytmcnllnfnlgpnaa", sum := "7b12b593c343ae47c49745da6423e37f80910b0606af423e81e029519ed33f54", func := "windrose/windroselaw04.NeglogFloors", spec := "neglogFloors", unfollowed := true, recurses := true, apart := false, narrowed := true }
def NeglogFloorsUptoSaid : Prop := neglogFloorsUptoRow.holds Try.pinned (OpenSpec.upto neglogFloorsSpec)

end Rows
end Go.Proofs.Ytmcnllnfnlgpnaa
