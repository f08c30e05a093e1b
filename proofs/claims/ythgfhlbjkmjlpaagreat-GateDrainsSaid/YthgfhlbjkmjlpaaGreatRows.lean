/-
  No cell of these rows narrows 'for every input' (looked for: loops, veiled, ifaces, maps, wideKeys, modest, calm, conditions, laid).
  DERIVED. THE GIVEN ROWS OF THIS SEAT. 7 by the template 'for every input the law returns true; each argument reads behind the call as it read before'; 0 by the template 'total and deterministic' (their statements: YthgfhlbjkmjlpaaGreatTotals.lean).
  GIVEN WITH THE SEED: the statements are not yours to turn. If you find one false, say at which input.
  Laid BY PROGRAM, IN A SANDBOX (cutbox-rows.mjs): the forced cells as the released guide's own fill.sh prints them over the translation f3e40833bb7c29ba… (all of the seat's roots in one cut). By AI agents, Wed Nov 11 2026. No macro, syntax, notation, axiom, sorry.
-/
import Derived.Test.YthgfhlbjkmjlpaaGreatChecked
import GoSem.Claim
import GoSem.ClaimJoined
import GoSem.ClaimMapViews
import Derived.JoinedTies
import Derived.KernelRfl
namespace Go.Proofs.YthgfhlbjkmjlpaaGreat
/- THE CELL 'sum', in the pinned program and in every row, IS THE sha256 OF THE DUMP (.gsa) THAT YthgfhlbjkmjlpaaGreatProg.lean LOADS. Nothing in Lean hashes anything: it is a label: what it is worth is what the hold of that sum in a sandbox is worth. -/
noncomputable def Tryz.pinned : Pinned := { name := "ythgfhlbjkmjlpaagreat", sum := "f3e40833bb7c29ba59c1fa184cea84795534dfe8c60d24475830f5e08fda043e", checked := Tryz.checked }
namespace Rows
def none {H : Type} : Left H := { results := [], args := [] }

/-- 'windroselaw36.GateMay': WHATEVER THE INPUT: true; the input reads as it did. -/
def gateMaySpec : ChangeSpec := { name := "gateMay", fn := fun _ => fun
  | [d1, d2, d3] => { results := [.lit (.bool true)], args := [d1, d2, d3] }
  | _ => none }
def gateMayRow : OpenClaim := { program := "ythgfhlbjkmjlpaagreat", sum := "f3e40833bb7c29ba59c1fa184cea84795534dfe8c60d24475830f5e08fda043e", func := "windrose/windroselaw36.GateMay", spec := "gateMay", inPlace := ["slices.overlaps[windrose/api.Node]", "slices.overlaps[windrose/api.Temp]", "slices.overlaps[windrose/api.Choice]"], unfollowed := true, recurses := true, apart := false }
def GateMaySaid : Prop := gateMayRow.holds Tryz.pinned (OpenSpec.ofChange gateMaySpec)

/-- ITS FALSE NEIGHBOUR: 'it returns false'. Refute it at one input. -/
def gateMayWrong : ChangeSpec := { name := "gateMay", fn := fun _ => fun
  | [d1, d2, d3] => { results := [.lit (.bool false)], args := [d1, d2, d3] }
  | _ => none }
def GateMayWrongFalsely : Prop := gateMayRow.holds Tryz.pinned (OpenSpec.ofChange gateMayWrong)

/-- 'windroselaw36.GateKeeps': WHATEVER THE INPUT: true; the input reads as it did. -/
def gateKeepsSpec : ChangeSpec := { name := "gateKeeps", fn := fun _ => fun
  | [d1, d2, d3] => { results := [.lit (.bool true)], args := [d1, d2, d3] }
  | _ => none }
def gateKeepsRow : OpenClaim := { program := "ythgfhlbjkmjlpaagreat", sum := "f3e40833bb7c29ba59c1fa184cea84795534dfe8c60d24475830f5e08fda043e", func := "windrose/windroselaw36.GateKeeps", spec := "gateKeeps", inPlace := ["slices.overlaps[windrose/api.Node]", "slices.overlaps[windrose/api.Temp]", "slices.overlaps[windrose/api.Choice]"], unfollowed := true, recurses := true, apart := false }
def GateKeepsSaid : Prop := gateKeepsRow.holds Tryz.pinned (OpenSpec.ofChange gateKeepsSpec)

/-- ITS FALSE NEIGHBOUR: 'it returns false'. Refute it at one input. -/
def gateKeepsWrong : ChangeSpec := { name := "gateKeeps", fn := fun _ => fun
  | [d1, d2, d3] => { results := [.lit (.bool false)], args := [d1, d2, d3] }
  | _ => none }
def GateKeepsWrongFalsely : Prop := gateKeepsRow.holds Tryz.pinned (OpenSpec.ofChange gateKeepsWrong)

/-- 'windroselaw36.GateTouches': WHATEVER THE INPUT: true; the input reads as it did. -/
def gateTouchesSpec : ChangeSpec := { name := "gateTouches", fn := fun _ => fun
  | [d1, d2, d3] => { results := [.lit (.bool true)], args := [d1, d2, d3] }
  | _ => none }
def gateTouchesRow : OpenClaim := { program := "ythgfhlbjkmjlpaagreat", sum := "f3e40833bb7c29ba59c1fa184cea84795534dfe8c60d24475830f5e08fda043e", func := "windrose/windroselaw36.GateTouches", spec := "gateTouches", inPlace := ["slices.overlaps[windrose/api.Node]", "slices.overlaps[windrose/api.Temp]", "slices.overlaps[windrose/api.Choice]"], unfollowed := true, recurses := true, apart := false }
def GateTouchesSaid : Prop := gateTouchesRow.holds Tryz.pinned (OpenSpec.ofChange gateTouchesSpec)

/-- ITS FALSE NEIGHBOUR: 'it returns false'. Refute it at one input. -/
def gateTouchesWrong : ChangeSpec := { name := "gateTouches", fn := fun _ => fun
  | [d1, d2, d3] => { results := [.lit (.bool false)], args := [d1, d2, d3] }
  | _ => none }
def GateTouchesWrongFalsely : Prop := gateTouchesRow.holds Tryz.pinned (OpenSpec.ofChange gateTouchesWrong)

/-- 'windroselaw36.GateNext': WHATEVER THE INPUT: true; the input reads as it did. -/
def gateNextSpec : ChangeSpec := { name := "gateNext", fn := fun _ => fun
  | [d1, d2, d3] => { results := [.lit (.bool true)], args := [d1, d2, d3] }
  | _ => none }
def gateNextRow : OpenClaim := { program := "ythgfhlbjkmjlpaagreat", sum := "f3e40833bb7c29ba59c1fa184cea84795534dfe8c60d24475830f5e08fda043e", func := "windrose/windroselaw36.GateNext", spec := "gateNext", inPlace := ["slices.overlaps[windrose/api.Node]", "slices.overlaps[windrose/api.Temp]", "slices.overlaps[windrose/api.Choice]"], unfollowed := true, recurses := true, apart := false }
def GateNextSaid : Prop := gateNextRow.holds Tryz.pinned (OpenSpec.ofChange gateNextSpec)

/-- ITS FALSE NEIGHBOUR: 'it returns false'. Refute it at one input. -/
def gateNextWrong : ChangeSpec := { name := "gateNext", fn := fun _ => fun
  | [d1, d2, d3] => { results := [.lit (.bool false)], args := [d1, d2, d3] }
  | _ => none }
def GateNextWrongFalsely : Prop := gateNextRow.holds Tryz.pinned (OpenSpec.ofChange gateNextWrong)

/-- 'windroselaw35.PlanGoes': WHATEVER THE INPUT: true; the input reads as it did. -/
def planGoesSpec : ChangeSpec := { name := "planGoes", fn := fun _ => fun
  | [d1, d2, d3] => { results := [.lit (.bool true)], args := [d1, d2, d3] }
  | _ => none }
def planGoesRow : OpenClaim := { program := "ythgfhlbjkmjlpaagreat", sum := "f3e40833bb7c29ba59c1fa184cea84795534dfe8c60d24475830f5e08fda043e", func := "windrose/windroselaw35.PlanGoes", spec := "planGoes", inPlace := ["slices.overlaps[windrose/api.Node]", "slices.overlaps[windrose/api.Temp]", "slices.overlaps[windrose/api.Choice]"], unfollowed := true, recurses := true, apart := false }
def PlanGoesSaid : Prop := planGoesRow.holds Tryz.pinned (OpenSpec.ofChange planGoesSpec)

/-- ITS FALSE NEIGHBOUR: 'it returns false'. Refute it at one input. -/
def planGoesWrong : ChangeSpec := { name := "planGoes", fn := fun _ => fun
  | [d1, d2, d3] => { results := [.lit (.bool false)], args := [d1, d2, d3] }
  | _ => none }
def PlanGoesWrongFalsely : Prop := planGoesRow.holds Tryz.pinned (OpenSpec.ofChange planGoesWrong)

/-- 'windroselaw35.PlanReaches': WHATEVER THE INPUT: true; the input reads as it did. -/
def planReachesSpec : ChangeSpec := { name := "planReaches", fn := fun _ => fun
  | [d1, d2] => { results := [.lit (.bool true)], args := [d1, d2] }
  | _ => none }
def planReachesRow : OpenClaim := { program := "ythgfhlbjkmjlpaagreat", sum := "f3e40833bb7c29ba59c1fa184cea84795534dfe8c60d24475830f5e08fda043e", func := "windrose/windroselaw35.PlanReaches", spec := "planReaches", inPlace := ["slices.overlaps[windrose/api.Node]", "slices.overlaps[windrose/api.Temp]", "slices.overlaps[windrose/api.Choice]"], unfollowed := true, recurses := true, apart := false }
def PlanReachesSaid : Prop := planReachesRow.holds Tryz.pinned (OpenSpec.ofChange planReachesSpec)

/-- ITS FALSE NEIGHBOUR: 'it returns false'. Refute it at one input. -/
def planReachesWrong : ChangeSpec := { name := "planReaches", fn := fun _ => fun
  | [d1, d2] => { results := [.lit (.bool false)], args := [d1, d2] }
  | _ => none }
def PlanReachesWrongFalsely : Prop := planReachesRow.holds Tryz.pinned (OpenSpec.ofChange planReachesWrong)

/-- 'windroselaw36.GateDrains': WHATEVER THE INPUT: true; the input reads as it did. -/
def gateDrainsSpec : ChangeSpec := { name := "gateDrains", fn := fun _ => fun
  | [d1, d2] => { results := [.lit (.bool true)], args := [d1, d2] }
  | _ => none }
def gateDrainsRow : OpenClaim := { program := "ythgfhlbjkmjlpaagreat", sum := "f3e40833bb7c29ba59c1fa184cea84795534dfe8c60d24475830f5e08fda043e", func := "windrose/windroselaw36.GateDrains", spec := "gateDrains", inPlace := ["slices.overlaps[windrose/api.Node]", "slices.overlaps[windrose/api.Temp]", "slices.overlaps[windrose/api.Choice]"], unfollowed := true, recurses := true, apart := false }
def GateDrainsSaid : Prop := gateDrainsRow.holds Tryz.pinned (OpenSpec.ofChange gateDrainsSpec)

/-- ITS FALSE NEIGHBOUR: 'it returns false'. Refute it at one input. -/
def gateDrainsWrong : ChangeSpec := { name := "gateDrains", fn := fun _ => fun
  | [d1, d2] => { results := [.lit (.bool false)], args := [d1, d2] }
  | _ => none }
def GateDrainsWrongFalsely : Prop := gateDrainsRow.holds Tryz.pinned (OpenSpec.ofChange gateDrainsWrong)

/- THE SECOND FORM. 'bulk': how many values and letters a reading holds, each counted each time it is reached (what is shared counts as often as it is met; a slice's spare places count too). A statement '..UptoSaid' is the law's where the arguments, and the package variables that the reading takes, are together of bulk at most 1048576: NARROWER than '..Said'. Prove '..Said' where nothing that the law and all that it calls make is longer than what came in: it says more and counts as full. Else prove '..UptoSaid'. A law counts once. -/
mutual
def uptoBulk {H : Type} : DataW H → Nat
  | .lit (.string bytes) => bytes.length + 1
  | .lit _ => 1
  | .nil => 1
  | .ptr d => uptoBulk d + 1
  | .slice elems spare => uptoBulkAll elems + uptoBulkAll spare + 1
  | .agg parts => uptoBulkAll parts + 1
  | .iface _ d => uptoBulk d + 1
  | .map entries => uptoBulkEntries entries + 1
  | .held _ => 1
def uptoBulkAll {H : Type} : List (DataW H) → Nat
  | [] => 0
  | d :: r => uptoBulk d + uptoBulkAll r
def uptoBulkEntries {H : Type} : List (Lit × DataW H) → Nat
  | [] => 0
  | x :: r => uptoBulkEntry x + uptoBulkEntries r
def uptoBulkEntry {H : Type} : Lit × DataW H → Nat
  | (.string bytes, d) => bytes.length + uptoBulk d + 1
  | (_, d) => uptoBulk d + 1
 end
def uptoSmall : (H : Type) → List (DataW H) → Bool := fun _ ds => decide (uptoBulkAll ds ≤ 1048576)
def OpenSpec.upto (s : _root_.Go.ChangeSpec) : _root_.Go.OpenSpec := { _root_.Go.OpenSpec.ofChange s with cond := some uptoSmall }

/-- 'windroselaw36.GateMay', WHERE WHAT IT READS IS OF BULK AT MOST 1048576: true; the input reads as it did. -/
def gateMayUptoRow : OpenClaim := { program := "ythgfhlbjkmjlpaagreat", sum := "f3e40833bb7c29ba59c1fa184cea84795534dfe8c60d24475830f5e08fda043e", func := "windrose/windroselaw36.GateMay", spec := "gateMay", inPlace := ["slices.overlaps[windrose/api.Node]", "slices.overlaps[windrose/api.Temp]", "slices.overlaps[windrose/api.Choice]"], unfollowed := true, recurses := true, apart := false, narrowed := true }
def GateMayUptoSaid : Prop := gateMayUptoRow.holds Tryz.pinned (OpenSpec.upto gateMaySpec)

/-- 'windroselaw36.GateKeeps', WHERE WHAT IT READS IS OF BULK AT MOST 1048576: true; the input reads as it did. -/
def gateKeepsUptoRow : OpenClaim := { program := "ythgfhlbjkmjlpaagreat", sum := "f3e40833bb7c29ba59c1fa184cea84795534dfe8c60d24475830f5e08fda043e", func := "windrose/windroselaw36.GateKeeps", spec := "gateKeeps", inPlace := ["slices.overlaps[windrose/api.Node]", "slices.overlaps[windrose/api.Temp]", "slices.overlaps[windrose/api.Choice]"], unfollowed := true, recurses := true, apart := false, narrowed := true }
def GateKeepsUptoSaid : Prop := gateKeepsUptoRow.holds Tryz.pinned (OpenSpec.upto gateKeepsSpec)

/-- 'windroselaw36.GateTouches', WHERE WHAT IT READS IS OF BULK AT MOST 1048576: true; the input reads as it did. -/
def gateTouchesUptoRow : OpenClaim := { program := "ythgfhlbjkmjlpaagreat", sum := "f3e40833bb7c29ba59c1fa184cea84795534dfe8c60d24475830f5e08fda043e", func := "windrose/windroselaw36.GateTouches", spec := "gateTouches", inPlace := ["slices.overlaps[windrose/api.Node]", "slices.overlaps[windrose/api.Temp]", "slices.overlaps[windrose/api.Choice]"], unfollowed := true, recurses := true, apart := false, narrowed := true }
def GateTouchesUptoSaid : Prop := gateTouchesUptoRow.holds Tryz.pinned (OpenSpec.upto gateTouchesSpec)

/-- 'windroselaw36.GateNext', WHERE WHAT IT READS IS OF BULK AT MOST 1048576: true; the input reads as it did. -/
def gateNextUptoRow : OpenClaim := { program := "ythgfhlbjkmjlpaagreat", sum := "f3e40833bb7c29ba59c1fa184cea84795534dfe8c60d24475830f5e08fda043e", func := "windrose/windroselaw36.GateNext", spec := "gateNext", inPlace := ["slices.overlaps[windrose/api.Node]", "slices.overlaps[windrose/api.Temp]", "slices.overlaps[windrose/api.Choice]"], unfollowed := true, recurses := true, apart := false, narrowed := true }
def GateNextUptoSaid : Prop := gateNextUptoRow.holds Tryz.pinned (OpenSpec.upto gateNextSpec)

/-- 'windroselaw35.PlanGoes', WHERE WHAT IT READS IS OF BULK AT MOST 1048576: true; the input reads as it did. -/
def planGoesUptoRow : OpenClaim := { program := "ythgfhlbjkmjlpaagreat", sum := "f3e40833bb7c29ba59c1fa184cea84795534dfe8c60d24475830f5e08fda043e", func := "windrose/windroselaw35.PlanGoes", spec := "planGoes", inPlace := ["slices.overlaps[windrose/api.Node]", "slices.overlaps[windrose/api.Temp]", "slices.overlaps[windrose/api.Choice]"], unfollowed := true, recurses := true, apart := false, narrowed := true }
def PlanGoesUptoSaid : Prop := planGoesUptoRow.holds Tryz.pinned (OpenSpec.upto planGoesSpec)

/-- 'windroselaw35.PlanReaches', WHERE WHAT IT READS IS OF BULK AT MOST 1048576: true; the input reads as it did. -/
def planReachesUptoRow : OpenClaim := { program := "ythgfhlbjkmjlpaagreat", sum := "f3e40833bb7c29ba59c1fa184cea84795534dfe8c60d24475830f5e08fda043e", func := "windrose/windroselaw35.PlanReaches", spec := "planReaches", inPlace := ["slices.overlaps[windrose/api.Node]", "slices.overlaps[windrose/api.Temp]", "slices.overlaps[windrose/api.Choice]"], unfollowed := true, recurses := true, apart := false, narrowed := true }
def PlanReachesUptoSaid : Prop := planReachesUptoRow.holds Tryz.pinned (OpenSpec.upto planReachesSpec)

/-- 'windroselaw36.GateDrains', WHERE WHAT IT READS IS OF BULK AT MOST 1048576: true; the input reads as it did. -/
def gateDrainsUptoRow : OpenClaim := { program := "ythgfhlbjkmjlpaagreat", sum := "f3e40833bb7c29ba59c1fa184cea84795534dfe8c60d24475830f5e08fda043e", func := "windrose/windroselaw36.GateDrains", spec := "gateDrains", inPlace := ["slices.overlaps[windrose/api.Node]", "slices.overlaps[windrose/api.Temp]", "slices.overlaps[windrose/api.Choice]"], unfollowed := true, recurses := true, apart := false, narrowed := true }
def GateDrainsUptoSaid : Prop := gateDrainsUptoRow.holds Tryz.pinned (OpenSpec.upto gateDrainsSpec)

end Rows
end Go.Proofs.YthgfhlbjkmjlpaaGreat
