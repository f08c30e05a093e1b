/-
  No cell of these rows narrows 'for every input' (looked for: loops, veiled, ifaces, maps, wideKeys, modest, calm, conditions, laid).
  DERIVED. THE GIVEN ROWS OF THIS SEAT. 5 by the template 'for every input the law returns true; each argument reads behind the call as it read before'; 0 by the template 'total and deterministic' (their statements: YtpabbpebefdafaaGreatTotals.lean).
  GIVEN WITH THE SEED: the statements are not yours to turn. If you find one false, say at which input.
  Laid BY PROGRAM, IN A SANDBOX (cutbox-rows.mjs): the forced cells as the released guide's own fill.sh prints them over the translation 865367d5f67c725b… (all of the seat's roots in one cut). By AI agents, Wed Nov 11 2026. No macro, syntax, notation, axiom, sorry.
-/
import Derived.Test.YtpabbpebefdafaaGreatChecked
import GoSem.Claim
import GoSem.ClaimJoined
import GoSem.ClaimMapViews
import Derived.JoinedTies
import Derived.KernelRfl
namespace Go.Proofs.YtpabbpebefdafaaGreat
/- THE CELL 'sum', in the pinned program and in every row, IS THE sha256 OF THE DUMP (.gsa) THAT YtpabbpebefdafaaGreatProg.lean LOADS. Nothing in Lean hashes anything: it is a label: what it is worth is what the hold of that sum in a sandbox is worth. -/
noncomputable def Tryz.pinned : Pinned := { name := "ytpabbpebefdafaagreat", sum := "865367d5f67c725bb0b89c45692b0b1bd7e0d4ced7c7e43938af51ecb9d6d1be", checked := Tryz.checked }
namespace Rows
def none {H : Type} : Left H := { results := [], args := [] }

/-- 'windroselaw26.MonitorNew': WHATEVER THE INPUT: true; the input reads as it did. -/
def monitorNewSpec : ChangeSpec := { name := "monitorNew", fn := fun _ => fun
  | [d1, d2, d3] => { results := [.lit (.bool true)], args := [d1, d2, d3] }
  | _ => none }
def monitorNewRow : OpenClaim := { program := "ytpabbpebefdafaagreat", sum := "865367d5f67c725bb0b89c45692b0b1bd7e0d4ced7c7e43938af51ecb9d6d1be", func := "windrose/windroselaw26.MonitorNew", spec := "monitorNew", inPlace := ["slices.overlaps[windrose/api.Node]", "slices.overlaps[windrose/api.Temp]", "slices.overlaps[windrose/api.Choice]"], unfollowed := true, recurses := true, apart := false }
def MonitorNewSaid : Prop := monitorNewRow.holds Tryz.pinned (OpenSpec.ofChange monitorNewSpec)

/-- ITS FALSE NEIGHBOUR: 'it returns false'. Refute it at one input. -/
def monitorNewWrong : ChangeSpec := { name := "monitorNew", fn := fun _ => fun
  | [d1, d2, d3] => { results := [.lit (.bool false)], args := [d1, d2, d3] }
  | _ => none }
def MonitorNewWrongFalsely : Prop := monitorNewRow.holds Tryz.pinned (OpenSpec.ofChange monitorNewWrong)

/-- 'windroselaw33.ClientNew': WHATEVER THE INPUT: true; the input reads as it did. -/
def clientNewSpec : ChangeSpec := { name := "clientNew", fn := fun _ => fun
  | [d1, d2, d3] => { results := [.lit (.bool true)], args := [d1, d2, d3] }
  | _ => none }
def clientNewRow : OpenClaim := { program := "ytpabbpebefdafaagreat", sum := "865367d5f67c725bb0b89c45692b0b1bd7e0d4ced7c7e43938af51ecb9d6d1be", func := "windrose/windroselaw33.ClientNew", spec := "clientNew", inPlace := ["slices.overlaps[windrose/api.Node]", "slices.overlaps[windrose/api.Temp]", "slices.overlaps[windrose/api.Choice]", "internal/bytealg.IndexByteString", "internal/bytealg.IndexString", "internal/bytealg.abigen_runtime_cmpstring", "internal/abi.NoEscape"], unfollowed := true, recurses := true, named := ["internal/bytealg.MaxLen"], apart := false }
def ClientNewSaid : Prop := clientNewRow.holds Tryz.pinned (OpenSpec.ofChange clientNewSpec)

/-- ITS FALSE NEIGHBOUR: 'it returns false'. Refute it at one input. -/
def clientNewWrong : ChangeSpec := { name := "clientNew", fn := fun _ => fun
  | [d1, d2, d3] => { results := [.lit (.bool false)], args := [d1, d2, d3] }
  | _ => none }
def ClientNewWrongFalsely : Prop := clientNewRow.holds Tryz.pinned (OpenSpec.ofChange clientNewWrong)

/-- 'windroselaw33.ClientGroups': WHATEVER THE INPUT: true; the input reads as it did. -/
def clientGroupsSpec : ChangeSpec := { name := "clientGroups", fn := fun _ => fun
  | [d1, d2] => { results := [.lit (.bool true)], args := [d1, d2] }
  | _ => none }
def clientGroupsRow : OpenClaim := { program := "ytpabbpebefdafaagreat", sum := "865367d5f67c725bb0b89c45692b0b1bd7e0d4ced7c7e43938af51ecb9d6d1be", func := "windrose/windroselaw33.ClientGroups", spec := "clientGroups", inPlace := ["slices.overlaps[windrose/api.Node]", "slices.overlaps[windrose/api.Temp]", "slices.overlaps[windrose/api.Choice]", "internal/bytealg.IndexByteString", "internal/bytealg.IndexString", "internal/bytealg.abigen_runtime_cmpstring", "internal/abi.NoEscape"], unfollowed := true, recurses := true, named := ["internal/bytealg.MaxLen"], apart := false }
def ClientGroupsSaid : Prop := clientGroupsRow.holds Tryz.pinned (OpenSpec.ofChange clientGroupsSpec)

/-- ITS FALSE NEIGHBOUR: 'it returns false'. Refute it at one input. -/
def clientGroupsWrong : ChangeSpec := { name := "clientGroups", fn := fun _ => fun
  | [d1, d2] => { results := [.lit (.bool false)], args := [d1, d2] }
  | _ => none }
def ClientGroupsWrongFalsely : Prop := clientGroupsRow.holds Tryz.pinned (OpenSpec.ofChange clientGroupsWrong)

/-- 'windroselaw33.ClientOnce': WHATEVER THE INPUT: true; the input reads as it did. -/
def clientOnceSpec : ChangeSpec := { name := "clientOnce", fn := fun _ => fun
  | [d1, d2, d3] => { results := [.lit (.bool true)], args := [d1, d2, d3] }
  | _ => none }
def clientOnceRow : OpenClaim := { program := "ytpabbpebefdafaagreat", sum := "865367d5f67c725bb0b89c45692b0b1bd7e0d4ced7c7e43938af51ecb9d6d1be", func := "windrose/windroselaw33.ClientOnce", spec := "clientOnce", inPlace := ["slices.overlaps[windrose/api.Node]", "slices.overlaps[windrose/api.Temp]", "slices.overlaps[windrose/api.Choice]", "internal/bytealg.IndexByteString", "internal/bytealg.IndexString", "internal/bytealg.abigen_runtime_cmpstring", "internal/abi.NoEscape"], unfollowed := true, recurses := true, named := ["internal/bytealg.MaxLen"], apart := false }
def ClientOnceSaid : Prop := clientOnceRow.holds Tryz.pinned (OpenSpec.ofChange clientOnceSpec)

/-- ITS FALSE NEIGHBOUR: 'it returns false'. Refute it at one input. -/
def clientOnceWrong : ChangeSpec := { name := "clientOnce", fn := fun _ => fun
  | [d1, d2, d3] => { results := [.lit (.bool false)], args := [d1, d2, d3] }
  | _ => none }
def ClientOnceWrongFalsely : Prop := clientOnceRow.holds Tryz.pinned (OpenSpec.ofChange clientOnceWrong)

/-- 'windroselaw33.ClientHears': WHATEVER THE INPUT: true; the input reads as it did. -/
def clientHearsSpec : ChangeSpec := { name := "clientHears", fn := fun _ => fun
  | [d1, d2, d3] => { results := [.lit (.bool true)], args := [d1, d2, d3] }
  | _ => none }
def clientHearsRow : OpenClaim := { program := "ytpabbpebefdafaagreat", sum := "865367d5f67c725bb0b89c45692b0b1bd7e0d4ced7c7e43938af51ecb9d6d1be", func := "windrose/windroselaw33.ClientHears", spec := "clientHears", inPlace := ["slices.overlaps[windrose/api.Node]", "slices.overlaps[windrose/api.Temp]", "slices.overlaps[windrose/api.Choice]", "internal/bytealg.IndexByteString", "internal/bytealg.IndexString", "internal/bytealg.abigen_runtime_cmpstring", "internal/abi.NoEscape"], unfollowed := true, recurses := true, named := ["internal/bytealg.MaxLen"], apart := false }
def ClientHearsSaid : Prop := clientHearsRow.holds Tryz.pinned (OpenSpec.ofChange clientHearsSpec)

/-- ITS FALSE NEIGHBOUR: 'it returns false'. Refute it at one input. -/
def clientHearsWrong : ChangeSpec := { name := "clientHears", fn := fun _ => fun
  | [d1, d2, d3] => { results := [.lit (.bool false)], args := [d1, d2, d3] }
  | _ => none }
def ClientHearsWrongFalsely : Prop := clientHearsRow.holds Tryz.pinned (OpenSpec.ofChange clientHearsWrong)

/- THE SECOND FORM. 'bulk': how many values and letters a reading holds, each counted each time it is reached (what is shared counts as often as it is met; a slice's spare places count too). A statement '..UptoSaid' is the law's where the arguments, and the package variables that the reading takes, are together of bulk at most 1048576: NARROWER than '..Said'. Prove '..Said' where nothing that the law and all that it calls make is longer than what came in: it says more and counts as full. Else prove '..UptoSaid'. A law counts once. -/
mutual
def uptoBulk {H : Type} : DataW H → Nat
  | .lit (.string bytes) => bytes.length + 1
  | .lit _ => 1
  | .nil => 1
  | .ptr d => uptoBulk d + 1
  | .slice elems spare => uptoBulkAll elems + uptoBulkAll spare + 1
  | .agg parts => uptoBulkAll parts + 1
  | .iface _ d => uptoBulk d + 1
  | .map entries => uptoBulkEntries entries + 1
  | .held _ => 1
def uptoBulkAll {H : Type} : List (DataW H) → Nat
  | [] => 0
  | d :: r => uptoBulk d + uptoBulkAll r
def uptoBulkEntries {H : Type} : List (Lit × DataW H) → Nat
  | [] => 0
  | x :: r => uptoBulkEntry x + uptoBulkEntries r
def uptoBulkEntry {H : Type} : Lit × DataW H → Nat
  | (.string bytes, d) => bytes.length + uptoBulk d + 1
  | (_, d) => uptoBulk d + 1
 end
def uptoSmall : (H : Type) → List (DataW H) → Bool := fun _ ds => decide (uptoBulkAll ds ≤ 1048576)
def OpenSpec.upto (s : _root_.Go.ChangeSpec) : _root_.Go.OpenSpec := { _root_.Go.OpenSpec.ofChange s with cond := some uptoSmall }

/-- 'windroselaw26.MonitorNew', WHERE WHAT IT READS IS OF BULK AT MOST 1048576: true; the input reads as it did. -/
def monitorNewUptoRow : OpenClaim := { program := "ytpabbpebefdafaagreat", sum := "865367d5f67c725bb0b89c45692b0b1bd7e0d4ced7c7e43938af51ecb9d6d1be", func := "windrose/windroselaw26.MonitorNew", spec := "monitorNew", inPlace := ["slices.overlaps[windrose/api.Node]", "slices.overlaps[windrose/api.Temp]", "slices.overlaps[windrose/api.Choice]"], unfollowed := true, recurses := true, apart := false, narrowed := true }
def MonitorNewUptoSaid : Prop := monitorNewUptoRow.holds Tryz.pinned (OpenSpec.upto monitorNewSpec)

/-- 'windroselaw33.ClientNew', WHERE WHAT IT READS IS OF BULK AT MOST 1048576: true; the input reads as it did. -/
def clientNewUptoRow : OpenClaim := { program := "ytpabbpebefdafaagreat", sum := "865367d5f67c725bb0b89c45692b0b1bd7e0d4ced7c7e43938af51ecb9d6d1be", func := "windrose/windroselaw33.ClientNew", spec := "clientNew", inPlace := ["slices.overlaps[windrose/api.Node]", "slices.overlaps[windrose/api.Temp]", "slices.overlaps[windrose/api.Choice]", "internal/bytealg.IndexByteString", "internal/bytealg.IndexString", "internal/bytealg.abigen_runtime_cmpstring", "internal/abi.NoEscape"], unfollowed := true, recurses := true, named := ["internal/bytealg.MaxLen"], apart := false, narrowed := true }
def ClientNewUptoSaid : Prop := clientNewUptoRow.holds Tryz.pinned (OpenSpec.upto clientNewSpec)

/-- 'windroselaw33.ClientGroups', WHERE WHAT IT READS IS OF BULK AT MOST 1048576: true; the input reads as it did. -/
def clientGroupsUptoRow : OpenClaim := { program := "ytpabbpebefdafaagreat", sum := "865367d5f67c725bb0b89c45692b0b1bd7e0d4ced7c7e43938af51ecb9d6d1be", func := "windrose/windroselaw33.ClientGroups", spec := "clientGroups", inPlace := ["slices.overlaps[windrose/api.Node]", "slices.overlaps[windrose/api.Temp]", "slices.overlaps[windrose/api.Choice]", "internal/bytealg.IndexByteString", "internal/bytealg.IndexString", "internal/bytealg.abigen_runtime_cmpstring", "internal/abi.NoEscape"], unfollowed := true, recurses := true, named := ["internal/bytealg.MaxLen"], apart := false, narrowed := true }
def ClientGroupsUptoSaid : Prop := clientGroupsUptoRow.holds Tryz.pinned (OpenSpec.upto clientGroupsSpec)

/-- 'windroselaw33.ClientOnce', WHERE WHAT IT READS IS OF BULK AT MOST 1048576: true; the input reads as it did. -/
def clientOnceUptoRow : OpenClaim := { program := "ytpabbpebefdafaagreat", sum := "865367d5f67c725bb0b89c45692b0b1bd7e0d4ced7c7e43938af51ecb9d6d1be", func := "windrose/windroselaw33.ClientOnce", spec := "clientOnce", inPlace := ["slices.overlaps[windrose/api.Node]", "slices.overlaps[windrose/api.Temp]", "slices.overlaps[windrose/api.Choice]", "internal/bytealg.IndexByteString", "internal/bytealg.IndexString", "internal/bytealg.abigen_runtime_cmpstring", "internal/abi.NoEscape"], unfollowed := true, recurses := true, named := ["internal/bytealg.MaxLen"], apart := false, narrowed := true }
def ClientOnceUptoSaid : Prop := clientOnceUptoRow.holds Tryz.pinned (OpenSpec.upto clientOnceSpec)

/-- 'windroselaw33.ClientHears', WHERE WHAT IT READS IS OF BULK AT MOST 1048576: true; the input reads as it did. -/
def clientHearsUptoRow : OpenClaim := { program := "ytpabbpebefdafaagreat", sum := "865367d5f67c725bb0b89c45692b0b1bd7e0d4ced7c7e43938af51ecb9d6d1be", func := "windrose/windroselaw33.ClientHears", spec := "clientHears", inPlace := ["slices.overlaps[windrose/api.Node]", "slices.overlaps[windrose/api.Temp]", "slices.overlaps[windrose/api.Choice]", "internal/bytealg.IndexByteString", "internal/bytealg.IndexString", "internal/bytealg.abigen_runtime_cmpstring", "internal/abi.NoEscape"], unfollowed := true, recurses := true, named := ["internal/bytealg.MaxLen"], apart := false, narrowed := true }
def ClientHearsUptoSaid : Prop := clientHearsUptoRow.holds Tryz.pinned (OpenSpec.upto clientHearsSpec)

end Rows
end Go.Proofs.YtpabbpebefdafaaGreat
