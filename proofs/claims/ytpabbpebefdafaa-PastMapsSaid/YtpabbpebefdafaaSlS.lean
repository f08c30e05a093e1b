import Derived.Test.YtpabbpebefdafaaSlT
namespace Go.Proofs.Ytpabbpebefdafaa.Sl
open Go Go.RowKit Go.Proofs
set_option linter.unusedVariables false
set_option linter.unusedSimpArgs false
def scut(s:ByteArray)(l h:Int):ByteArray:=s.extract l.toNat h.toNat
section
variable {P:Program} {E:Nat→Value} {o:Oper}
def scK(P:Program)(E:Nat→Value)(o:Oper):Option (ByteArray × Int × Int) :=
 match o.op with
 | .slice t x lo hi none=>match P.underlying t,ev E x with
  | some .string,.string s=>match lo,hi with
   | some a,some b=>match ev E a,ev E b with
    | .int _ l,.int _ h=>some (s,l,h)
    | _,_=>none
   | some a,none=>match ev E a with
    | .int _ l=>some (s,l,(s.size:Int))
    | _=>none
   | none,some b=>match ev E b with
    | .int _ h=>some (s,0,h)
    | _=>none
   | none,none=>none
  | _,_=>none
 | _=>none
theorem qDj{s:ByteArray}{l h:Int}(hc:0≤l∧l≤h∧h≤(s.size:Int))(hk:scK P E o=some (s,l,h):=by kernel_rfl):YA P E o (.string (scut s l h)):=fun w=>by
 unfold scK at hk
 obtain ⟨h0,h1,h2⟩:=hc
 split at hk
 ·rename_i t x lo hi hop
  split at hk
  ·rename_i s' hu hx
   split at hk
   ·split at hk
    ·rename_i a b k1 l' k2 h' ha hb
     simp only [Option.some.injEq,Prod.mk.injEq]at hk
     obtain ⟨rfl,rfl,rfl⟩:=hk
     have e1:(0:Int)≤h':=by omega
     have e2:¬ max h' 0<l':=by omega
     unfold execOp
     simp [hop,hx,ha,hb,Instr.sliceAt,Instr.slice,Instr.sliceBounds,Instr.sliceBound,asIntOf,run_underlying hu,h0,h1,h2,e1,scut]
     exact fun q=>absurd q e2
    ·cases hk
   ·split at hk
    ·rename_i a k1 l' ha
     simp only [Option.some.injEq,Prod.mk.injEq]at hk
     obtain ⟨rfl,rfl,rfl⟩:=hk
     unfold execOp
     simp [hop,hx,ha,Instr.sliceAt,Instr.slice,Instr.sliceBounds,Instr.sliceBound,asIntOf,run_underlying hu,h0,h1,h2,scut]
    ·cases hk
   ·split at hk
    ·rename_i b k2 h' hb
     simp only [Option.some.injEq,Prod.mk.injEq]at hk
     obtain ⟨rfl,rfl,rfl⟩:=hk
     have e1:(0:Int)≤h':=by omega
     unfold execOp
     simp [hop,hx,hb,Instr.sliceAt,Instr.slice,Instr.sliceBounds,Instr.sliceBound,asIntOf,run_underlying hu,h0,h1,h2,e1,scut]
    ·cases hk
   ·cases hk
  ·cases hk
 ·cases hk
end
section
variable {P:Program} {E:Nat→Value} {o:Oper} {W0 W F0 F:World} {N:Nat→Prop} {L:List Asrt} {b p:Nat} {s:ByteArray}
end
end Go.Proofs.Ytpabbpebefdafaa.Sl
