import Derived.Test.YtpabbpebefdafaaGreatSlT
namespace Go.Proofs.YtpabbpebefdafaaGreat.Sl
open Go Go.RowKit Go.Proofs
set_option linter.unusedVariables false
set_option linter.unusedSimpArgs false
def scut(s:ByteArray)(l h:Int):ByteArray:=s.extract l.toNat h.toNat
section
variable {P:Program} {E:Nat→Value} {o:Oper}
def scK(P:Program)(E:Nat→Value)(o:Oper):Option (ByteArray × Int × Int) :=
 match o.op with
 | .slice t x lo hi none=>match P.underlying t,ev E x with
  | some .string,.string s=>match lo,hi with
   | some a,some b=>match ev E a,ev E b with
    | .int _ l,.int _ h=>some (s,l,h)
    | _,_=>none
   | some a,none=>match ev E a with
    | .int _ l=>some (s,l,(s.size:Int))
    | _=>none
   | none,some b=>match ev E b with
    | .int _ h=>some (s,0,h)
    | _=>none
   | none,none=>none
  | _,_=>none
 | _=>none
theorem qGr{s:ByteArray}{l h:Int}(hc:0≤l∧l≤h∧h≤(s.size:Int))(hk:scK P E o=some (s,l,h):=by kernel_rfl):YA P E o (.string (scut s l h)):=fun w=>by
 unfold scK at hk
 obtain ⟨h0,h1,h2⟩:=hc
 split at hk
 ·rename_i t x lo hi hop
  split at hk
  ·rename_i s' hu hx
   split at hk
   ·split at hk
    ·rename_i a b k1 l' k2 h' ha hb
     simp only [Option.some.injEq,Prod.mk.injEq]at hk
     obtain ⟨rfl,rfl,rfl⟩:=hk
     have e1:(0:Int)≤h':=by omega
     have e2:¬ max h' 0<l':=by omega
     unfold execOp
     simp [hop,hx,ha,hb,Instr.sliceAt,Instr.slice,Instr.sliceBounds,Instr.sliceBound,asIntOf,run_underlying hu,h0,h1,h2,e1,scut]
     exact fun q=>absurd q e2
    ·cases hk
   ·split at hk
    ·rename_i a k1 l' ha
     simp only [Option.some.injEq,Prod.mk.injEq]at hk
     obtain ⟨rfl,rfl,rfl⟩:=hk
     unfold execOp
     simp [hop,hx,ha,Instr.sliceAt,Instr.slice,Instr.sliceBounds,Instr.sliceBound,asIntOf,run_underlying hu,h0,h1,h2,scut]
    ·cases hk
   ·split at hk
    ·rename_i b k2 h' hb
     simp only [Option.some.injEq,Prod.mk.injEq]at hk
     obtain ⟨rfl,rfl,rfl⟩:=hk
     have e1:(0:Int)≤h':=by omega
     unfold execOp
     simp [hop,hx,hb,Instr.sliceAt,Instr.slice,Instr.sliceBounds,Instr.sliceBound,asIntOf,run_underlying hu,h0,h1,h2,e1,scut]
    ·cases hk
   ·cases hk
  ·cases hk
 ·cases hk
end
def sit(b:Nat)(s:ByteArray)(p:Nat):Asrt :=
 ⟨(· = b),fun _ W=>W.heap[b]? = some (.stringIter s p),fun _ h=>h,fun hl h=>(hl b rfl).trans h,fun {F W b'} h hb=>by rw [hb]; exact (Array.getElem?_eq_some_iff.1 h).1⟩
section
variable {P:Program} {E:Nat→Value} {o:Oper} {W0 W F0 F:World} {N:Nat→Prop} {L:List Asrt} {b p:Nat} {s:ByteArray}
def rgK(P:Program)(E:Nat→Value)(o:Oper):Option ByteArray :=
 match o.op with
 | .range t x=>match P.underlying t,ev E x with
  | some .string,.string s=>some s
  | _,_=>none
 | _=>none
theorem Eff.rg(h:St W0 N F0 W F L)(s:ByteArray)(hk:rgK P E o=some s:=by kernel_rfl):Eff P E o W (fun v w'=>∃ b,v = .pointer (some ⟨b,0,none⟩)∧St W0 N F0 w' F (sit b s 0 :: L)∧Agr W w'):=by
 unfold rgK at hk
 split at hk
 ·rename_i t x hop
  split at hk
  ·rename_i s' hu hx
   simp only [Option.some.injEq]at hk
   subst hk
   have hrun:(execOp (ev E) o).run P W = .ok (.value (.pointer (some ⟨W.heap.size,0,none⟩))) (W.alloc (.stringIter s' 0)):=by
    unfold execOp
    simp [hop,hx,Instr.range,run_underlying hu,newObj,Sem.run]
   exact Eff.run hrun ⟨_,rfl,h.alloc _ _ (fun b hb=>hb) (by show (W.heap.push _)[W.heap.size]? = _; simp),qCe W _⟩
  ·cases hk
 ·cases hk
def nxK(E:Nat→Value)(o:Oper):Option Nat :=
 match o.op with
 | .next x true=>match ev E x with
  | .pointer (some ⟨b,0,none⟩)=>some b
  | _=>none
 | _=>none
theorem Eff.nx(h:St W0 N F0 W F (sit b s p :: L))(hp:p<s.size)(hk:nxK E o=some b:=by kernel_rfl):Eff P E o W (fun v w'=>v = .tuple #[.bool true,.int .i64 (p:Int),.int .i32 ((Utf8.decode s p).1:Int)]∧St W0 N F0 w' F (sit b s (p+(Utf8.decode s p).2) :: L)∧W.heap.size≤w'.heap.size):=by
 unfold nxK at hk
 split at hk
 ·rename_i x hop
  split at hk
  ·rename_i b' hx
   simp only [Option.some.injEq]at hk
   subst hk
   have hb:W.heap[b']? = some (.stringIter s p):=h.own.head
   have hlt:b'<W.heap.size:=(Array.getElem?_eq_some_iff.1 hb).1
   have hrun:(execOp (ev E) o).run P W = .ok (.value (.tuple #[.bool true,.int .i64 (p:Int),.int .i32 ((Utf8.decode s p).1:Int)])) { W with heap:=W.heap.setIfInBounds b' (.stringIter s (p+(Utf8.decode s p).2)) }:=by
    unfold execOp
    simp [hop,hx,Instr.next,getObj,setObj,Sem.run,hb,hp,goInt]
   refine Eff.run hrun ⟨rfl,h.turn (sit b' s (p+(Utf8.decode s p).2)) rfl rfl rfl (by simp) (fun q hq hn=>?_) (fun q hq=>.inl hq) ?_ (Nat.le_refl _),by simp⟩
   ·have hne:b'≠q:=fun e=>hn e.symm
    show (W.heap.setIfInBounds b' _)[q]? = _
    rw [Array.getElem?_setIfInBounds_ne hne]
   ·show (W.heap.setIfInBounds b' _)[b']? = _
    simp [hlt]
  ·cases hk
 ·cases hk
theorem Eff.nx0(h:St W0 N F0 W F (sit b s p :: L))(hp:¬ p<s.size)(hk:nxK E o=some b:=by kernel_rfl):Eff P E o W (fun v w'=>v = .tuple #[.bool false]∧w'=W):=by
 unfold nxK at hk
 split at hk
 ·rename_i x hop
  split at hk
  ·rename_i b' hx
   simp only [Option.some.injEq]at hk
   subst hk
   have hb:W.heap[b']? = some (.stringIter s p):=h.own.head
   have hrun:(execOp (ev E) o).run P W = .ok (.value (.tuple #[.bool false])) W:=by
    unfold execOp
    simp [hop,hx,Instr.next,getObj,Sem.run,hb,hp]
   exact Eff.run hrun ⟨rfl,rfl⟩
  ·cases hk
 ·cases hk
end
end Go.Proofs.YtpabbpebefdafaaGreat.Sl
