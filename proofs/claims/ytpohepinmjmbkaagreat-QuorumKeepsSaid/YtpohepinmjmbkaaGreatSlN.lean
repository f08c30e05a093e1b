import Derived.Test.YtpohepinmjmbkaaGreatSlT
import Derived.Maps.OwnOps
import Derived.Maps.Views
namespace Go.Proofs.YtpohepinmjmbkaaGreat.Sl
open Go Go.RowKit Go.Maps Go.Proofs
set_option linter.unusedVariables false
set_option linter.unusedSimpArgs false
def mget{β : Type}(z : β)(l:List (Int × β))(k:Int): β:=match l.find? (fun p=>decide (p.1=k)) with
 | some p=>p.2
 | none=>z
theorem qDu{β : Type}(z : β)(l:List (Int × β))(k x:Int)(v : β):mget z ((k,v) :: l) x=if k=x then v else mget z l x:=by
 unfold mget
 rw [List.find?_cons]
 by_cases c:k=x
 ·simp [c]
 ·simp [c]
def heldV(v:Value):Option (DataW Value × List MemPlace):=some (.held v,[])
def mapb{β : Type}(P:Program)(kt:TypeId)(enc : β→Value)(z : β)(b:Nat)(l:List (Int × β)):Asrt :=
 ⟨(· = b),fun _ W=>∃ D:DataW Value,W.ownsMap P kt heldV b l.length D∧IsMap D∧∀ a:Int,D.atKey (.int .i64 a) (.held (enc z)) = .held (enc (mget z l a)),
  fun _ h=>h,
  fun hl ⟨D,h1,h2,h3⟩=>⟨D,by obtain ⟨es,cl,hb,r⟩:=h1; exact ⟨es,cl,(hl b rfl).trans hb,r⟩,h2,h3⟩,
  fun ⟨D,h1,_⟩ hb=>by rw [hb]; exact h1.lt⟩
abbrev inI(k:Int):Prop := -9223372036854775808≤k∧k≤9223372036854775807
theorem wfI{k:Int}(h:inI k):(Lit.int .i64 k).wf=true:=by
 rw [Lit.wf,Bool.and_eq_true]
 exact ⟨decide_eq_true h.1,decide_eq_true h.2⟩
section
variable {P:Program} {E:Nat→Value} {o:Oper} {W0 W F0 F:World} {N:Nat→Prop} {L:List Asrt} {β : Type} {enc : β→Value} {z : β} {kt et:TypeId} {b:Nat} {l:List (Int × β)}
def mkmK(o:Oper):Bool :=
 match o.op with
 | .makeMap _ none=>true
 | _=>false
theorem Eff.mkm(h:St W0 N F0 W F L)(enc : β→Value)(z : β)(hk:mkmK o=true:=by kernel_rfl):Eff P E o W (fun v w'=>∃ b,v = .map (some b)∧St W0 N F0 w' F (mapb P kt enc z b [] :: L)∧Agr W w'):=by
 unfold mkmK at hk
 split at hk
 ·rename_i t hop
  have hrun:(execOp (ev E) o).run P W = .ok (.value (.map (some W.heap.size))) (W.alloc (.map #[] 0)):=by
   unfold execOp
   simp [hop,Instr.makeMap]
  exact Eff.run hrun ⟨_,rfl,h.alloc _ _ (fun b hb=>hb) ⟨.map [],World.ownsMap_made _ _ _ _,⟨_,rfl⟩,fun a=>rfl⟩,qCX W _⟩
 ·cases hk
def upK(E:Nat→Value)(o:Oper):Option (TypeId × Value × Value × Value) :=
 match o.op with
 | .mapUpdate t m x v=>some (t,ev E m,ev E x,ev E v)
 | _=>none
theorem Eff.mup{t:TypeId}(h:St W0 N F0 W F (mapb P kt enc z b l :: L))(k:Int)(v : β)(hl:l.length<1000000∧inI k)(hu:upK E o=some (t,.map (some b),.int .i64 k,enc v):=by kernel_rfl)(ht:P.underlying t=some (.map kt et):=by kernel_rfl)(hi:P.underlying kt=some (.int .i64):=by kernel_rfl):
  Eff P E o W (fun u w'=>u=undef∧St W0 N F0 w' F (mapb P kt enc z b ((k,v) :: l) :: L)∧W.heap.size≤w'.heap.size):=by
 unfold upK at hu
 split at hu
 ·rename_i t' m x y hop
  simp only [Option.some.injEq,Prod.mk.injEq]at hu
  obtain ⟨rfl,hm,hx,hv⟩:=hu
  obtain ⟨D,h1,h2,h3⟩:=h.own.head
  obtain ⟨w',hrun,r1,r2⟩:=h1.update (int_keyed hi) ht (show l.length<maxLen by have:=hl.1; unfold maxLen; omega) (keyOf_int_mk hi (wfI hl.2)) (show heldV (enc v)=some (.held (enc v),[]) from rfl)
  have hd:=qDK _ hrun
  have hex:(execOp (ev E) o).run P W = .ok .skip w':=by
   unfold execOp
   simp [hop,hm,hx,hv,hrun,Result.andThen]
  refine Eff.skip hex ⟨rfl,h.turn _ r2.os r2.tape r2.output r2.size (fun q hq hn=>r2.block q hq (fun e=>hn (Option.some.inj e))) (fun q hq=>.inl hq) ⟨_,r1,h2.put _ _,fun a=>?_⟩ hd,r2.size⟩
  rw [qDu]
  by_cases c:k=a
  ·subst c
   rw [if_pos rfl,atKey_put_same h2 (by trivial)]
  ·rw [if_neg c,atKey_put_other (by intro h; injection h with _ h; exact c h.symm)]
   exact h3 a
 ·cases hu
end
section
variable {P:Program} {S SX:World→Prop} {ops:Array Oper} {n:Nat} {E:Nat→Value} {w F:World} {β : Type} {enc : β→Value} {z : β} {kt et:TypeId} {b:Nat} {l:List (Int × β)}
def lkK(ops:Array Oper)(n:Nat)(E:Nat→Value)(i:Nat):Option (TypeId × Value × Value) :=
 match okS ops n E i&&dstB ops i,(opAt ops i).op with
 | true,.lookup t m x false=>some (t,ev E m,ev E x)
 | _,_=>none
theorem ChainD.lk {E2:Nat→Value} {is:List (Nat × Nat)} (i:Nat) {t:TypeId} {k:Int} (hm:(mapb P kt enc z b l).ok F w) (hr:inI k) (hc:ChainD P (Agr w) SX ops n (upd E (dstAt ops i) (enc (mget z l k))) is E2) (h:lkK ops n E i=some (t,.map (some b),.int .i64 k):=by kernel_rfl)
  (ht:P.underlying t=some (.map kt et):=by kernel_rfl) (hi:P.underlying kt=some (.int .i64):=by kernel_rfl) (hz:zeroB P et=some (enc z):=by kernel_rfl):ChainD P (Agr w) SX ops n E ((i,0) :: is) E2:=by
 unfold lkK at h
 split at h
 ·rename_i t' m x hb hop
  simp only [Bool.and_eq_true]at hb
  simp only [Option.some.injEq,Prod.mk.injEq]at h
  obtain ⟨rfl,e1,e2⟩:=h
  refine qEf hb.1 hb.2 (fun w' hw=>?_) hc
  obtain ⟨D,h1,h2,h3⟩:=(mapb P kt enc z b l).loc (F:=F) (fun q hq=>hw.2 q (by rw [show q=b from hq]; obtain ⟨D,h1,_⟩:=hm; exact h1.lt)) hm
  obtain ⟨v,ps,hrun,hat⟩:=h1.lookup (int_keyed hi) ht (qCi hz w') (show heldV (enc z)=some (.held (enc z),[]) from rfl) (keyOf_int_mk hi (wfI hr))
  rw [h3 k]at hat
  obtain rfl:v=enc (mget z l k):=by
   unfold heldV at hat
   injection hat with hat
   injection hat with hat
   injection hat
  unfold execOp
  simp [hop,e1,e2,hrun,Result.andThen]
 ·cases h
theorem St.map_at{W0 F0 W F:World}{N:Nat→Prop}{L:List Asrt}{A:Asrt}{i:Nat}(h:St W0 N F0 W F L)(hi:L[i]? = some A):A.ok F W:=h.own.ok _ (List.mem_of_getElem? hi)
end
end Go.Proofs.YtpohepinmjmbkaaGreat.Sl
