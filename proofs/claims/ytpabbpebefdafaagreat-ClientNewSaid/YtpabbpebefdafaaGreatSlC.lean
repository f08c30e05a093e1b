import Derived.Test.YtpabbpebefdafaaGreatSlB
import Derived.Laws.CopyRow
import Derived.Laws.CopyOwn
import Derived.WalkKit
namespace Go.Proofs.YtpabbpebefdafaaGreat.Sl
open Go Go.RowKit
set_option linter.unusedVariables false
set_option linter.unusedSimpArgs false
abbrev w64(n:Int):Int:=IntKind.i64.wrap n
theorem qCQ{n:Int}(h0 : -9223372036854775808≤n)(h1:n≤9223372036854775807):w64 n=n:=by
 show IntKind.i64.wrap n=n
 rw [IntKind.wrap_i64]
 omega
theorem qEb{l:List Value}(h:l.all (fun u=>u.oneCell')=true):∀ u ∈ l,u.oneCell'=true:=by simpa using h
section
variable {P:Program} {E:Nat→Value} {o:Oper} {w w':World}
def aggB(P:Program)(t:TypeId):Option Bool:=match P.underlying t with
 | some (.struct _)=>some true
 | some (.array _ _)=>some true
 | some _=>some false
 | none=>none
def sizeB(P:Program)(t:TypeId):Option Nat:=(P.info? t).map (·.size)
def zeroB(P:Program)(t:TypeId):Option Value:=(P.info? t).bind (·.zero)
theorem qCy{t:TypeId}{b:Bool}(h:aggB P t=some b)(w:World):(isAgg t).run P w = .ok b w:=by
 unfold aggB at h
 cases hu:P.underlying t with
 | none=>rw [hu]at h; cases h
 | some d =>
  rw [hu]at h
  have hr:(underlying t).run P w = .ok d w:=run_underlying hu w
  unfold isAgg
  rw [Sem.run_bind,hr]
  cases d <;> simp_all [Result.andThen]
theorem qCb{t:TypeId}{n:Nat}(h:sizeB P t=some n)(w:World):(sizeOf t).run P w = .ok n w:=by
 obtain ⟨i,hi,rfl⟩:=Option.map_eq_some_iff.1 h
 simp [sizeOf,typeInfo,hi]
theorem qDb{t:TypeId}{v:Value}(h:zeroB P t=some v)(w:World):(zeroValue t).run P w = .ok v w:=by
 obtain ⟨i,hi,hz⟩:=Option.bind_eq_some_iff.1 h
 simp [zeroValue,typeInfo,hi,hz]
theorem qDh{t:TypeId}{a:Addr}{v:Value}(ht:aggB P t=some false)(hc:w.cell? a=some v):(Instr.loadAt t (.pointer (some a))).run P w = .ok v w:=by
 simp [Instr.loadAt,Instr.sureAddr,loadVar,qCy ht,load,Sem.run,hc]
theorem qDF{t:TypeId}{a:Addr}{cs:List Value}(ht:aggB P t=some true)(hs:sizeB P t=some cs.length)(hc:∀(j:Nat)(u:Value),cs[j]? = some u→w.cell? (a.add j)=some u):(Instr.loadAt t (.pointer (some a))).run P w = .ok (.agg cs.toArray) w:=by
 simp [Instr.loadAt,Instr.sureAddr,loadVar,qCy ht,qCb hs,run_loadCells_list w a cs hc]
theorem qEx{t:TypeId}{x:Operand}{a v:Value}(ho:o.op = .load t x)(hx:ev E x=a)(h:(Instr.loadAt t a).run P w = .ok v w):(execOp (ev E) o).run P w = .ok (.value v) w:=by
 unfold execOp
 simp [ho,hx,h]
theorem qCS{b off:Nat}{cs:Array Value}{e:TypeId}{z:Nat × Nat}{v:Value}(hb:w.heap[b]? = some (.cells cs e z))(hv:cs[off]? = some v):w.cell? ⟨b,off,none⟩=some v:=by
 simp [World.cell?,hb,hv]
theorem qCZ(b off j:Nat):(⟨b,off,none⟩:Addr).add j=⟨b,off+j,none⟩:=by unfold Addr.add; split <;> simp_all
theorem x_box{t:TypeId}{x:Operand}{v:Value}(ho:o.op = .box t x)(hx:ev E x=v)(w:World):(execOp (ev E) o).run P w = .ok (.value (.pointer (some ⟨w.heap.size,0,none⟩))) (w.alloc (.cells v.cells t)):=by
 unfold execOp
 simp only [ho,hx]
 rfl
theorem qHA{t:TypeId}{v:Value}(ho:o.op = .alloc t)(hz:zeroB P t=some v)(w:World):(execOp (ev E) o).run P w = .ok (.value (.pointer (some ⟨w.heap.size,0,none⟩))) (w.alloc (.cells v.cells t)):=by
 unfold execOp
 simp only [ho,Instr.alloc,Sem.run_bind,qDb hz,Result.andThen_ok]
 rfl
section
variable {W0 F0 W F:World} {N:Nat→Prop} {L:List Asrt}
def NewBox(W0:World)(N:Nat→Prop)(F0 F:World)(L:List Asrt)(cs:Array Value)(t:TypeId)(w:World)(v:Value)(w':World):Prop :=
 ∃ b,v = .pointer (some ⟨b,0,none⟩)∧w'.heap[b]? = some (.cells cs t (0,0))∧St W0 N F0 w' F (box b cs t :: L)∧Agr w w'
theorem e_box{t:TypeId}{x:Operand}{v:Value}(h:St W0 N F0 W F L)(ho:o.op = .box t x)(hx:ev E x=v)(cs:Array Value)(hc:v.cells=cs):Eff P E o W (NewBox W0 N F0 F L cs t W):=by
 subst hc
 exact Eff.run (x_box ho hx W) ⟨_,rfl,by show (W.heap.push _)[W.heap.size]? = _; simp,h.box _ _,qCe W _⟩
theorem qHB{t:TypeId}{v:Value}(h:St W0 N F0 W F L)(ho:o.op = .alloc t)(hz:zeroB P t=some v)(cs:Array Value)(hc:v.cells=cs):Eff P E o W (NewBox W0 N F0 F L cs t W):=by
 subst hc
 exact Eff.run (qHA ho hz W) ⟨_,rfl,by show (W.heap.push _)[W.heap.size]? = _; simp,h.box _ _,qCe W _⟩
theorem qDK{t:TypeId}{b off:Nat}{cs:Array Value}{e:TypeId}{v:Value}(hs:sizeB P t=some v.cells.size)(hb:w.heap[b]? = some (.cells cs e (0,0)))(hf:off+v.cells.size≤cs.size)(h1:∀ u ∈ v.cells.toList,u.oneCell'=true):
  (storeVar t ⟨b,off,none⟩ v).run P w = .ok () (w.setRow b (cs.toList.take off++v.cells.toList++cs.toList.drop (off+v.cells.size)).toArray):=by
 have h:=run_storeCells_at P b off e v.cells.toList 0 cs w hb (by simpa using hf) h1
 simp only [Nat.add_zero,Array.length_toList]at h
 simp [storeVar,qCb hs,h]
theorem qEc {t:TypeId} {x y:Operand} {b off:Nat} {cs:Array Value} {e:TypeId} {v:Value} (ho:o.op = .store t x y) (hx:ev E x = .pointer (some ⟨b,off,none⟩)) (hy:ev E y=v) (hs:sizeB P t=some v.cells.size) (hb:w.heap[b]? = some (.cells cs e (0,0)))
  (hf:off+v.cells.size≤cs.size) (h1:∀ u ∈ v.cells.toList,u.oneCell'=true):(execOp (ev E) o).run P w = .ok .skip (w.setRow b (cs.toList.take off++v.cells.toList++cs.toList.drop (off+v.cells.size)).toArray):=by
 unfold execOp
 simp [ho,hx,hy,Instr.storeAt,Instr.sureAddr,qDK hs hb hf h1]
theorem qCU(w:World)(b:Nat)(cs:Array Value):(w.setRow b cs).os=w.os∧(w.setRow b cs).tape=w.tape∧(w.setRow b cs).output=w.output∧w.heap.size≤(w.setRow b cs).heap.size:=⟨rfl,rfl,rfl,by simp [World.setRow]⟩
theorem qEd{b:Nat}{cs cs':Array Value}{e:TypeId}(h:St W0 N F0 W F (box b cs e :: L)):St W0 N F0 (W.setRow b cs') F (box b cs' e :: L)∧(W.setRow b cs').heap[b]? = some (.cells cs' e (0,0)):=by
 have hb:W.heap[b]? = some (.cells cs e (0,0)):=h.own.head
 have hb':=setRow_heap W b cs cs' e (0,0) hb
 obtain ⟨h1,h2,h3,h4⟩:=qCU W b cs'
 exact ⟨h.turn (box b cs' e) h1 h2 h3 h4 (fun k _ hk=>setRow_other W b k cs' hk) (fun k hk=>.inl hk) hb' (Nat.le_refl _),hb'⟩
def Stored(W0:World)(N:Nat→Prop)(F0 F:World)(L:List Asrt)(b:Nat)(cs:Array Value)(e:TypeId)(w:World)(v:Value)(w':World):Prop :=
 v=undef∧w'.heap[b]? = some (.cells cs e (0,0))∧St W0 N F0 w' F (box b cs e :: L)∧w.heap.size≤w'.heap.size
theorem qHC {t:TypeId} {x y:Operand} {b off:Nat} {cs:Array Value} {e:TypeId} {v:Value} (h:St W0 N F0 W F (box b cs e :: L)) (ho:o.op = .store t x y) (hx:ev E x = .pointer (some ⟨b,off,none⟩)) (hy:ev E y=v) (hs:sizeB P t=some v.cells.size)
  (hf:off+v.cells.size≤cs.size) (h1:∀ u ∈ v.cells.toList,u.oneCell'=true) (cs':Array Value) (hc:(cs.toList.take off++v.cells.toList++cs.toList.drop (off+v.cells.size)).toArray=cs'):Eff P E o W (Stored W0 N F0 F L b cs' e W):=by
 subst hc
 obtain ⟨h2,h3⟩:=qEd (cs':=(cs.toList.take off++v.cells.toList++cs.toList.drop (off+v.cells.size)).toArray) h
 exact Eff.skip (qEc ho hx hy hs h.own.head hf h1) ⟨rfl,h3,h2,(qCU W b _).2.2.2⟩
theorem qCW{t:TypeId}{b:Nat}{cs:Array Value}{e:TypeId}(vs:List Value)(ht:aggB P t=some true)(hs:sizeB P t=some vs.length)(hb:w.heap[b]? = some (.cells cs e (0,0)))(hv:cs.toList=vs):(loadVar t ⟨b,0,none⟩).run P w = .ok (.agg vs.toArray) w:=by
 have h:=qDF (P:=P) (w:=w) (a:=⟨b,0,none⟩) ht hs (fun j u hj=>by
  rw [qCZ]
  refine qCS hb ?_
  rw [← hv,Array.getElem?_toList]at hj
  simpa using hj)
 simpa [Instr.loadAt,Instr.sureAddr] using h
theorem St.blk_at{b i:Nat}{cs:Array Value}{e:TypeId}(h:St W0 N F0 W F L)(hi:L[i]? = some (Sl.box b cs e)):W.heap[b]? = some (.cells cs e (0,0)):=h.own.ok _ (List.mem_of_getElem? hi)
end
end
end Go.Proofs.YtpabbpebefdafaaGreat.Sl
