import Derived.Calls
import Derived.Orders
import Derived.OrdersHeld
import Derived.Deep.LoopGhost
import Derived.Laws.World
import Derived.KernelRfl
import Derived.Test.YtpabbpebefdafaaGreatWLast
namespace Go.Proofs.YtpabbpebefdafaaGreat.Sl
open Go
set_option linter.unusedVariables false
set_option linter.unusedSimpArgs false
theorem sq{P:Program}{Q}{a}{w}{x y:Code}(h:∀ K:Act→World→Prop,(∀ a w,y.wp P Q a w→K a w)→x.wp P (Exit.then K Q) a w):(Code.seq x y).wp P Q a w:=wp_seq_k h
def ev(E:Nat→Value):Operand→Value
 | .tmp t=>E t
 | .const v=>v
 | .global g=>.pointer (some ⟨g,0,none⟩)
 | .func f=>.func (.func f) #[] #[]
def upd(E:Nat→Value)(d:Nat)(v:Value):Nat→Value:=fun i=>bif Nat.beq i d then v else E i
def updO(E:Nat→Value)(d:Option Nat)(v:Value):Nat→Value :=
 match d with
 | some d=>upd E d v
 | none=>E
def updL(E:Nat→Value):List (Nat × Value)→Nat→Value
 | []=>E
 | (d,v) :: l=>upd (updL E l) d v
def okD(n:Nat):Option Nat→Bool
 | some d=>Nat.blt d n
 | none=>true
structure Env (n:Nat) (E:Nat→Value) (a:Act):Prop where
 size:a.tmps.size=n
 get:∀ i,a.tmps.getD i undef=E i
 defers:a.defers=[]
theorem Env.eval{n:Nat}{E:Nat→Value}{a:Act}(h:Env n E a):a.eval=ev E:=by
 funext x
 cases x <;> simp [Act.eval,ev,h.get]
theorem qCa(E:Nat→Value)(d:Nat)(v:Value):upd E d v d=v:=by simp [upd]
theorem qFV(E:Nat→Value){d i:Nat}(v:Value)(h:i≠d):upd E d v i=E i:=by
 have hb:Nat.beq i d=false:=by
  cases hb:Nat.beq i d with
  | false=>rfl
  | true=>exact absurd (Nat.eq_of_beq_eq_true hb) h
 unfold upd
 rw [hb]
 rfl
theorem Env.put{n:Nat}{E:Nat→Value}{a:Act}(h:Env n E a){d:Option Nat}(hd:okD n d=true)(v:Value):Env n (updO E d v) (a.put d v):=by
 cases d with
 | none=>exact h
 | some d =>
  have hlt:d<n:=by simpa [okD,Nat.blt_eq] using hd
  refine ⟨by simp [Act.put,h.size],fun i=>?_,h.defers⟩
  show (a.tmps.setIfInBounds d v).getD i undef=upd E d v i
  by_cases e:i=d
  ·subst e
   rw [qCa,Array.getD_eq_getD_getElem?,Array.getElem?_setIfInBounds_self_of_lt (by rw [h.size]; exact hlt)]
   rfl
  ·rw [qFV E v e,← h.get,Array.getD_eq_getD_getElem?,Array.getD_eq_getD_getElem?,Array.getElem?_setIfInBounds_ne (Ne.symm e)]
theorem qFW(E:Nat→Value):∀ l:List (Nat × Value),(∀ p ∈ l,E p.1=p.2)→updL E l=E
 | [],_=>rfl
 | (d,v) :: l,h=>by
  rw [updL,qFW E l (fun p hp=>h p (List.mem_cons_of_mem _ hp))]
  funext i
  by_cases e:i=d
  ·subst e
   rw [qCa]
   exact (h (i,v) List.mem_cons_self).symm
  ·exact qFV E v e
inductive At (E:Nat→Value):List (Nat × Value)→Prop
 | nil:At E []
 | cons {d:Nat} {v:Value} {l:List (Nat × Value)} : E d=v→At E l→At E ((d,v) :: l)
theorem At.all{E:Nat→Value}{l:List (Nat × Value)}(h:At E l):∀ p ∈ l,E p.1=p.2:=by
 induction h with
 | nil=>intro p hp; cases hp
 | cons h1 _ ih =>
  intro p hp
  rcases List.mem_cons.1 hp with rfl | hp
  ·exact h1
  ·exact ih p hp
theorem Env.norm{n:Nat}{E:Nat→Value}{a:Act}(h:Env n E a)(l:List (Nat × Value))(hl:At E l):∃ J:Nat→Value,Env n (updL J l) a:=⟨E,by rw [qFW E l hl.all]; exact h⟩
theorem enter {P:Program} {f:FuncId} {fn:Func} {c:Code} {args:Array Value} {w:World} {R:Ending→World→Prop} {n:Nat} (hf:P.funcs[f]? = some fn) (hb:fn.body=some c) (hn:fn.ntmps=n) (hs:args.size≤n)
  (h:∀ a,Env n (fun i=>args.getD i undef) a→c.wp P (bodyPost P fn R) a w):Calls P f args w R:=by
 refine calls_of_wp hf hb (h _ ⟨?_,fun i=>?_,rfl⟩)
 ·simp
  omega
 ·show (args++Array.replicate (fn.ntmps - args.size) undef).getD i undef=args.getD i undef
  rw [Array.getD_eq_getD_getElem?,Array.getD_eq_getD_getElem?]
  by_cases hi:i<args.size
  ·rw [Array.getElem?_append_left hi]
  ·rw [Array.getElem?_append_right (by omega),Array.getElem?_eq_none (xs:=args) (by omega),Array.getElem?_replicate]
   split <;> rfl
def still(P:Program){α : Type}: Sem α→Option α
 | .pure a=>some a
 | .program k=>still P (k P)
 | .mark _ k=>still P k
 | _=>none
theorem qCp{P:Program}{α : Type}{s:Sem α}{x : α}(h:still P s=some x)(w:World):s.run P w = .ok x w:=by
 induction s with
 | pure a=>simp only [still,Option.some.injEq]at h; subst h; rfl
 | program k ih=>exact ih P h
 | mark m k ih=>exact ih h
 | _=>simp [still]at h
def yieldE(E:Nat→Value)(ops:Array Oper)(j:Nat):Option Bool :=
 match (ops[j]?).bind (·.dst) with
 | some d=>match E d with
  | .bool b=>some b
  | _=>none
 | none=>none
def wantE(E:Nat→Value)(ops:Array Oper)(o:Oper):Bool :=
 match o.guard with
 | none=>true
 | some (j,want)=>match yieldE E ops j with
  | some b=>b == want
  | none=>false
theorem qCY{n:Nat}{E:Nat→Value}{a:Act}(h:Env n E a)(ops:Array Oper)(o:Oper):Region.wanted o (yielded ops a.tmps)=wantE E ops o:=by
 unfold Region.wanted wantE
 cases o.guard with
 | none=>rfl
 | some p =>
  obtain ⟨j,want⟩:=p
  simp only
  have he:yielded ops a.tmps j=yieldE E ops j:=by
   unfold yielded yieldE
   cases (ops[j]?).bind (·.dst) with
   | none=>rfl
   | some d =>
    simp only [Option.bind_some]
    have hg:=h.get d
    rw [Array.getD_eq_getD_getElem?]at hg
    cases hd:a.tmps[d]? with
    | none =>
     rw [hd]at hg
     rw [← hg]
     rfl
    | some v =>
     rw [hd]at hg
     simp only [Option.getD_some]at hg
     rw [← hg]
     cases v <;> rfl
  rw [he]
  cases yieldE E ops j with
  | none=>simp
  | some b=>simp
def putE(E:Nat→Value)(d:Option Nat)(v:Value):Option (Nat→Value) :=
 match d with
 | none=>some E
 | some d=>match v with
  | .int k n=>some (upd E d (.int k n))
  | .bool b=>some (upd E d (.bool b))
  | .string s=>some (upd E d (.string s))
  | .pointer (some a)=>some (upd E d (.pointer (some a)))
  | .pointer none=>some (upd E d (.pointer none))
  | .slice a n c=>some (upd E d (.slice a n c))
  | .agg cs=>some (upd E d (.agg cs))
  | .func f a c=>some (upd E d (.func f a c))
  | .tuple vs=>some (upd E d (.tuple vs))
  | .map r=>some (upd E d (.map r))
  | v=>some (upd E d v)
theorem qEE{E E':Nat→Value}{d:Option Nat}{v:Value}(h:putE E d v=some E'):E'=updO E d v:=by
 unfold putE at h
 cases d with
 | none=>exact (Option.some.inj h).symm
 | some d =>
  simp only at h
  split at h <;> exact (Option.some.inj h).symm
def stepE(P:Program)(ops:Array Oper)(n:Nat)(E:Nat→Value)(i:Nat):Option (Nat→Value) :=
 match ops[i]? with
 | some o=>match okD n o.dst with
  | true=>match wantE E ops o with
   | true=>match still P (execOp (ev E) o) with
    | some (.value v)=>putE E o.dst v
    | _=>none
   | false=>match o.dst with
    | some d=>some (upd E d undef)
    | none=>some E
  | false=>none
 | none=>none
theorem qDd{P:Program}{ops:Array Oper}{n:Nat}{E E':Nat→Value}{i:Nat}(h:stepE P ops n E i=some E'):
  ∃ o v,ops[i]? = some o∧okD n o.dst=true∧E'=updO E o.dst v∧((wantE E ops o=true∧∀ w,(execOp (ev E) o).run P w = .ok (.value v) w)∨(wantE E ops o=false∧v=undef)):=by
 unfold stepE at h
 cases ho:ops[i]? with
 | none=>rw [ho]at h; cases h
 | some o =>
  rw [ho]at h
  simp only at h
  cases hd:okD n o.dst with
  | false=>rw [hd]at h; cases h
  | true =>
   rw [hd]at h
   simp only at h
   cases hw:wantE E ops o with
   | false =>
    rw [hw]at h
    simp only at h
    refine ⟨o,undef,rfl,hd,?_,.inr ⟨hw,rfl⟩⟩
    cases ht:o.dst with
    | none=>rw [ht]at h; exact (Option.some.inj h).symm
    | some d=>rw [ht]at h; exact (Option.some.inj h).symm
   | true =>
    rw [hw]at h
    simp only at h
    cases hs:still P (execOp (ev E) o) with
    | none=>rw [hs]at h; cases h
    | some x =>
     rw [hs]at h
     cases x with
     | value v=>exact ⟨o,v,rfl,hd,qEE h,.inl ⟨hw,fun w=>qCp hs w⟩⟩
     | _=>cases h
def YS(P:Program)(S:World→Prop)(E:Nat→Value)(o:Oper)(v:Value):Prop:=∀ w,S w→(execOp (ev E) o).run P w = .ok (.value v) w
def YA(P:Program)(E:Nat→Value)(o:Oper)(v:Value):Prop:=∀ w,(execOp (ev E) o).run P w = .ok (.value v) w
inductive Chain (P:Program) (S:World→Prop) (ops:Array Oper) (n:Nat):(Nat→Value)→List Nat→(Nat→Value)→Prop
 | nil {E:Nat→Value} : Chain P S ops n E [] E
 | p {E E1 E2:Nat→Value} (i:Nat) {is:List Nat} : stepE P ops n E i=some E1→Chain P S ops n E1 is E2→Chain P S ops n E (i :: is) E2
 | v {E E2:Nat→Value} (i:Nat) {is:List Nat} {o:Oper} {v:Value} (d:Nat):ops[i]? = some o→o.dst=some d→Nat.blt d n=true→wantE E ops o=true→YS P S E o v→Chain P S ops n (upd E d v) is E2→Chain P S ops n E (i :: is) E2
def Eff(P:Program)(E:Nat→Value)(o:Oper)(w:World)(R:Value→World→Prop):Prop :=
 ∀(a:Act),a.eval=ev E→∀(K:Act→World→Prop)(Q:Exit→Act→World→Prop),(∀ v w',R v w'→K (a.put o.dst v) w')→o.wp P a w K Q
theorem Eff.run{P:Program}{E:Nat→Value}{o:Oper}{w w':World}{R:Value→World→Prop}{v:Value}(h:(execOp (ev E) o).run P w = .ok (.value v) w')(hR:R v w'):Eff P E o w R:=by
 intro a ha K Q hK
 unfold Oper.wp
 rw [ha,h]
 exact hK _ _ hR
theorem Eff.skip{P:Program}{E:Nat→Value}{o:Oper}{w w':World}{R:Value→World→Prop}(h:(execOp (ev E) o).run P w = .ok .skip w')(hR:R undef w'):Eff P E o w R:=by
 intro a ha K Q hK
 unfold Oper.wp
 rw [ha,h]
 exact hK _ _ hR
theorem Eff.mono{P:Program}{E:Nat→Value}{o:Oper}{w:World}{R R':Value→World→Prop}(h:Eff P E o w R)(hR:∀ v w',R v w'→R' v w'):Eff P E o w R' :=
 fun a ha K Q hK=>h a ha K Q (fun v w' hr=>hK v w' (hR v w' hr))
def Enters(P:Program)(g:FuncId):Prop:=∀(args:Array Value)(w:World),(callFunc g args).run P w = .ok (.enter g args) w
theorem Eff.callv {P:Program} {E:Nat→Value} {o:Oper} {w:World} {R:Value→World→Prop} {g:FuncId} {f:Operand} {as:Array Operand} {ts:Array TypeId} {caps:Array Value} (hg:Enters P g) (hop:o.op = .call { callee:=.value f,args:=as,argTypes:=ts })
  (hfv:ev E f = .func (.func g) #[] caps) (args:List Value) (hargs:as.toList.map (ev E)=args) (all:List Value) (hall:args++caps.toList=all) (h:Calls P g all.toArray w fun e w'=>∃ v,e = .returned v∧R v w'):Eff P E o w R:=by
 have hargs:as.map (ev E)=args.toArray:=by
  apply Array.ext'
  rw [Array.toList_map,hargs]
 have hall:args.toArray++caps=all.toArray:=by
  apply Array.ext'
  rw [Array.toList_append,hall]
 intro a ha K Q hK
 unfold Oper.wp
 have he:=hg all.toArray w
 have hrun:(execOp a.eval o).run P w = .ok (.enter g all.toArray) w:=by
  rw [ha]
  unfold execOp
  simp [hop,resolve,hfv,Deferred.ofValue,invoke,hargs,hall,he]
 rw [hrun,Oper.upon_enter]
 refine h.mono fun e w'' hh=>?_
 obtain ⟨v,rfl,hr⟩:=hh
 exact hK _ _ hr
theorem qDN{p:Program}{w w1:World}{at_ k:Addr}{u:TypeId}{v:Value}{b:Bool}{l:List Addr}(h:w.viewStore p at_ u k v b = .ok (w1,l)):w1.drawn=w.drawn:=by
 unfold World.viewStore at h
 simp only [bind,Except.bind,pure,Except.pure,throw,throwThe,MonadExceptOf.throw]at h
 repeat' (split at h)
 all_goals first
  | (cases h; rfl)
  | (injection h with h; injection h with h1 h2; subst h1; rfl)
  | cases h
theorem qDa{p:Program}{w w1:World}{a:Addr}{v:Value}{b:Bool}{l:List Addr}(h:w.farStore p a v b = .ok (w1,l)):w1.drawn=w.drawn:=by
 unfold World.farStore at h
 split at h
 ·split at h
  ·rename_i r hr
   obtain ⟨r1,r2⟩:=r
   injection h with h
   injection h with h1 h2
   subst h1
   exact qDN hr
  ·cases h
 ·cases h
theorem qFX{α : Type}(k:Ask α):∀ w:World,w.drawn≤(w.ask k).2.drawn:=by
 induction k with
 | done a=>intro w; exact Nat.le_refl _
 | ask what range k ih =>
  intro w
  unfold World.ask
  dsimp only
  split
  ·exact ih _ w
  ·have hh:=ih ((Question.extern what range).cut (w.tape w.drawn (Question.extern what range))) { w with drawn:=w.drawn+1 }
   exact Nat.le_trans (Nat.le_succ _) hh
theorem qFY(w:World)(c:Sys):w.drawn≤(w.sys c).2.drawn:=by
 have h:=qFX (Kernel.perform c w.os) w
 unfold World.sys
 split
 ·exact Nat.le_refl _
 ·rename_i heq
  rw [heq]at h
  exact h
theorem qFZ{P:Program}{α : Type}(s:Sem α):∀ {w w':World} {x : α},s.run P w = .ok x w'→w.drawn≤w'.drawn:=by
 induction s with
 | pure a=>intro w w' x h; simp only [Sem.run]at h; cases h; exact Nat.le_refl _
 | load m a k ih =>
  intro w w' x h
  simp only [Sem.run]at h
  split at h
  ·(have hh:=ih _ h; exact hh)
  ·split at h
   ·(have hh:=ih _ h; exact hh)
   ·cases h
 | store m a v k ih =>
  intro w w' x h
  have key:(match w.cell? a with
    | some _ => if w.frozen? a then Result.halt (.unsupported (.unsafePointer "a write to bytes that a string shares")) w else k.run P (w.setCell a v)
    | none=>match w.farStore P a v (m == Mode.atomic) with
     | .ok (w,_)=>k.run P w
     | .error h=>.halt h w) = .ok x w'→w.drawn≤w'.drawn:=by
   intro h
   split at h
   ·split at h
    ·cases h
    ·(have hh:=ih h; exact hh)
   ·split at h
    ·rename_i w1 l hf
     rw [← qDa hf]
     exact (have hh:=ih h; hh)
    ·cases h
  cases v with
  | agg _=>exact absurd (show Result.halt _ w=Result.ok x w' from h) (fun e=>by cases e)
  | tuple _=>exact absurd (show Result.halt _ w=Result.ok x w' from h) (fun e=>by cases e)
  | _=>exact key h
 | new o k ih=>intro w w' x h; simp only [Sem.run]at h; (have hh:=ih _ h; exact hh)
 | shape r k ih=>intro w w' x h; simp only [Sem.run]at h; (have hh:=ih _ h; exact hh)
 | freeze a n k ih =>
  intro w w' x h
  simp only [Sem.run]at h
  have:=ih h
  unfold World.freeze at this
  split at this <;> exact this
 | frozen a k ih=>intro w w' x h; simp only [Sem.run]at h; (have hh:=ih _ h; exact hh)
 | getObj r k ih =>
  intro w w' x h
  simp only [Sem.run]at h
  split at h
  ·cases h
  ·(have hh:=ih _ h; exact hh)
  ·cases h
 | setObj r o k ih =>
  intro w w' x h
  simp only [Sem.run]at h
  split at h
  ·cases h
  ·(have hh:=ih h; exact hh)
  ·cases h
 | choose q k ih =>
  intro w w' x h
  simp only [Sem.run]at h
  split at h
  ·(have hh:=ih _ h; exact hh)
  ·exact Nat.le_trans (Nat.le_succ _) (have hh:=ih _ h; hh)
 | sys c k ih=>intro w w' x h; simp only [Sem.run]at h; exact Nat.le_trans (qFY w c) (have hh:=ih _ h; hh)
 | program k ih=>intro w w' x h; simp only [Sem.run]at h; (have hh:=ih _ h; exact hh)
 | mark m k ih=>intro w w' x h; simp only [Sem.run]at h; (have hh:=ih h; exact hh)
 | halt e=>intro w w' x h; simp only [Sem.run]at h; cases h
section
variable {P:Program} {ops:Array Oper} {Q:Exit→Act→World→Prop} {n:Nat} {E E':Nat→Value} {a:Act} {w:World}
theorem plain{id:Nat}{L:List Nat}(hL:List.range ops.size=L)(h:wpOps P ops Q L a w):(Code.region id ops false).wp P Q a w:=by
 subst hL
 exact wp_region h
theorem qEF{i:Nat}{rest:List Nat}{o:Oper}{v:Value}(hE:Env n E a)(ho:ops[i]? = some o)(hw:wantE E ops o=true)(hr:(execOp (ev E) o).run P w = .ok (.value v) w)(h:wpOps P ops Q rest (a.put o.dst v) w):wpOps P ops Q (i :: rest) a w:=by
 rw [wpOps_cons]
 unfold wpOp
 rw [ho]
 simp only [qCY hE,hw,if_true]
 refine .inl ?_
 unfold Oper.wp
 rw [hE.eval,hr]
 exact h
theorem qGx{i:Nat}{rest:List Nat}{o:Oper}(hE:Env n E a)(ho:ops[i]? = some o)(hw:wantE E ops o=false)(h:wpOps P ops Q rest (a.put o.dst undef) w):wpOps P ops Q (i :: rest) a w:=by
 rw [wpOps_cons]
 unfold wpOp
 rw [ho]
 simp only [qCY hE,hw,Bool.false_eq_true,if_false]
 exact h
theorem qFa{S:World→Prop}{is rest:List Nat}(hc:Chain P S ops n E is E'):∀ {a:Act},Env n E a→S w→(∀ a',Env n E' a'→wpOps P ops Q rest a' w)→wpOps P ops Q (is++rest) a w:=by
 induction hc with
 | nil=>intro a hE _ h; exact h a hE
 | p i hs _ ih =>
  intro a hE hS h
  obtain ⟨o,v,ho,hd,rfl,hy⟩:=qDd hs
  rcases hy with ⟨hw,hr⟩ | ⟨hw,rfl⟩
  ·exact qEF hE ho hw (hr w) (ih (hE.put hd v) hS h)
  ·exact qGx hE ho hw (ih (hE.put hd _) hS h)
 | v i d ho hd hn hw hr _ ih =>
  intro a hE hS h
  exact qEF hE ho hw (hr w hS) (by rw [hd]; exact ih (hE.put (d:=some d) hn _) hS h)
theorem qGy {rest:List Nat} {o:Oper} {R:Value→World→Prop} (i:Nat) (hE:Env n E a) (d:Option Nat) (ho:ops[i]? = some o) (hd:o.dst=d) (hn:okD n d=true) (hw:wantE E ops o=true) (he:Eff P E o w R)
  (h:∀ v w' a',R v w'→Env n (updO E d v) a'→wpOps P ops Q rest a' w'):wpOps P ops Q (i :: rest) a w:=by
 rw [wpOps_cons]
 unfold wpOp
 rw [ho]
 simp only [qCY hE,hw,if_true]
 subst hd
 exact .inl (he a hE.eval _ Q (fun v w' hr=>h v w' _ hr (hE.put hn v)))
end
class PQ (Q:Exit→Act→World→Prop):Prop where
 out:∀(c:List PanicEntry)(a a':Act)(w:World),a'.defers=a.defers→Q (.panic c) a w→Q (.panic c) a' w
instance pq_body (P:Program) (fn:Func) (R:Ending→World→Prop):PQ (bodyPost P fn R):=⟨fun _ _ _ _ hd h=>⟨hd.trans h.1,h.2⟩⟩
instance pq_then (K:Act→World→Prop) (Q:Exit→Act→World→Prop) [h:PQ Q]:PQ (Exit.then K Q):=⟨fun c a a' w hd hq=>h.out c a a' w hd hq⟩
instance pq_block (id:Nat) (Q:Exit→Act→World→Prop) [h:PQ Q]:PQ (Exit.inBlock id Q):=⟨fun c a a' w hd hq=>h.out c a a' w hd hq⟩
theorem qFb{Q:Exit→Act→World→Prop}[h:PQ Q](d:Option Tmp)(v:Value):∀ c a w,Q (.panic c) (a.put d v) w→Q (.panic c) a w:=fun c a w hq=>h.out c _ a w (by cases d <;> rfl) hq
def Agr(w w':World):Prop:=w.heap.size≤w'.heap.size∧∀ b,b<w.heap.size→w'.heap[b]? = w.heap[b]?
theorem Agr.refl(w:World):Agr w w:=⟨Nat.le_refl _,fun _ _=>rfl⟩
theorem Agr.trans{a b c:World}(h:Agr a b)(k:Agr b c):Agr a c:=⟨Nat.le_trans h.1 k.1,fun i hi=>(k.2 i (Nat.lt_of_lt_of_le hi h.1)).trans (h.2 i hi)⟩
theorem Agr.drew(w:World):Agr w w.drew:=⟨Nat.le_refl _,fun _ _=>rfl⟩
theorem Agr.cell{w w':World}(h:Agr w w'){p:Addr}{v:Value}(hc:w.cell? p=some v):w'.cell? p=some v:=by
 have hlt:=World.block_lt_of_cell? w p hc
 unfold World.cell? at hc ⊢
 rw [h.2 _ hlt]
 exact hc
def AgrX(X:Nat→Prop)(w w':World):Prop:=w.heap.size≤w'.heap.size∧∀ b,b<w.heap.size→¬ X b→w'.heap[b]? = w.heap[b]?
theorem AgrX.refl(X:Nat→Prop)(w:World):AgrX X w w:=⟨Nat.le_refl _,fun _ _ _=>rfl⟩
theorem AgrX.trans{X:Nat→Prop}{a b c:World}(h:AgrX X a b)(k:AgrX X b c):AgrX X a c:=⟨Nat.le_trans h.1 k.1,fun i hi hx=>(k.2 i (Nat.lt_of_lt_of_le hi h.1) hx).trans (h.2 i hi hx)⟩
theorem Agr.x{X:Nat→Prop}{w w':World}(h:Agr w w'):AgrX X w w':=⟨h.1,fun i hi _=>h.2 i hi⟩
structure Dr where
 ds:List Nat
 cs:List Nat
 X:Nat→Prop
def Keeps(D:Dr)(i:Nat)(w w':World):Prop:=(i ∉ D.ds→Agr w w')∧(i ∈ D.cs→AgrX D.X w w')
theorem Keeps.refl(D:Dr)(i:Nat)(w:World):Keeps D i w w:=⟨fun _=>Agr.refl _,fun _=>AgrX.refl _ _⟩
section
variable {P:Program} {ops:Array Oper} {Q:Exit→Act→World→Prop} {n:Nat} {E E':Nat→Value} {a:Act} {w:World} {S SX:World→Prop} {D:Dr}
open Go.Proofs.YtpabbpebefdafaaGreatW.PrintLast
def wpK(P:Program)(ops:Array Oper)(Q:Exit→Act→World→Prop)(D:Dr):Nat→Array Bool→Act→World→Prop
 | 0,listed,a,w=>Region.ready .any ops listed=[]∧Q .normal a w
 | fuel+1,listed,a,w =>
  (Region.ready .any ops listed=[]→Q .normal a w) ∧
  ∀ i ∈ Region.ready .any ops listed,wpOp P ops Q i (fun a' w'=>Keeps D i w w'∧wpK P ops Q D fuel (listed.setIfInBounds i true) a' w') a w
theorem qDe:∀(fuel:Nat)(listed:Array Bool)(a:Act)(w:World),wpK P ops Q D fuel listed a w→wpAny P .any ops Q fuel listed a w
 | 0,_,_,_,h=>h
 | fuel+1,_,_,_,h=>⟨h.1,fun i hi=>wpOp_mono (fun a' w' h'=>qDe fuel _ a' w' h'.2) (h.2 i hi)⟩
def Waits(ops:Array Oper)(d i:Nat):Prop:=∀ listed:Array Bool,ListedClosed .any ops listed→listed.getD i true=false→d ∉ Region.ready .any ops listed
theorem qFc {i:Nat} {oi:Oper} {v:Value} {w0:World} (hi:ops[i]? = some oi) (hsel:∀(j:Nat) (o:Oper) cs b,ops[j]? = some o→o.op ≠ .select cs b)
  (hQ:∀ c a w,Q (.panic c) (a.put oi.dst v) w→Q (.panic c) a w) :
  ∀(fuel:Nat)(listed:Array Bool)(a:Act)(w:World),
   (∀ j oj,ops[j]? = some oj→j≠i→listed.getD j true=false→(∀ e ∈ oj.after,Region.binds .any e=true→e.on≠i)→oi.apart ops oj=true) →
   ListedClosed .any ops listed→(∀ d ∈ D.ds,listed.getD d true=false→Waits ops d i) →
   i ∈ Region.ready .any ops listed→YieldsIf P ops (Agr w0) oi v a→Agr w0 w →
   wpK P ops Q D fuel (listed.setIfInBounds i true) (a.put oi.dst v) w→wpK P ops Q D (fuel+1) listed a w:=by
 intro fuel
 induction fuel with
 | zero =>
  intro listed a w _ _ _ hr hy hS H
  refine ⟨fun h=>(by rw [h]at hr; cases hr),fun j hj=>?_⟩
  by_cases hji:j=i
  ·subst hji; exact hy.wpOp hi hS ⟨Keeps.refl _ _ _,H⟩
  ·have:=ready_mono hj hji
   rw [H.1]at this
   cases this
 | succ fuel ih =>
  intro listed a w hfree hc hd hr hy hS H
  refine ⟨fun h=>(by rw [h]at hr; cases hr),fun j hj=>?_⟩
  by_cases hji:j=i
  ·subst hji; exact hy.wpOp hi hS ⟨Keeps.refl _ _ _,H⟩
  ·have h1:=H.2 j (ready_mono hj hji)
   obtain ⟨hjun,oj,hoj,hall⟩:=mem_ready.1 hj
   have hiun:=(mem_ready.1 hr).1
   have hnot:∀ e ∈ oj.after,Region.binds .any e=true→e.on≠i:=fun e he hb heq=>by
    have h1:=hall e he hb
    rw [heq]at h1
    rcases Nat.lt_or_ge i listed.size with h' | h'
    ·simp [h']at hiun h1; rw [hiun]at h1; cases h1
    ·simp [Array.getElem?_eq_none h']at h1
   have hjd:j ∉ D.ds:=fun hm=>hd j hm hjun listed hc hiun hj
   have h2:=wpOp_putIf hoj (hfree j oj hoj hji hjun hnot) (fun cs b=>hsel i oi cs b hi) (fun cs b=>hsel j oj cs b hoj) hQ hy h1
   have hfree':∀ k ok,ops[k]? = some ok→k≠i→(listed.setIfInBounds j true).getD k true=false →
     (∀ e ∈ ok.after,Region.binds .any e=true→e.on≠i)→oi.apart ops ok=true:=fun k ok hk hki hun hno=>by
    refine hfree k ok hk hki ?_ hno
    by_cases hjk:j=k
    ·subst hjk; exact hjun
    ·rw [getD_set_ne true hjk]at hun; exact hun
   have hd':∀ d ∈ D.ds,(listed.setIfInBounds j true).getD d true=false→Waits ops d i:=fun d hm hun=>by
    refine hd d hm ?_
    by_cases hjk:j=d
    ·subst hjk; exact hjun
    ·rw [getD_set_ne true hjk]at hun; exact hun
   refine wpOp_mono (fun a' w' h3=>⟨h3.2.1,ih (listed.setIfInBounds j true) a' w' hfree' (hc.set hj) hd' (ready_mono hr (Ne.symm hji)) h3.1 (hS.trans (h3.2.1.1 hjd)) ?_⟩) h2
   rw [Array.setIfInBounds_comm _ _ hji]
   exact h3.2.2
theorem qFK {i:Nat} {oi:Oper} {v:Value} {w0:World} (hi:ops[i]? = some oi) (hsel:∀(j:Nat) (o:Oper) cs b,ops[j]? = some o→o.op ≠ .select cs b)
  (hQ:∀ c a w,Q (.panic c) (a.put oi.dst v) w→Q (.panic c) a w) :
  ∀(fuel:Nat)(listed:Array Bool)(a:Act)(w:World),
   (∀ j oj,ops[j]? = some oj→j≠i→listed.getD j true=false→(∀ e ∈ oj.after,Region.binds .any e=true→e.on≠i)→oi.apart ops oj=true) →
   ListedClosed .any ops listed→(∀ d ∈ D.ds,d ∉ D.cs→listed.getD d true=false→Waits ops d i) →
   i ∈ Region.ready .any ops listed→YieldsIf P ops (AgrX D.X w0) oi v a→AgrX D.X w0 w →
   wpK P ops Q D fuel (listed.setIfInBounds i true) (a.put oi.dst v) w→wpK P ops Q D (fuel+1) listed a w:=by
 intro fuel
 induction fuel with
 | zero =>
  intro listed a w _ _ _ hr hy hS H
  refine ⟨fun h=>(by rw [h]at hr; cases hr),fun j hj=>?_⟩
  by_cases hji:j=i
  ·subst hji; exact hy.wpOp hi hS ⟨Keeps.refl _ _ _,H⟩
  ·have:=ready_mono hj hji
   rw [H.1]at this
   cases this
 | succ fuel ih =>
  intro listed a w hfree hc hd hr hy hS H
  refine ⟨fun h=>(by rw [h]at hr; cases hr),fun j hj=>?_⟩
  by_cases hji:j=i
  ·subst hji; exact hy.wpOp hi hS ⟨Keeps.refl _ _ _,H⟩
  ·have h1:=H.2 j (ready_mono hj hji)
   obtain ⟨hjun,oj,hoj,hall⟩:=mem_ready.1 hj
   have hiun:=(mem_ready.1 hr).1
   have hnot:∀ e ∈ oj.after,Region.binds .any e=true→e.on≠i:=fun e he hb heq=>by
    have h1:=hall e he hb
    rw [heq]at h1
    rcases Nat.lt_or_ge i listed.size with h' | h'
    ·simp [h']at hiun h1; rw [hiun]at h1; cases h1
    ·simp [Array.getElem?_eq_none h']at h1
   have hjd:j ∈ D.ds→j ∈ D.cs:=fun hm=>Classical.byContradiction fun hn=>hd j hm hn hjun listed hc hiun hj
   have h2:=wpOp_putIf hoj (hfree j oj hoj hji hjun hnot) (fun cs b=>hsel i oi cs b hi) (fun cs b=>hsel j oj cs b hoj) hQ hy h1
   have hfree':∀ k ok,ops[k]? = some ok→k≠i→(listed.setIfInBounds j true).getD k true=false →
     (∀ e ∈ ok.after,Region.binds .any e=true→e.on≠i)→oi.apart ops ok=true:=fun k ok hk hki hun hno=>by
    refine hfree k ok hk hki ?_ hno
    by_cases hjk:j=k
    ·subst hjk; exact hjun
    ·rw [getD_set_ne true hjk]at hun; exact hun
   have hd':∀ d ∈ D.ds,d ∉ D.cs→(listed.setIfInBounds j true).getD d true=false→Waits ops d i:=fun d hm hnc hun=>by
    refine hd d hm hnc ?_
    by_cases hjk:j=d
    ·subst hjk; exact hjun
    ·rw [getD_set_ne true hjk]at hun; exact hun
   refine wpOp_mono (fun a' w' h3=>⟨h3.2.1,ih (listed.setIfInBounds j true) a' w' hfree' (hc.set hj) hd' (ready_mono hr (Ne.symm hji)) h3.1 (hS.trans (by
    by_cases hm:j ∈ D.ds
    ·exact h3.2.1.2 (hjd hm)
    ·exact (h3.2.1.1 hm).x)) ?_⟩) h2
   rw [Array.setIfInBounds_comm _ _ hji]
   exact h3.2.2
theorem qGz {i:Nat} {oi:Oper} {v:Value} (hi:ops[i]? = some oi) (hsel:∀(j:Nat) (o:Oper) cs b,ops[j]? = some o→o.op ≠ .select cs b)
  (hQ:∀ c a w,Q (.panic c) (a.put oi.dst v) w→Q (.panic c) a w) :
  ∀(fuel:Nat)(listed:Array Bool)(a:Act)(w:World),
   (∀ j oj,ops[j]? = some oj→j≠i→listed.getD j true=false→(∀ e ∈ oj.after,Region.binds .any e=true→e.on≠i)→oi.apart ops oj=true) →
   i ∈ Region.ready .any ops listed→Yields P ops oi v a →
   wpK P ops Q D fuel (listed.setIfInBounds i true) (a.put oi.dst v) w→wpK P ops Q D (fuel+1) listed a w:=by
 intro fuel
 induction fuel with
 | zero =>
  intro listed a w _ hr hy H
  refine ⟨fun h=>(by rw [h]at hr; cases hr),fun j hj=>?_⟩
  by_cases hji:j=i
  ·subst hji; exact (hy.yieldsIf (S:=fun _=>True)).wpOp hi trivial ⟨Keeps.refl _ _ _,H⟩
  ·have:=ready_mono hj hji
   rw [H.1]at this
   cases this
 | succ fuel ih =>
  intro listed a w hfree hr hy H
  refine ⟨fun h=>(by rw [h]at hr; cases hr),fun j hj=>?_⟩
  by_cases hji:j=i
  ·subst hji; exact (hy.yieldsIf (S:=fun _=>True)).wpOp hi trivial ⟨Keeps.refl _ _ _,H⟩
  ·have h1:=H.2 j (ready_mono hj hji)
   obtain ⟨hjun,oj,hoj,hall⟩:=mem_ready.1 hj
   have hiun:=(mem_ready.1 hr).1
   have hnot:∀ e ∈ oj.after,Region.binds .any e=true→e.on≠i:=fun e he hb heq=>by
    have h1:=hall e he hb
    rw [heq]at h1
    rcases Nat.lt_or_ge i listed.size with h' | h'
    ·simp [h']at hiun h1; rw [hiun]at h1; cases h1
    ·simp [Array.getElem?_eq_none h']at h1
   have h2:=wpOp_put hoj (hfree j oj hoj hji hjun hnot) (fun cs b=>hsel i oi cs b hi) (fun cs b=>hsel j oj cs b hoj) hQ hy h1
   have hfree':∀ k ok,ops[k]? = some ok→k≠i→(listed.setIfInBounds j true).getD k true=false →
     (∀ e ∈ ok.after,Region.binds .any e=true→e.on≠i)→oi.apart ops ok=true:=fun k ok hk hki hun hno=>by
    refine hfree k ok hk hki ?_ hno
    by_cases hjk:j=k
    ·subst hjk; exact hjun
    ·rw [getD_set_ne true hjk]at hun; exact hun
   refine wpOp_mono (fun a' w' h3=>⟨h3.2.1,ih (listed.setIfInBounds j true) a' w' hfree' (ready_mono hr (Ne.symm hji)) h3.1 ?_⟩) h2
   rw [Array.setIfInBounds_comm _ _ hji]
   exact h3.2.2
def bits(n m:Nat):Array Bool:=(List.range n).map (fun i=>m.testBit i) |>.toArray
theorem qCh(n m i:Nat)(d:Bool)(h:i<n):(bits n m).getD i d=m.testBit i:=by simp [bits,h]
theorem qDt(n m i:Nat)(d:Bool)(h:n≤i):(bits n m).getD i d=d:=by
 unfold bits
 rw [Array.getD_eq_getD_getElem?,Array.getElem?_eq_none (by simpa using h)]
 rfl
theorem qCd(n m i:Nat)(h:i<n):(bits n m).setIfInBounds i true=bits n (m ||| 1 <<< i):=by
 unfold bits
 apply Array.ext'
 simp
 apply List.ext_getElem
 ·simp
 ·intro j h1 h2
  simp [List.getElem_set]
  by_cases e:i=j
  ·subst e
   simp
  ·simp [e]
   intro hle hb
   have:=Nat.testBit_one_eq_true_iff_self_eq_zero.1 hb
   omega
def bindsB(e:Edge):Bool:=Region.binds .any e
def closM(ops:Array Oper):List Nat:=ops.toList.foldl (fun acc o=>acc++[o.after.toList.foldl (fun m e=>bif bindsB e then (m ||| (1 <<< e.on)) ||| acc.getD e.on 0 else m) 0]) []
def certB(ops:Array Oper)(cl:List Nat):Bool:=(List.range ops.size).all fun i=>match ops[i]? with
 | none=>true
 | some o=>(List.range ops.size).all fun j => !(cl.getD i 0).testBit j||o.after.toList.any fun e=>bindsB e&&Nat.blt e.on i&&(e.on == j||(cl.getD e.on 0).testBit j)
def pairsB(ops:Array Oper)(cl:List Nat):Bool:=(List.range ops.size).all fun i=>match ops[i]? with
 | none=>true
 | some oi=>(List.range ops.size).all fun j=>j == i||(cl.getD i 0).testBit j||match ops[j]? with
  | none=>true
  | some oj=>oj.after.toList.any (fun e=>bindsB e&&e.on == i)||oi.apart ops oj
def statB(ops:Array Oper):Bool:=Region.noSelect ops&&certB ops (closM ops)&&pairsB ops (closM ops)
theorem qEG{cl:List Nat}(h:certB ops cl=true){listed:Array Bool}(hc:ListedClosed .any ops listed):∀(i:Nat)(o:Oper),ops[i]? = some o→(∀ e ∈ o.after,bindsB e=true→listed.getD e.on false=true)→∀ j,j<ops.size→(cl.getD i 0).testBit j=true→listed.getD j false=true:=by
 intro i
 induction i using Nat.strongRecOn with
 | _ i ih =>
  intro o ho hall j hj hb
  have h1:=List.all_eq_true.1 h i (List.mem_range.2 (Array.getElem?_eq_some_iff.1 ho).1)
  simp only [ho]at h1
  have h2:=List.all_eq_true.1 h1 j (List.mem_range.2 hj)
  simp only [hb,Bool.not_true,Bool.false_or]at h2
  obtain ⟨e,he,h3⟩:=List.any_eq_true.1 h2
  simp only [Bool.and_eq_true,Bool.or_eq_true,beq_iff_eq,Nat.blt_eq]at h3
  obtain ⟨⟨hbi,hlt⟩,h4⟩:=h3
  have hle:=hall e (Array.mem_toList_iff.1 he) hbi
  rcases h4 with h4 | h4
  ·rw [← h4]; exact hle
  ·have heo:e.on<ops.size:=Nat.lt_trans hlt (Array.getElem?_eq_some_iff.1 ho).1
   exact ih e.on hlt _ (Array.getElem?_eq_getElem heo) (fun e' he' hb'=>hc e.on _ (Array.getElem?_eq_getElem heo) hle e' he' hb') j hj h4
def rdB(ops:Array Oper)(m i:Nat):Bool:=match ops[i]? with
 | none=>false
 | some o => !m.testBit i&&o.after.toList.all fun e => !bindsB e||m.testBit e.on&&Nat.blt e.on ops.size
theorem qDu{m i:Nat}(h:rdB ops m i=true):i ∈ Region.ready .any ops (bits ops.size m):=by
 unfold rdB at h
 cases ho:ops[i]? with
 | none=>rw [ho]at h; cases h
 | some o =>
  rw [ho]at h
  simp only [Bool.and_eq_true,Bool.not_eq_true']at h
  have hi:=(Array.getElem?_eq_some_iff.1 ho).1
  refine mem_ready.2 ⟨by rw [qCh _ _ _ _ hi]; exact h.1,o,ho,fun e he hb=>?_⟩
  have h1:=List.all_eq_true.1 h.2 e (Array.mem_toList_iff.2 he)
  simp only [bindsB,hb,Bool.not_true,Bool.false_or,Bool.and_eq_true,Nat.blt_eq]at h1
  rw [qCh _ _ _ _ h1.2]
  exact h1.1
theorem qEv{m i:Nat}(h:i ∈ Region.ready .any ops (bits ops.size m)):rdB ops m i=true:=by
 obtain ⟨h1,o,ho,h2⟩:=mem_ready.1 h
 have hi:=(Array.getElem?_eq_some_iff.1 ho).1
 rw [qCh _ _ _ _ hi]at h1
 unfold rdB
 rw [ho]
 simp only [h1,Bool.not_false,Bool.true_and]
 refine List.all_eq_true.2 fun e he=>?_
 cases hb:bindsB e with
 | false=>rfl
 | true =>
  have h3:=h2 e (Array.mem_toList_iff.1 he) hb
  rcases Nat.lt_or_ge e.on ops.size with hlt | hge
  ·rw [qCh _ _ _ _ hlt]at h3
   simp [h3,hlt]
  ·rw [qDt _ _ _ _ hge]at h3
   cases h3
def Any(P:Program)(ops:Array Oper)(Q:Exit→Act→World→Prop)(D:Dr)(fuel m:Nat)(a:Act)(w':World):Prop:=ListedClosed .any ops (bits ops.size m)→wpK P ops Q D fuel (bits ops.size m) a w'
theorem drawn{id:Nat}(sz:Nat)(D:Dr)(hm:P.follows .mixedOrders=true)(hn:ops.size=sz)(hs:statB ops=true)(h:statB ops=true→Any P ops Q D sz 0 a w.drew):(Code.region id ops true).wp P Q a w:=by
 refine wp_region_any hm (qDe (D:=D) _ _ _ _ ?_)
 subst hn
 have e:Array.replicate ops.size false=bits ops.size 0:=by
  unfold bits
  apply Array.ext'
  simp
  apply List.ext_getElem
  ·simp
  ·intro i h1 h2
   simp
 rw [e]
 refine h hs (fun j oj _ hl=>?_)
 rcases Nat.lt_or_ge j ops.size with hlt | hge
 ·rw [qCh _ _ _ _ hlt]at hl; simp at hl
 ·rw [qDt _ _ _ _ hge]at hl; cases hl
def takesM(ops:Array Oper)(D:Dr):List (Nat × Nat)→Nat→Option Nat
 | [],m=>some m
 | (i,p) :: is,m=>match rdB ops m i&&(p == 1||(D.ds.all fun d=>(p == 2&&D.cs.contains d)||m.testBit d||((closM ops).getD d 0).testBit i)) with
  | true=>takesM ops D is (m ||| 1 <<< i)
  | false=>none
def takesB(ops:Array Oper)(D:Dr)(is:List (Nat × Nat))(m m':Nat):Bool:=takesM ops D is m == some m'
inductive ChainD (P:Program) (S SX:World→Prop) (ops:Array Oper) (n:Nat):(Nat→Value)→List (Nat × Nat)→(Nat→Value)→Prop
 | nil {E:Nat→Value} : ChainD P S SX ops n E [] E
 | p {E E1 E2:Nat→Value} (i:Nat) {is:List (Nat × Nat)} : stepE P ops n E i=some E1→ChainD P S SX ops n E1 is E2→ChainD P S SX ops n E ((i,1) :: is) E2
 | v {E E2:Nat→Value} (i:Nat) {is:List (Nat × Nat)} {o:Oper} {v:Value} (d:Nat):ops[i]? = some o→o.dst=some d→Nat.blt d n=true→wantE E ops o=true→YS P S E o v→ChainD P S SX ops n (upd E d v) is E2→ChainD P S SX ops n E ((i,0) :: is) E2
 | q {E E2:Nat→Value} (i:Nat) {is:List (Nat × Nat)} {o:Oper} {v:Value} (d:Nat):ops[i]? = some o→o.dst=some d→Nat.blt d n=true→wantE E ops o=true→YA P E o v→ChainD P S SX ops n (upd E d v) is E2→ChainD P S SX ops n E ((i,1) :: is) E2
 | xr {E E2:Nat→Value} (i:Nat) {is:List (Nat × Nat)} {o:Oper} {v:Value} (d:Nat):ops[i]? = some o→o.dst=some d→Nat.blt d n=true→wantE E ops o=true→YS P SX E o v→ChainD P S SX ops n (upd E d v) is E2→ChainD P S SX ops n E ((i,2) :: is) E2
theorem qDO(hs:statB ops=true){m i:Nat}{oi:Oper}(ho:ops[i]? = some oi)(hc:ListedClosed .any ops (bits ops.size m))(hr:i ∈ Region.ready .any ops (bits ops.size m)):
  ∀ j oj,ops[j]? = some oj→j≠i→(bits ops.size m).getD j true=false→(∀ e ∈ oj.after,Region.binds .any e=true→e.on≠i)→oi.apart ops oj=true:=by
 intro j oj hj hne hun hno
 simp only [statB,Bool.and_eq_true]at hs
 have hi:=(Array.getElem?_eq_some_iff.1 ho).1
 have hjl:=(Array.getElem?_eq_some_iff.1 hj).1
 have h1:=List.all_eq_true.1 hs.2 i (List.mem_range.2 hi)
 simp only [ho]at h1
 have h2:=List.all_eq_true.1 h1 j (List.mem_range.2 hjl)
 simp only [hj,Bool.or_eq_true,beq_iff_eq,hne,false_or]at h2
 rcases h2 with h2 | h2 | h2
 ·obtain ⟨_,o',ho',hall⟩:=mem_ready.1 hr
  have:oi=o':=Option.some.inj (ho.symm.trans ho')
  subst this
  have h3:=qEG hs.1.2 hc i oi ho (fun e he hb=>hall e he hb) j hjl h2
  rw [qCh _ _ _ _ hjl]at h3 hun
  rw [h3]at hun
  cases hun
 ·obtain ⟨e,he,hb⟩:=List.any_eq_true.1 h2
  simp only [Bool.and_eq_true,beq_iff_eq]at hb
  exact absurd hb.2 (hno e (Array.mem_toList_iff.1 he) hb.1)
 ·exact h2
theorem qDf(hs:statB ops=true){d i:Nat}(hi:i<ops.size)(h:((closM ops).getD d 0).testBit i=true):Waits ops d i:=by
 intro listed hc hun hd
 simp only [statB,Bool.and_eq_true]at hs
 obtain ⟨_,o,ho,hall⟩:=mem_ready.1 hd
 have h3:=qEG hs.1.2 hc d o ho (fun e he hb=>hall e he hb) i hi h
 have:listed.getD i true=true:=by
  rw [Array.getD_eq_getD_getElem?]at h3 hun ⊢
  cases hl:listed[i]? with
  | none=>rfl
  | some b=>rw [hl]at h3; simpa using h3
 rw [this]at hun
 cases hun
theorem qFd[hQ:PQ Q](hs:statB ops=true){w0:World}{is:List (Nat × Nat)}(hc:ChainD P (Agr w0) (AgrX D.X w0) ops n E is E'):∀ {a:Act} {m m' fuel:Nat},Env n E a→Agr w0 w→takesM ops D is m=some m'→(∀ a',Env n E' a'→Any P ops Q D fuel m' a' w)→Any P ops Q D (fuel+is.length) m a w:=by
 have open_:∀ {i p:Nat} {is:List (Nat × Nat)} {m m':Nat},takesM ops D ((i,p) :: is) m=some m'→i ∈ Region.ready .any ops (bits ops.size m)∧(p=1∨∀ d ∈ D.ds,(p=2∧d ∈ D.cs)∨((bits ops.size m).getD d true=false→((closM ops).getD d 0).testBit i=true))∧takesM ops D is (m ||| 1 <<< i)=some m':=by
  intro i p is m m' h
  unfold takesM at h
  split at h
  ·rename_i hb
   simp only [Bool.and_eq_true,Bool.or_eq_true,beq_iff_eq]at hb
   refine ⟨qDu hb.1,hb.2.imp id (fun h1 d hd=>?_),h⟩
   have h2:=List.all_eq_true.1 h1 d hd
   simp only [Bool.or_eq_true,Bool.and_eq_true,beq_iff_eq,List.contains_iff_mem]at h2
   rcases h2 with (h2 | h2) | h2
   ·exact .inl h2
   ·refine .inr fun hun=>?_
    rcases Nat.lt_or_ge d ops.size with hlt | hge
    ·rw [qCh _ _ _ _ hlt,h2]at hun
     cases hun
    ·rw [qDt _ _ _ _ hge]at hun
     cases hun
   ·exact .inr fun _=>h2
  ·cases h
 have hsel:=Region.noSelect_spec (show Region.noSelect ops=true by simp only [statB,Bool.and_eq_true]at hs; exact hs.1.1)
 have any1:∀ {i:Nat} {o:Oper} {v:Value} {a:Act} {m fuel:Nat},ops[i]? = some o→i ∈ Region.ready .any ops (bits ops.size m)→Yields P ops o v a→Any P ops Q D fuel (m ||| 1 <<< i) (a.put o.dst v) w→Any P ops Q D (fuel+1) m a w:=by
  intro i o v a m fuel ho hb hy h hcl
  have hi:=(Array.getElem?_eq_some_iff.1 ho).1
  have hset:=hcl.set hb
  rw [qCd _ _ _ hi]at hset
  refine qGz ho hsel (qFb _ v) fuel _ a w (qDO hs ho hcl hb) hb hy ?_
  rw [qCd _ _ _ hi]
  exact h hset
 have take1:∀ {i:Nat} {o:Oper} {v:Value} {a:Act} {m fuel:Nat},ops[i]? = some o→i ∈ Region.ready .any ops (bits ops.size m)→(∀ d ∈ D.ds,(bits ops.size m).getD d true=false→((closM ops).getD d 0).testBit i=true)→YieldsIf P ops (Agr w0) o v a→Agr w0 w→Any P ops Q D fuel (m ||| 1 <<< i) (a.put o.dst v) w→Any P ops Q D (fuel+1) m a w:=by
  intro i o v a m fuel ho hb hd hy hS h hcl
  have hi:=(Array.getElem?_eq_some_iff.1 ho).1
  have hset:=hcl.set hb
  rw [qCd _ _ _ hi]at hset
  refine qFc ho hsel (qFb _ v) fuel _ a w (qDO hs ho hcl hb) hcl (fun d hm hun=>qDf hs hi (hd d hm hun)) hb hy hS ?_
  rw [qCd _ _ _ hi]
  exact h hset
 have takeX:∀ {i:Nat} {o:Oper} {v:Value} {a:Act} {m fuel:Nat},ops[i]? = some o→i ∈ Region.ready .any ops (bits ops.size m)→(∀ d ∈ D.ds,d ∉ D.cs→(bits ops.size m).getD d true=false→((closM ops).getD d 0).testBit i=true)→YieldsIf P ops (AgrX D.X w0) o v a→AgrX D.X w0 w→Any P ops Q D fuel (m ||| 1 <<< i) (a.put o.dst v) w→Any P ops Q D (fuel+1) m a w:=by
  intro i o v a m fuel ho hb hd hy hS h hcl
  have hi:=(Array.getElem?_eq_some_iff.1 ho).1
  have hset:=hcl.set hb
  rw [qCd _ _ _ hi]at hset
  refine qFK ho hsel (qFb _ v) fuel _ a w (qDO hs ho hcl hb) hcl (fun d hm hc hun=>qDf hs hi (hd d hm hc hun)) hb hy hS ?_
  rw [qCd _ _ _ hi]
  exact h hset
 induction hc with
 | nil =>
  intro a m m' fuel hE _ ht h
  simp only [takesM,Option.some.injEq]at ht
  subst ht
  exact h a hE
 | p i hst _ ih =>
  intro a m m' fuel hE hS ht h
  obtain ⟨o,v,ho,hd,rfl,hy⟩:=qDd hst
  obtain ⟨h1,_,h2⟩:=open_ ht
  refine any1 ho h1 ?_ (ih (hE.put hd v) hS h2 h)
  rcases hy with ⟨hw,hr⟩ | ⟨hw,rfl⟩
  ·exact .inl ⟨by rw [qCY hE]; exact hw,fun w'=>by rw [hE.eval]; exact hr w'⟩
  ·exact .inr ⟨by rw [qCY hE]; exact hw,rfl⟩
 | v i d ho hd hn hw hr _ ih =>
  intro a m m' fuel hE hS ht h
  obtain ⟨h1,h3,h2⟩:=open_ ht
  refine take1 ho h1 (fun d hd=>((h3.resolve_left (by simp)) d hd).resolve_left (fun hh=>by simp at hh)) (.inl ⟨by rw [qCY hE]; exact hw,fun w' hw'=>by rw [hE.eval]; exact hr w' hw'⟩) hS ?_
  rw [hd]
  exact ih (hE.put (d:=some d) hn _) hS h2 h
 | q i d ho hd hn hw hr _ ih =>
  intro a m m' fuel hE hS ht h
  obtain ⟨h1,_,h2⟩:=open_ ht
  refine any1 ho h1 (.inl ⟨by rw [qCY hE]; exact hw,fun w'=>by rw [hE.eval]; exact hr w'⟩) ?_
  rw [hd]
  exact ih (hE.put (d:=some d) hn _) hS h2 h
 | xr i d ho hd hn hw hr _ ih =>
  intro a m m' fuel hE hS ht h
  obtain ⟨h1,h3,h2⟩:=open_ ht
  refine takeX ho h1 (fun d hd hc=>((h3.resolve_left (by simp)) d hd).resolve_left (fun hh=>hc hh.2)) (.inl ⟨by rw [qCY hE]; exact hw,fun w' hw'=>by rw [hE.eval]; exact hr w' hw'⟩) hS.x ?_
  rw [hd]
  exact ih (hE.put (d:=some d) hn _) hS h2 h
variable {fuel m:Nat}
theorem many[hQ:PQ Q]{is:List (Nat × Nat)}(m':Nat)(hs:statB ops=true)(hE:Env n E a)(hc:ChainD P (Agr w) (AgrX D.X w) ops n E is E')(ht:takesB ops D is m m'=true)(h:∀ a',Env n E' a'→Any P ops Q D fuel m' a' w):Any P ops Q D (fuel+is.length) m a w :=
 qFd hs hc hE (Agr.refl _) (by simpa [takesB] using ht) h
def aloneB(ops:Array Oper)(i m m':Nat):Bool:=((List.range ops.size).all fun j=>rdB ops m j == (j == i))&&(m ||| 1 <<< i == m')
theorem one {o:Oper} {R:Value→World→Prop} (i m':Nat) (hE:Env n E a) (d:Option Nat) (ho:ops[i]? = some o) (hd:o.dst=d) (hn:okD n d=true) (hw:wantE E ops o=true) (hr:aloneB ops i m m'=true) (he:Eff P E o w R)
  (h:∀ v w' a',R v w'→Env n (updO E d v) a'→Keeps D i w w'∧Any P ops Q D fuel m' a' w'):Any P ops Q D (fuel+1) m a w:=by
 intro hcl
 simp only [aloneB,Bool.and_eq_true,beq_iff_eq]at hr
 obtain ⟨hr1,rfl⟩:=hr
 have hi:=(Array.getElem?_eq_some_iff.1 ho).1
 have hall:∀ j,j ∈ Region.ready .any ops (bits ops.size m)→j=i:=fun j hj=>by
  have hjl:j<ops.size:=by
   obtain ⟨_,o',ho',_⟩:=mem_ready.1 hj
   exact (Array.getElem?_eq_some_iff.1 ho').1
  have h1:=List.all_eq_true.1 hr1 j (List.mem_range.2 hjl)
  rw [qEv hj]at h1
  simpa using h1
 have hin:i ∈ Region.ready .any ops (bits ops.size m):=by
  have h1:=List.all_eq_true.1 hr1 i (List.mem_range.2 hi)
  exact qDu (by simpa using h1)
 have hset:=hcl.set hin
 rw [qCd _ _ _ hi]at hset
 unfold wpK
 refine ⟨fun h0=>(by rw [h0]at hin; cases hin),fun j hj=>?_⟩
 obtain rfl:=hall j hj
 unfold wpOp
 rw [ho]
 simp only [qCY hE,hw,if_true]
 subst hd
 rw [qCd _ _ _ hi]
 exact .inl (he a hE.eval _ Q (fun v w' hr=>⟨(h v w' _ hr (hE.put hn v)).1,(h v w' _ hr (hE.put hn v)).2 hset⟩))
def pickB(ops:Array Oper)(i j m:Nat):Bool:=rdB ops m i&&rdB ops m j&&(List.range ops.size).all fun q => !rdB ops m q||q == i||q == j
theorem qFe {o:Oper} {R:Value→World→Prop} {m':Nat} (i:Nat) (hE:Env n E a) (d:Option Nat) (ho:ops[i]? = some o) (hd:o.dst=d) (hn:okD n d=true) (hw:wantE E ops o=true) (he:Eff P E o w R)
  (h:∀ v w' a',R v w'→Env n (updO E d v) a'→Keeps D i w w'∧Any P ops Q D fuel m' a' w'):wpOp P ops Q i (fun a' w'=>Keeps D i w w'∧Any P ops Q D fuel m' a' w') a w:=by
 unfold wpOp
 rw [ho]
 simp only [qCY hE,hw,if_true]
 subst hd
 exact .inl (he a hE.eval _ Q (fun v w' hr=>h v w' _ hr (hE.put hn v)))
theorem pick2(i j mi mj:Nat)(hr:pickB ops i j m=true)(hmi:m ||| 1 <<< i=mi)(hmj:m ||| 1 <<< j=mj)(h1:wpOp P ops Q i (fun a' w'=>Keeps D i w w'∧Any P ops Q D fuel mi a' w') a w)(h2:wpOp P ops Q j (fun a' w'=>Keeps D j w w'∧Any P ops Q D fuel mj a' w') a w):Any P ops Q D (fuel+1) m a w:=by
 intro hcl
 subst hmi
 subst hmj
 simp only [pickB,Bool.and_eq_true]at hr
 obtain ⟨⟨hi,hj⟩,hall⟩:=hr
 have hin:=qDu hi
 have hjn:=qDu hj
 have hil:i<ops.size:=by
  obtain ⟨_,o',ho',_⟩:=mem_ready.1 hin
  exact (Array.getElem?_eq_some_iff.1 ho').1
 have hjl:j<ops.size:=by
  obtain ⟨_,o',ho',_⟩:=mem_ready.1 hjn
  exact (Array.getElem?_eq_some_iff.1 ho').1
 unfold wpK
 refine ⟨fun h0=>(by rw [h0]at hin; cases hin),fun q hq=>?_⟩
 have hql:q<ops.size:=by
  obtain ⟨_,o',ho',_⟩:=mem_ready.1 hq
  exact (Array.getElem?_eq_some_iff.1 ho').1
 have h3:=List.all_eq_true.1 hall q (List.mem_range.2 hql)
 rw [qEv hq]at h3
 simp only [Bool.not_true,Bool.false_or,Bool.or_eq_true,beq_iff_eq]at h3
 rcases h3 with rfl | rfl
 ·have hset:=hcl.set hin
  rw [qCd _ _ _ hil]at hset ⊢
  exact wpOp_mono (fun a' w' h'=>⟨h'.1,h'.2 hset⟩) h1
 ·have hset:=hcl.set hjn
  rw [qCd _ _ _ hjl]at hset ⊢
  exact wpOp_mono (fun a' w' h'=>⟨h'.1,h'.2 hset⟩) h2
theorem meet2(I:Act→World→Prop)(fuel' m':Nat)(hJ:∀ a w',I a w'→Any P ops Q D fuel' m' a w')(h:(∀ a w',I a w'→Any P ops Q D fuel' m' a w')→Any P ops Q D fuel m a w):Any P ops Q D fuel m a w:=h hJ
theorem qGS(hr:((List.range ops.size).all fun j=>m.testBit j)=true)(h:Q .normal a w):Any P ops Q D fuel m a w:=by
 intro _
 have hr1:Region.ready .any ops (bits ops.size m)=[]:=by
  refine List.eq_nil_iff_forall_not_mem.2 fun j hj=>?_
  obtain ⟨h1,o',ho',_⟩:=mem_ready.1 hj
  have hjl:=(Array.getElem?_eq_some_iff.1 ho').1
  rw [qCh _ _ _ _ hjl,List.all_eq_true.1 hr j (List.mem_range.2 hjl)]at h1
  cases h1
 cases fuel with
 | zero=>exact ⟨hr1,h⟩
 | succ f=>exact ⟨fun _=>h,fun i hi=>by rw [hr1]at hi; cases hi⟩
end
section
variable {P:Program} {Q:Exit→Act→World→Prop} {n:Nat} {E:Nat→Value} {a:Act} {w:World}
theorem qEH{c:Operand}{x y:Code}{b:Bool}(hE:Env n E a)(he:ev E c = .bool b)(hb:b=true)(h:x.wp P Q a w):(Code.cond c x y).wp P Q a w:=wp_cond_true (by rw [hE.eval,he,hb]) h
theorem qEI{c:Operand}{x y:Code}{b:Bool}(hE:Env n E a)(he:ev E c = .bool b)(hb:b=false)(h:y.wp P Q a w):(Code.cond c x y).wp P Q a w:=wp_cond_false (by rw [hE.eval,he,hb]) h
inductive ResV (P:Program) (E:Nat→Value) (w:World):List ResultVar→List Value→Prop
 | nil:ResV P E w [] []
 | tmp {t:Nat} {v:Value} {rs:List ResultVar} {vs:List Value} : E t=v→ResV P E w rs vs→ResV P E w (.tmp t :: rs) (v :: vs)
 | cell {t:Nat} {ty:TypeId} {v:Value} {a:Addr} {rs:List ResultVar} {vs:List Value} : E t = .pointer (some a)→(loadVar ty a).run P w = .ok v w→ResV P E w rs vs→ResV P E w (.cell t ty :: rs) (v :: vs)
theorem ResV.run{rs:List ResultVar}{vs:List Value}(h:ResV P E w rs vs)(hE:Env n E a)(f:ResultVar→Sem Value)(hf:∀ u,f (.tmp u)=pure (a.tmps.getD u undef))(hc:∀ p t,f (.cell p t)=(do loadVar t (← asAddr (a.tmps.getD p undef)))):(rs.mapM f).run P w = .ok vs w:=by
 induction h with
 | nil=>simp
 | tmp hv _ ih=>simp [List.mapM_cons,hf,ih,hE.get,hv]
 | cell hv hl _ ih=>simp [List.mapM_cons,hc,ih,hE.get,hv,asAddr,hl]
theorem ret1{fn:Func}{R:Ending→World→Prop}{r:ResultVar}{v:Value}(hE:Env n E a)(hr:fn.results = #[r])(hv:ResV P E w [r] [v])(h:R (.returned v) w):bodyPost P fn R .ret a w:=by
 refine ⟨hE.defers,v,?_,h⟩
 unfold results
 rw [show fn.results=[r].toArray from hr,List.mapM_toArray]
 simp only [Sem.run_bind,Sem.run_map]
 rw [hv.run hE]
 ·simp
 ·intro u
  rfl
 ·intro a t
  rfl
theorem retN{fn:Func}{R:Ending→World→Prop}{rs:List ResultVar}{vs:List Value}(hE:Env n E a)(hr:fn.results=rs.toArray)(hl:vs.length≠1)(hv:ResV P E w rs vs)(h:R (.returned (.tuple vs.toArray)) w):bodyPost P fn R .ret a w:=by
 refine ⟨hE.defers,_,?_,h⟩
 unfold results
 rw [hr,List.mapM_toArray]
 simp only [Sem.run_bind,Sem.run_map]
 rw [hv.run hE]
 ·simp [hl]
 ·intro u
  rfl
 ·intro a t
  rfl
theorem qCM{K:Act→World→Prop}(h:K a w):Exit.then K Q .normal a w:=h
theorem qCJ{K:Act→World→Prop}(h:Q .ret a w):Exit.then K Q .ret a w:=h
theorem qCK{id:Nat}(h:Q .ret a w):Exit.inBlock id Q .ret a w:=h
end
end Go.Proofs.YtpabbpebefdafaaGreat.Sl
