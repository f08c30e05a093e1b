import Derived.Test.YtpabbpebefdafaaGreatSlD
import Derived.Maps.AppendAt
import Derived.Laws.MakeOwn
namespace Go.Proofs.YtpabbpebefdafaaGreat.Sl
open Go Go.RowKit
set_option linter.unusedVariables false
set_option linter.unusedSimpArgs false
section
variable {α : Type} {d:Kn α}
inductive Els (d:Kn α) (F:World):List α→List Value→Prop
 | nil:Els d F [] []
 | cons {x : α} {c cs:List Value} {xs:List α} : d.K F x c→Els d F xs cs→Els d F (x :: xs) (c++cs)
theorem Els.reps{F:World}{xs:List α}{cs:List Value}(h:Els d F xs cs):RepsK d F xs cs:=by
 induction h with
 | nil=>exact ⟨by simp,fun j p hj=>by simp at hj⟩
 | @cons x c cs xs hx _ ih =>
  have hl:=d.len hx
  refine ⟨by rw [List.length_append,hl,ih.1,List.length_cons,Nat.add_mul,Nat.one_mul,Nat.add_comm],fun j p hj=>?_⟩
  cases j with
  | zero =>
   simp at hj
   subst hj
   rw [Nat.zero_mul,List.drop_zero,← hl,List.take_left]
   exact hx
  | succ j =>
   rw [List.getElem?_cons_succ]at hj
   rw [Nat.add_mul,Nat.one_mul,Nat.add_comm,← hl,← List.drop_drop,List.drop_left,hl]
   exact ih.2 j p hj
theorem RepsK.append{F:World}{xs ys:List α}{a b:List Value}(h:RepsK d F xs a)(k:RepsK d F ys b):RepsK d F (xs++ys) (a++b):=by
 refine ⟨by rw [List.length_append,List.length_append,h.1,k.1,Nat.add_mul],fun j p hj=>?_⟩
 by_cases hlt:j<xs.length
 ·rw [List.getElem?_append_left hlt]at hj
  have h1:=h.2 j p hj
  have hle:j * d.sz+d.sz≤a.length:=by
   rw [h.1,← Nat.succ_mul]
   exact Nat.mul_le_mul_right _ hlt
  rw [List.drop_append_of_le_length (by omega),List.take_append_of_le_length (by rw [List.length_drop]; omega)]
  exact h1
 ·rw [List.getElem?_append_right (by omega)]at hj
  have h1:=k.2 _ p hj
  have e:j * d.sz=a.length+(j - xs.length) * d.sz:=by
   rw [h.1,← Nat.add_mul]
   congr 1
   omega
  rw [e,← List.drop_drop,List.drop_left]
  exact h1
theorem RepsK.one{F:World}{xs:List α}{cs:List Value}(h:RepsK d F xs cs):∀ u ∈ cs,u.oneCell'=true:=by
 intro u hu
 obtain ⟨q,hq,rfl⟩:=List.mem_iff_getElem.1 hu
 rcases Nat.eq_zero_or_pos d.sz with h0 | h0
 ·rw [h.1,h0]at hq
  simp at hq
 ·have hql:q / d.sz<xs.length:=by
   rw [Nat.div_lt_iff_lt_mul h0,← h.1]
   exact hq
  refine d.one (h.2 (q / d.sz) _ (List.getElem?_eq_getElem hql)) _ ?_
  rw [List.mem_iff_getElem?]
  refine ⟨q % d.sz,?_⟩
  rw [List.getElem?_take,if_pos (Nat.mod_lt _ h0),List.getElem?_drop,Nat.mul_comm,Nat.div_add_mod,List.getElem?_eq_getElem hq]
theorem qCN{F W:World}{e:TypeId}{A:Option Addr}{n c:Nat}{xs:List α}(h:(row d e (.slice A n c) xs).ok F W):n=xs.length∧xs.length≤c∧c≤maxLen∧(∃ inner,RepsK d F xs inner∧(0<xs.length→∃ g cur,A=some ⟨g,0,none⟩∧W.heap[g]? = some (.cells cur e (0,0))∧cur.size=c * d.sz∧cur.toList.take (xs.length * d.sz)=inner)):=by
 obtain ⟨inner,⟨h1,h2⟩,hr⟩:=h
 rcases h2 with ⟨hv,hn⟩ | ⟨g,cap,cur,hv,_,hg,hc,hm,hz,ht⟩
 ·injection hv with _ h3 h4
  exact ⟨by omega,by omega,by rw [h4]; exact Nat.zero_le _,inner,hr,fun hp=>by omega⟩
 ·injection hv with h3 h4 h5
  subst h5
  exact ⟨h4,hc,hm,inner,hr,fun _=>⟨g,cur,h3,hg,hz,ht⟩⟩
theorem qDS{cur:Array Value}{n:Nat}{inner:List Value}(ht:cur.toList.take n=inner){q:Nat}{u:Value}(h:inner[q]? = some u):cur[q]? = some u:=by
 rw [← ht,List.getElem?_take]at h
 split at h
 ·rwa [Array.getElem?_toList]at h
 ·cases h
theorem qGq{F W F':World}{e:TypeId}{A:Option Addr}{n c:Nat}{xs:List α}(h:(row d e (.slice A n c) xs).ok F W)(hs:Sub F F')(hF:∀ b,(row d e (.slice A n c) xs).fp b→F'.heap[b]? = W.heap[b]?):Rd d F' A c xs:=by
 obtain ⟨_,h2,h3,inner,hr,h4⟩:=qCN h
 refine ⟨h2,h3,fun hp=>?_⟩
 obtain ⟨g,cur,rfl,hg,_,ht⟩:=h4 hp
 refine ⟨_,rfl,fun j p hj=>⟨_,d.mono hs (hr.2 j p hj),fun i u hi=>?_⟩⟩
 have hg':F'.heap[g]? = some (.cells cur e (0,0)):=(hF g (by simp [row,Value.ownBlock])).trans hg
 rw [qCZ,Nat.zero_add]
 refine qCS hg' ?_
 rw [List.getElem?_take]at hi
 split at hi
 ·rw [List.getElem?_drop]at hi
  exact qDS ht hi
 ·cases hi
variable {W0 W F0 F w':World} {N:Nat→Prop} {L:List Asrt} {P:Program} {E:Nat→Value} {o:Oper} {e:TypeId} {A:Option Addr} {c n:Nat} {xs ys:List α}
theorem St.give(h:St W0 N F0 W F (row d e (.slice A n c) xs :: L)):∃ F',Sub F F'∧Rd d F' A c xs∧St W0 N F0 W F' L:=by
 obtain ⟨F',h1,h2,h3⟩:=h.freeze
 exact ⟨F',h1,qGq h.own.head h1 h2,h3⟩
theorem St.row_at{i:Nat}(h:St W0 N F0 W F L)(hi:L[i]? = some (row d e (.slice A n c) xs)):(row d e (.slice A n c) xs).ok F W:=h.own.ok _ (List.mem_of_getElem? hi)
theorem St.rd_at{i:Nat}(h:St W0 N F0 W F L)(hi:L[i]? = some (row d e (.slice A n c) xs)):Rd d W A c xs:=qGq (h.row_at hi) h.own.sub (fun _ _=>rfl)
theorem St.nilrow(h:St W0 N F0 W F L)(d:Kn α)(e:TypeId):St W0 N F0 W F (row d e (.slice none 0 0) [] :: L):=by
 have hf:∀ b,¬ (row d e (.slice none 0 0) []).fp b:=fun b hb=>by simp [row,Value.ownBlock]at hb
 refine { h with own:=⟨h.own.sub,fun B hB=>?_,fun B hB b hb=>?_,List.pairwise_cons.2 ⟨fun B _ b hb=>absurd hb (hf b),h.own.apart⟩⟩,new:=fun B hB b hb=>?_ }
 ·rcases List.mem_cons.1 hB with rfl | hB
  ·exact ⟨[],⟨by simp,.inl ⟨rfl,rfl⟩⟩,by simp [RepsK]⟩
  ·exact h.own.ok B hB
 ·rcases List.mem_cons.1 hB with rfl | hB
  ·exact absurd hb (hf b)
  ·exact h.own.free B hB b hb
 ·rcases List.mem_cons.1 hB with rfl | hB
  ·exact absurd hb (hf b)
  ·exact h.new B hB b hb
def NewRow(W0:World)(N:Nat→Prop)(F0 F:World)(L:List Asrt)(d:Kn α)(e:TypeId)(xs:List α)(w:World)(v:Value)(w':World):Prop :=
 ∃ A c,v = .slice A xs.length c∧St W0 N F0 w' F (row d e (.slice A xs.length c) xs :: L)∧Agr w w'
theorem e_lit {t:TypeId} {m:Nat} {parts:Array (Nat × Operand)} (h:St W0 N F0 W F L) (pl:List (Nat × Value)) (xs:List α) {cl:List Value} (he:Els d F xs cl) (ho:o.op = .buildSlice t m parts) (hp:(parts.toList.map fun p=>(p.1,ev E p.2))=pl) (hn:xs.length=m) (hm:Nat.ble m maxLen=true)
  (hr:(Instr.buildSlice t m pl.toArray).run P W = .ok (.slice (some ⟨W.heap.size,0,none⟩) m m) (W.alloc (.cells cl.toArray e))):Eff P E o W (NewRow W0 N F0 F L d e xs W):=by
 subst hn
 have hp':(parts.map fun (i,x)=>(i,ev E x))=pl.toArray:=by
  apply Array.ext'
  rw [Array.toList_map,← hp]
 have hrun:(execOp (ev E) o).run P W = .ok (.value (.slice (some ⟨W.heap.size,0,none⟩) xs.length xs.length)) (W.alloc (.cells cl.toArray e)):=by
  unfold execOp
  simp only [ho,hp',Sem.run_bind,hr,Result.andThen_ok]
  rfl
 refine Eff.run hrun ⟨_,_,rfl,h.alloc _ _ (fun b hb=>?_) ⟨cl,⟨he.reps.1,.inr ⟨W.heap.size,xs.length,cl.toArray,rfl,Nat.zero_le _,?_,Nat.le_refl _,Nat.le_of_ble_eq_true hm,by simp [he.reps.1],by simp [← he.reps.1]⟩⟩,he.reps⟩,qCe W _⟩
 ·simp [row,Value.ownBlock]at hb
  exact hb.symm
 ·show (W.heap.push _)[W.heap.size]? = _
  simp
theorem qHE{t:TypeId}{parts:Array (Nat × Operand)}(pl:List (Nat × Value))(v:Value)(ho:o.op = .build t parts)(hp:(parts.toList.map fun p=>(p.1,ev E p.2))=pl)(hr:∀ w,(Instr.build t pl.toArray).run P w = .ok v w):YA P E o v:=fun w=>by
 have hp':(parts.map fun (i,x)=>(i,ev E x))=pl.toArray:=by
  apply Array.ext'
  rw [Array.toList_map,← hp]
 unfold execOp
 simp only [ho,hp',Sem.run_bind,hr,Result.andThen_ok]
 rfl
theorem qCP{F W:World}{e:TypeId}{A:Option Addr}{n c:Nat}{xs:List α}(h:(row d e (.slice A n c) xs).ok F W){i:Int}(h0:0≤i)(h1:i<xs.length):∃ g,A=some ⟨g,0,none⟩:=by
 obtain ⟨_,_,_,inner,hr,h4⟩:=qCN h
 obtain ⟨g,cur,e,_⟩:=h4 (by omega)
 exact ⟨g,e⟩
theorem qCO{F W:World}{e:TypeId}{n c g:Nat}{xs:List α}(h:(row d e (.slice (some ⟨g,0,none⟩) n c) xs).ok F W)(z : α)(i:Int)(h0:0≤i)(h1:i<xs.length):
  ∃ cs,d.K F (nth z xs i) cs∧∀(j:Nat)(u:Value),cs[j]? = some u→W.cell? (((⟨g,0,none⟩:Addr).add (i.toNat * d.sz)).add j)=some u:=by
 obtain ⟨_,_,_,inner,hr,h4⟩:=qCN h
 obtain ⟨g',cur,he,hg,_,ht⟩:=h4 (by omega)
 injection he with he
 injection he with he
 subst he
 have hlt:i.toNat<xs.length:=by omega
 refine ⟨_,by
  have:=hr.2 i.toNat xs[i.toNat] (List.getElem?_eq_getElem hlt)
  unfold nth
  rw [List.getD_eq_getElem?_getD,List.getElem?_eq_getElem hlt]
  exact this,fun j u hj=>?_⟩
 rw [qDP,qCZ,Nat.zero_add]
 refine qCS hg (qDS ht ?_)
 rw [List.getElem?_take]at hj
 split at hj
 ·rwa [List.getElem?_drop]at hj
 ·cases hj
def Src(d:Kn α)(F W:World)(A:Option Addr)(ys:List α):Prop:=0<ys.length→∃ a news,A=some a∧news.length=ys.length * d.sz∧(∀ j u,news[j]? = some u→W.cell? (a.add j)=some u)∧RepsK d F ys news
theorem qDI{F W:World}{a:Addr}: ∀(ys:List α)(o:Nat),(∀ j p,ys[j]? = some p→∃ cs,d.K F p cs∧∀ i u,cs[i]? = some u→W.cell? (a.add ((o+j) * d.sz+i))=some u)→∃ news,Els d F ys news∧∀ q u,news[q]? = some u→W.cell? (a.add (o * d.sz+q))=some u
 | [],o,_=>⟨[],.nil,fun q u hq=>by simp at hq⟩
 | y :: ys,o,h=>by
  obtain ⟨cs,hK,hc⟩:=h 0 y rfl
  obtain ⟨news,h1,h2⟩:=qDI ys (o+1) (fun j p hj=>by
   obtain ⟨cs,h3,h4⟩:=h (j+1) p (by simpa using hj)
   exact ⟨cs,h3,fun i u hi=>by rw [show o+1+j=o+(j+1) by omega]; exact h4 i u hi⟩)
  refine ⟨cs++news,.cons hK h1,fun q u hq=>?_⟩
  by_cases hlt:q<cs.length
  ·rw [List.getElem?_append_left hlt]at hq
   exact hc q u hq
  ·rw [List.getElem?_append_right (by omega)]at hq
   have h3:=h2 _ u hq
   rw [d.len hK,Nat.add_mul,Nat.one_mul]at h3
   rw [d.len hK]at hlt
   rwa [show o * d.sz+d.sz+(q - d.sz)=o * d.sz+q by omega]at h3
theorem Rd.src{F W:World}(h:Rd d F A c ys)(hs:Sub F W):Src d F W A ys:=fun hp=>by
 obtain ⟨ad,e,hc⟩:=h.2.2 hp
 obtain ⟨news,h1,h2⟩:=qDI (W:=W) (a:=ad) ys 0 (fun j p hj=>by
  obtain ⟨cs,h3,h4⟩:=hc j p hj
  exact ⟨cs,h3,fun i u hi=>by rw [Nat.zero_add]; exact hs.cell (h4 i u hi)⟩)
 exact ⟨ad,news,e,h1.reps.1,fun j u hj=>by have:=h2 j u hj; rwa [Nat.zero_mul,Nat.zero_add]at this,h1.reps⟩
theorem qCX{F W:World}(h:(row d e (.slice A n c) ys).ok F W):Src d F W A ys:=fun hp=>by
 obtain ⟨_,_,_,inner,hr,h4⟩:=qCN h
 obtain ⟨g,cur,e,hg,_,ht⟩:=h4 hp
 exact ⟨_,inner,e,hr.1,fun j u hj=>by rw [qCZ,Nat.zero_add]; exact qCS hg (qDS ht hj),hr⟩
theorem qGT {t:TypeId} {x y:Operand} {B:Option Addr} {cb bytes:Nat} {z:Value} (h:St W0 N F0 W F (row d e (.slice A n c) xs :: L)) (ho:o.op = .call { callee:=.builtin .append,args:=#[x,y],argTypes:=#[t,t] }) (hx:ev E x = .slice A n c) (hy:ev E y = .slice B ys.length cb)
  (ht:P.underlying t=some (.slice e)) (hi:(P.info? e).map (fun i=>(i.zero,i.size,i.bytes))=some (some z,d.sz,bytes)) (hz:z.cells.size=d.sz) (hs0:Nat.blt 0 d.sz=true) (hb0:Nat.blt 0 bytes=true) (hsrc:Src d F W B ys) (hl:((xs.length:Int)+(ys.length:Int)) * (bytes:Int)≤140737488355328) :
  Eff P E o W (fun v w'=>∃ A' c',v = .slice A' (xs++ys).length c'∧St W0 N F0 w' F (row d e (.slice A' (xs++ys).length c') (xs++ys) :: L)∧W.heap.size≤w'.heap.size):=by
 obtain ⟨i0,hi0,hzz⟩:=Option.map_eq_some_iff.1 hi
 simp only [Prod.mk.injEq]at hzz
 obtain ⟨hz0,hz1,hz2⟩:=hzz
 have hs0:0<d.sz:=by simpa [Nat.blt_eq] using hs0
 have hb0:0<bytes:=by simpa [Nat.blt_eq] using hb0
 have hlN:(xs.length+ys.length) * bytes≤140737488355328:=by
  have:(((xs.length+ys.length) * bytes:Nat):Int)≤140737488355328:=by
   rw [Int.natCast_mul,Int.natCast_add]
   exact hl
  omega
 have hlen:xs.length+ys.length≤140737488355328:=Nat.le_trans (Nat.le_mul_of_pos_right _ hb0) hlN
 obtain ⟨hn,_,_,_⟩:=qCN h.own.head
 subst hn
 have hexec:∀ v w1,(Builtin.append_ #[t,t] o.type #[.slice A xs.length c,.slice B ys.length cb]).run P W = .ok v w1→(execOp (ev E) o).run P W = .ok (.value v) w1:=fun v w1 hr=>by
  unfold execOp
  simp [ho,resolve,invoke,builtin,hx,hy,hr]
 have hhead:=h.own.head
 obtain ⟨inner,hown,hr⟩:=hhead
 rcases Nat.eq_zero_or_pos ys.length with h0 | h0
 ·obtain rfl:ys=[]:=List.eq_nil_of_length_eq_zero h0
  have hrun:(Builtin.append_ #[t,t] o.type #[.slice A xs.length c,.slice B 0 cb]).run P W = .ok (.slice A xs.length c) W:=by
   have hnc:xs.length≤c:=(qCN h.own.head).2.1
   rcases B with _ | b
   ·rcases A with _ | a
    ·simp [Builtin.append_,run_underlying ht,sizeOf,typeInfo,hi0,Builtin.lenOf,Builtin.firstCells,hnc]
    ·simp [Builtin.append_,run_underlying ht,sizeOf,typeInfo,hi0,Builtin.lenOf,Builtin.firstCells,hnc,storeCells]
   ·rcases A with _ | a
    ·simp [Builtin.append_,run_underlying ht,sizeOf,typeInfo,hi0,Builtin.lenOf,Builtin.firstCells,hnc,loadCells,loadCellsFrom]
    ·simp [Builtin.append_,run_underlying ht,sizeOf,typeInfo,hi0,Builtin.lenOf,Builtin.firstCells,hnc,loadCells,loadCellsFrom,storeCells]
  refine Eff.run (hexec _ _ hrun) ⟨A,c,?_,?_⟩
  ·rw [List.append_nil]
  ·rw [List.append_nil]
   exact ⟨h,Nat.le_refl _⟩
 ·obtain ⟨a,news,rfl,hnl,hnc,hnr⟩:=hsrc h0
  obtain ⟨v1,w1,hrun,h2,hg,_,hat⟩:=run_append_own_at (P:=P) W 0 t o.type e i0 z d.sz bytes ht hi0 hz0 hz1 hz2 hz hs0 (.slice A xs.length c) xs.length inner hown a ys.length cb news (by rw [hnl]) hnc hnr.one (by simp only [maxLen]; omega) hlN (Nat.zero_le _)
  obtain ⟨A',c',rfl⟩:∃ A' c',v1 = .slice A' (xs++ys).length c':=by
   rw [List.length_append]
   rcases h2.2 with ⟨rfl,hq⟩ | ⟨g,cap,cur,rfl,_⟩
   ·omega
   ·exact ⟨_,_,rfl⟩
  refine Eff.run (hexec _ _ hrun) ⟨A',c',rfl,?_,hg.size⟩
  refine h.turn _ hg.os hg.tape hg.output hg.size (fun b hb hnb=>hg.block b hb (fun he=>hnb he.symm)) (fun b hb=>?_) ⟨_,by rw [List.length_append]; rw [List.length_append]at h2; exact h2,hr.append hnr⟩ (qFZ _ hrun)
  rcases hat with hat | hat
  ·exact .inl (hat.symm.trans hb)
  ·have:some W.heap.size=some b:=hat.symm.trans hb
   injection this with this
   exact .inr (by omega)
theorem ea0(g k:Nat):(⟨g,0,none⟩:Addr).add k=⟨g,k+0,none⟩:=by rw [qCZ,Nat.zero_add,Nat.add_zero]
theorem ea1(g k o:Nat):((⟨g,0,none⟩:Addr).add k).add o=⟨g,k+o,none⟩:=by rw [qCZ,qCZ,Nat.zero_add]
theorem e_set {t:TypeId} {x y:Operand} {g off:Nat} {i:Int} {v:Value} {a:Addr} (yv : α) (h:St W0 N F0 W F (row d e (.slice (some ⟨g,0,none⟩) n c) xs :: L)) (ho:o.op = .store t x y) (hx:ev E x = .pointer (some a)) (ha:a=⟨g,i.toNat * d.sz+off,none⟩) (hy:ev E y=v) (hs:sizeB P t=some v.cells.size)
  (h0:0≤i) (h1:i<xs.length) (cs:List Value) (hcs:∀(j:Nat)(u:Value),cs[j]? = some u→W.cell? (((⟨g,0,none⟩:Addr).add (i.toNat * d.sz)).add j)=some u) (hl:cs.length=d.sz) (hf:off+v.cells.size≤d.sz) (h1c:∀ u ∈ v.cells.toList,u.oneCell'=true)
  (cs':List Value) (hc':cs.take off++v.cells.toList++cs.drop (off+v.cells.size)=cs') (hK:d.K F yv cs') :
  Eff P E o W (fun r w'=>r=undef∧St W0 N F0 w' F (row d e (.slice (some ⟨g,0,none⟩) n c) (xs.set i.toNat yv) :: L)∧W.heap.size≤w'.heap.size∧AgrX (fun q=>q=g) W w'):=by
 subst ha
 subst hc'
 obtain ⟨hn,hxc,hcm,inner,hr,h4⟩:=qCN h.own.head
 obtain ⟨g',cur,he,hg,hsz,ht⟩:=h4 (by omega)
 injection he with he
 injection he with he
 subst he
 have hlt:i.toNat<xs.length:=by omega
 have hlc:i.toNat * d.sz+d.sz≤xs.length * d.sz:=by
  rw [← Nat.succ_mul]
  exact Nat.mul_le_mul_right _ hlt
 have hcc:xs.length * d.sz≤cur.size:=by
  rw [hsz]
  exact Nat.mul_le_mul_right _ hxc
 have hlen:inner.length=xs.length * d.sz:=hr.1
 have hcur:∀ j u,cs[j]? = some u→cur[i.toNat * d.sz+j]? = some u:=fun j u hj=>by
  have h5:=hcs j u hj
  rw [qDP,qCZ,Nat.zero_add]at h5
  simpa [World.cell?,hg] using h5
 have hin:(inner.drop (i.toNat * d.sz)).take d.sz=cs:=by
  apply List.ext_getElem?
  intro j
  rw [List.getElem?_take]
  split
  ·rename_i hj
   have hjl:j<cs.length:=by omega
   rw [List.getElem?_drop,List.getElem?_eq_getElem hjl,← ht,List.getElem?_take,if_pos (by omega),Array.getElem?_toList]
   exact hcur j _ (List.getElem?_eq_getElem hjl)
  ·rw [List.getElem?_eq_none]
   omega
 have hfit:i.toNat * d.sz+off+v.cells.size≤cur.size:=by omega
 refine Eff.skip (qEc ho hx hy hs hg hfit h1c) ⟨rfl,?_,(qCU W g _).2.2.2,(qCU W g _).2.2.2,fun b _ hb=>setRow_other W g b _ hb⟩
 have hb':=setRow_heap W g cur (cur.toList.take (i.toNat * d.sz+off)++v.cells.toList++cur.toList.drop (i.toNat * d.sz+off+v.cells.size)).toArray e (0,0) hg
 obtain ⟨q1,q2,q3,q4⟩:=qCU W g (cur.toList.take (i.toNat * d.sz+off)++v.cells.toList++cur.toList.drop (i.toNat * d.sz+off+v.cells.size)).toArray
 refine h.turn _ q1 q2 q3 q4 (fun k _ hk=>setRow_other W g k _ (fun he=>hk (by simp [row,Value.ownBlock,he]))) (fun k hk=>.inl hk) ?_ (Nat.le_refl _)
 have hcl:cur.toList.length=cur.size:=by simp
 refine ⟨inner.take (i.toNat * d.sz)++(cs.take off++v.cells.toList++cs.drop (off+v.cells.size))++inner.drop (i.toNat * d.sz+d.sz),⟨?_,.inr ⟨g,c,_,?_,Nat.zero_le _,hb',?_,hcm,?_,?_⟩⟩,?_,?_⟩
 ·simp only [List.length_append,List.length_take,List.length_drop,List.length_set,Array.length_toList,hlen]
  omega
 ·rw [List.length_set,hn]
 ·rw [List.length_set]
  exact hxc
 ·simp
  omega
 ·have hc1:cs.take off=(inner.drop (i.toNat * d.sz)).take off:=by rw [← hin,List.take_take,Nat.min_eq_left (by omega)]
  have hc2:cs.drop (off+v.cells.size)=(inner.drop (i.toNat * d.sz+off+v.cells.size)).take (d.sz - (off+v.cells.size)):=by
   rw [← hin,List.drop_take,List.drop_drop]
   congr 2
   omega
  have ht1:∀ k,k≤xs.length * d.sz→cur.toList.take k=inner.take k:=fun k hk=>by rw [← ht,List.take_take,Nat.min_eq_left hk]
  rw [List.length_set,hc1,hc2]
  simp only [List.toList_toArray,List.append_assoc]
  rw [ht1 _ (by omega),show inner.take (i.toNat * d.sz+off)=inner.take (i.toNat * d.sz)++(inner.drop (i.toNat * d.sz)).take off from List.take_add,List.append_assoc]
  rw [List.take_append,List.take_of_length_le (by simp only [List.length_append,List.length_take,List.length_drop,List.length_set,Array.length_toList,hlen,hl]; omega)]
  congr 1
  rw [List.take_append,List.take_of_length_le (by simp only [List.length_append,List.length_take,List.length_drop,List.length_set,Array.length_toList,hlen,hl]; omega)]
  congr 1
  rw [List.take_append,List.take_of_length_le (by simp only [List.length_append,List.length_take,List.length_drop,List.length_set,Array.length_toList,hlen,hl]; omega)]
  congr 1
  have e1:inner.drop (i.toNat * d.sz+off+v.cells.size)=(cur.toList.drop (i.toNat * d.sz+off+v.cells.size)).take (xs.length * d.sz - (i.toNat * d.sz+off+v.cells.size)):=by rw [← ht,List.drop_take]
  have e2:inner.drop (i.toNat * d.sz+d.sz)=(inner.drop (i.toNat * d.sz+off+v.cells.size)).drop (d.sz - (off+v.cells.size)):=by
   rw [List.drop_drop]
   congr 1
   omega
  rw [e2,List.take_append_drop,e1]
  congr 1
  simp only [List.length_append,List.length_take,List.length_drop,List.length_set,Array.length_toList,hlen]
  omega
 ·simp only [List.length_append,List.length_take,List.length_drop,List.length_set,Array.length_toList,hlen]
  omega
 ·intro j p hj
  by_cases hji:j=i.toNat
  ·subst hji
   rw [List.getElem?_set_self hlt]at hj
   injection hj with hj
   subst hj
   rw [List.append_assoc,List.drop_left' (by simp only [List.length_append,List.length_take,List.length_drop,List.length_set,Array.length_toList,hlen,hl]; omega),List.take_left' (by simp only [List.length_append,List.length_take,List.length_drop,List.length_set,Array.length_toList,hlen,hl]; omega)]
   exact hK
  ·rw [List.getElem?_set_ne (fun h=>hji h.symm)]at hj
   have hK':=hr.2 j p hj
   have hjl:=(List.getElem?_eq_some_iff.1 hj).1
   have e:((inner.take (i.toNat * d.sz)++(cs.take off++v.cells.toList++cs.drop (off+v.cells.size))++inner.drop (i.toNat * d.sz+d.sz)).drop (j * d.sz)).take d.sz=(inner.drop (j * d.sz)).take d.sz:=by
    rcases Nat.lt_or_gt_of_ne hji with hlt2 | hgt2
    ·have hle:j * d.sz+d.sz≤i.toNat * d.sz:=by
      rw [← Nat.succ_mul]
      exact Nat.mul_le_mul_right _ hlt2
     rw [List.append_assoc,List.drop_append_of_le_length (by simp only [List.length_append,List.length_take,List.length_drop,List.length_set,Array.length_toList,hlen,hl]; omega),List.take_append_of_le_length (by simp only [List.length_append,List.length_take,List.length_drop,List.length_set,Array.length_toList,hlen,hl]; omega),List.drop_take,List.take_take,Nat.min_eq_left (by omega)]
    ·have hle:i.toNat * d.sz+d.sz≤j * d.sz:=by
      rw [← Nat.succ_mul]
      exact Nat.mul_le_mul_right _ hgt2
     rw [List.drop_append,List.drop_eq_nil_of_le (by simp only [List.length_append,List.length_take,List.length_drop,List.length_set,Array.length_toList,hlen,hl]; omega),List.nil_append,List.drop_drop]
     congr 2
     simp
     omega
   rw [e]
   exact hK'
end
end Go.Proofs.YtpabbpebefdafaaGreat.Sl
