import Derived.Test.YthgfhlbjkmjlpaaGreatSlP
import Derived.Shelf.SlIterI.Collect
import Derived.OwnWalkIn
import Derived.TacticsInMore
import Derived.LoopNIn
import Derived.LoopIn
namespace Go.Proofs.YthgfhlbjkmjlpaaGreat.Sl
open Go Go.RowKit Go.Maps Go.Sort Go.Shelf Go.Lib Go.Proofs
set_option linter.unusedVariables false
set_option linter.unusedSimpArgs false
theorem qDq {F:Fence} {n:Nat} {P:Program} (w:World) {ops:Array Oper} {rest:List Oper} {o:Oper} {a:Act} {Q:Exit->Act->World->Prop}
  (hg:o.guard=none) (s x:Operand) (t:TypeId) (hop:o.op=Op.call { callee:=Callee.builtin Builtin.append,args:=#[s,x],argTypes:=#[t,t] })
  (base:Nat) (e:TypeId) (i:TypeInfo) (z:Value) (size bytes:Nat) (h1:P.underlying t=some (.slice e)) (h2:P.info? e=some i) (h3:i.zero=some z) (h4:i.size=size) (h5:i.bytes=bytes) (h6:z.cells.size=size) (h7:0<size)
  (v:Value) (k:Nat) (xs:List Value) (hs:a.eval s=v) (hown:w.ownsRow base e size v k xs) (ad:Addr) (m c:Nat) (news:List Value) (hx:a.eval x = .slice (some ad) m c) (hn:news.length=m * size)
  (hc:∀ j u,news[j]? = some u->w.cell? (ad.add j)=some u) (h1c:∀ u ∈ news,u.oneCell'=true) (b1:k+m<=maxLen) (b2:(k+m) * bytes<=140737488355328) (b3:base<=w.heap.size)
  (hK:∀ v' w',w'.ownsRow base e size v' (k+m) (xs++news)->w.grownBy w' v.ownBlock->(v' = .slice none 0 0↔v = .slice none 0 0/\m=0)->w.drawn<=w'.drawn->wpListIn F n P ops Q rest (a.put o.dst v') w') :
  wpListIn F n P ops Q (o :: rest) a w:=by
 refine wpListIn_plain hg fun K hK'=>?_
 obtain ⟨v',w',hrun,r1,r2,r3⟩:=run_append_own (P:=P) w base t o.type e i z size bytes h1 h2 h3 h4 h5 h6 h7 v k xs hown ad m c news hn hc h1c b1 b2 b3
 have hd:=qFn _ hrun
 unfold Oper.wpIn
 refine ⟨?_,?_⟩
 ·simp [Oper.about,hop,resolve,Target.leads,Sem.run_pure]
 ·rw [Oper.semAt_plain F _ _ (by rw [hop]; intro c hc'; cases hc')]
  simp [execOp,hop,resolve,invoke,builtin,hs,hx,hrun,Result.andThen]
  exact hK' _ _ (hK v' w' r1 r2 r3 hd)
def GivesD(F:Fence)(n:Nat)(P:Program)(g:Nat)(lb:Array Value)(xs:List Int)(w:World):Prop :=
 ∀(l:Nat)(J:List Int->World->Prop)(W:World),Below w.heap.size w W ->
  (∀ pre x W1,J pre W1->pre.length<xs.length->YieldAt F (n - 1) P l #[encZ x] W1 fun e W'=>e = .returned (.bool true)/\J (pre++[x]) W'/\Below w.heap.size W1 W') ->
  J [] W->CallsIn F n P g (#[.func (.yield l) #[] #[]]++lb) W fun e W'=>(∃ v,e = .returned v)/\J xs W'
theorem yieldMono{F:Fence}{m:Nat}{P:Program}{l:Nat}{args:Array Value}{W:World}{R R':Ending->World->Prop}(h:YieldAt F m P l args W R)(hr:∀ e W',R e W'->R' e W'):YieldAt F m P l args W R':=by
 obtain ⟨fn,tmps,assign,body,hy,hR⟩:=h
 exact ⟨fn,tmps,assign,body,hy,hR.mono hr⟩
variable {P:Program} {ρ : Ren}
set_option maxRecDepth 100000 in
set_option maxHeartbeats 2000000 in
theorem apYieldD (L:SlLaysZI.n11 P ρ) (F:Fence) (m:Nat) (w0:World) (fn:FuncId) (hfn:F.fn fn) (sv:Value) (Bs l D:Nat) (hBl:Bs≠l) (hDl:D≠l) (hDB:D≠Bs) (h0B:w0.heap.size<=Bs) (h0l:w0.heap.size<=l)
    (N:Nat) (hN:N<=maxLen) (hNb:N * 8<=140737488355328) (ss:List Int) (x:Int) (W:World) (h:AnyZI.ApAt ρ w0 fn sv Bs l D ss W) (hlen:ss.length<N) :
    YieldAt F m P l #[encZ x] W fun e W'=>e = .returned (.bool true)/\AnyZI.ApAt ρ w0 fn sv Bs l D (ss++[x]) W'/\Below w0.heap.size W W'/\W.drawn<=W'.drawn:=by
  have mixed:=L.mixed; have t0:=L.t0; have a0:=L.a0; have z0:=L.z0; have v0:=L.v0; have t24:=L.t24; have a24:=L.a24; have z24:=L.z24; have v24:=L.v24; have t26:=L.t26; have a26:=L.a26; have z26:=L.z26; have v26:=L.v26; have t28:=L.t28; have a28:=L.a28; have z28:=L.z28; have v28:=L.v28
  have hne : ρ.t 24≠ρ.t 26:=fun e=>by have h:=L.t24; rw [e,L.t26]at h; cases h
  have u0:=run_underlying L.t0; have u24:=run_underlying L.t24; have u26:=run_underlying L.t26; have u28:=run_underlying L.t28
  obtain ⟨i0,hi,hz0,hz1,hz2⟩:=info_parts L.i26
  obtain ⟨v,hv,hrow,_⟩:=h.box
  refine ⟨fn,#[.slice none 0 0,sv,.pointer (some ⟨Bs,0,none⟩),undef,.slice none 0 0,undef,sv,encZ x,undef,undef,undef,undef,undef],AnyZI.apAssign ρ,AnyZI.apBody ρ,by simpa [AnyZI.apRec] using run_yield (P:=P) (args:=#[encZ x]) h.L rfl,roundIn_of_wpIn hfn ?_⟩
  have hl:l<W.heap.size:=(Array.getElem?_eq_some_iff.1 h.L).1
  have hbr:=run_beginRound (P:=P) h.L rfl
  obtain ⟨W2,hW2⟩:∃ W2,W.putObj l (.loop { AnyZI.apRec ρ fn sv Bs D .ready none with state:=.busy })=W2:=⟨_,rfl⟩
  rw [hW2]at hbr
  have hg2:W.grownBy W2 (some l):=by rw [← hW2]; exact grownBy_putObj_a _ _ _
  have hd2:W.drawn<=W2.drawn:=by rw [← hW2]; exact Nat.le_refl _
  have hv2:W2.heap[Bs]? = some (.cells #[v] (ρ.t 24) (0,0)):=by rw [← hW2]; exact (World.putObj_heap_other hBl).trans hv
  have hK2:W2.heap[D]? = some (.deferred (some [])):=by rw [← hW2]; exact (World.putObj_heap_other hDl).trans h.K
  have hL2:W2.heap[l]? = some (.loop { AnyZI.apRec ρ fn sv Bs D .ready none with state:=.busy }):=by rw [← hW2]; exact World.putObj_heap_same hl
  have hrow2:W2.ownsRow w0.heap.size (ρ.t 26) 1 v ss.length (ss.map encZ):=hrow.kept hg2 (ownsRow_ne_a hrow h.L fun cur e=>by first | cases e | exact hne (Obj.cells.inj e).2.1)
  have hB2:Below w0.heap.size W W2:=(Below.refl _ W).grown hg2 h.below.size fun k e=>by cases e; exact h0l
  have hb2:Below w0.heap.size w0 W2:=h.below.trans hB2
  obtain ⟨hc2,hf2⟩:=cell_of_box_a hv2
  have hBlt:Bs<W2.heap.size:=(Array.getElem?_eq_some_iff.1 hv2).1
  have hl2:l<W2.heap.size:=(Array.getElem?_eq_some_iff.1 hL2).1
  have hDlt:D<W2.heap.size:=(Array.getElem?_eq_some_iff.1 hK2).1
  have ne_of:∀ {j:Nat} {o:Obj},W2.heap[j]? = some o->(∀ cur,o ≠ .cells cur (ρ.t 26) (0,0))->some j≠v.ownBlock:=fun hj hno=>by
    rcases ownsRow_ne_a hrow2 hj hno with e | e
    · rw [e]; simp
    · exact fun e'=>e e'.symm
  clear hW2
  unfold AnyZI.apAssign
  gi_wp2_with gi_round_op_a
  unfold AnyZI.apBody
  gi_wp2_with (first
    | (gi_at_builtin; refine qDq _ rfl _ _ (ρ.t 24) rfl w0.heap.size (ρ.t 26) i0 (.int .i64 0) 1 8 L.t24 hi hz0 hz1 hz2 rfl (by decide) _ _ _ rfl (hrow2.alloc _) ⟨W2.heap.size,0,none⟩ 1 1 [encZ x] rfl rfl (cell_one_new _ _ _) (by simp [Value.oneCell',encZ]) (by omega) (by omega) (by have:=hb2.size; simp; omega) ?_; intro v' w3 hown' hg3 hnil3 hd3
       have hv3:w3.heap[Bs]? = some (.cells #[v] (ρ.t 24) (0,0)):=(hg3.block Bs (by simp; omega) (ne_of hv2 fun cur e=>by first | cases e | exact hne (Obj.cells.inj e).2.1)).trans ((Below.heap_alloc _ _ Bs hBlt).trans hv2)
       obtain ⟨hc3,hf3⟩:=cell_of_box_a hv3
       obtain ⟨g',cap',cur',rfl,hbase',hgb',hr1,hr2,hr3,hr4⟩:∃ g' cap' cur',v' = .slice (some ⟨g',0,none⟩) (ss.length+1) cap'/\w0.heap.size<=g'/\w3.heap[g']? = some (.cells cur' (ρ.t 26) (0,0))/\ss.length+1<=cap'/\cap'<=maxLen/\cur'.size=cap' * 1/\cur'.toList.take ((ss.length+1) * 1)=ss.map encZ++[encZ x]:=by
         rcases hown'.2 with ⟨_,h0⟩ | h'
         · exact absurd h0 (by omega)
         · exact h'
       go_frame)
    | gi_round_op_a)
  have hg3':(W2.alloc (.cells #[encZ x] (ρ.t 26))).grownBy w3 v.ownBlock:=hg3
  have hL3:w3.heap[l]? = some (.loop { AnyZI.apRec ρ fn sv Bs D .ready none with state:=.busy }):=(hg3'.block l (by simp; omega) (ne_of hL2 fun cur e=>by first | cases e | exact hne (Obj.cells.inj e).2.1)).trans ((Below.heap_alloc _ _ l hl2).trans hL2)
  have hK3:w3.heap[D]? = some (.deferred (some [])):=(hg3'.block D (by simp; omega) (ne_of hK2 fun cur e=>by first | cases e | exact hne (Obj.cells.inj e).2.1)).trans ((Below.heap_alloc _ _ D hDlt).trans hK2)
  obtain ⟨w4,hw4⟩:∃ w4,w3.setCell ⟨Bs,0,none⟩ (.slice (some ⟨g',0,none⟩) (ss.length+1) cap')=w4:=⟨_,rfl⟩
  rw [hw4]
  have hg4:w3.grownBy w4 (some Bs):=by rw [← hw4]; exact grownBy_setCell0_a _ _ _
  have hv4:w4.heap[Bs]? = some (.cells #[.slice (some ⟨g',0,none⟩) (ss.length+1) cap'] (ρ.t 24) (0,0)):=by rw [← hw4]; exact heap_setCell_box_a _ hv3
  have hL4:w4.heap[l]? = some (.loop { AnyZI.apRec ρ fn sv Bs D .ready none with state:=.busy }):=(hg4.block l (Array.getElem?_eq_some_iff.1 hL3).1 fun e=>hBl (by cases e; rfl)).trans hL3
  have hK4:w4.heap[D]? = some (.deferred (some [])):=(hg4.block D (Array.getElem?_eq_some_iff.1 hK3).1 fun e=>hDB (by cases e; rfl)).trans hK3
  have hrow4:=hown'.kept hg4 (ownsRow_ne_a hown' hv3 fun cur e=>by first | cases e | exact hne (Obj.cells.inj e).2.1)
  have hl4:l<w4.heap.size:=(Array.getElem?_eq_some_iff.1 hL4).1
  have hb3:Below w0.heap.size W w3:=(hB2.alloc hb2.size _).grown hg3' (by have:=hb2.size; simp; omega) fun k e=>(hrow2.lt k e).1
  have hs3:w0.heap.size<=w3.heap.size:=Nat.le_trans h.below.size hb3.size
  have hb4:Below w0.heap.size W w4:=hb3.grown hg4 hs3 fun k e=>by cases e; exact h0B
  have hd4:w3.drawn<=w4.drawn:=by rw [← hw4]; exact Nat.le_refl _
  clear hw4
  have hs4:w0.heap.size<=w4.heap.size:=Nat.le_trans h.below.size hb4.size
  have hb5:=hb4.grown (grownBy_putObj_a w4 l (.loop { { AnyZI.apRec ρ fn sv Bs D .ready none with state:=.busy } with state:=if (none:Option Code).isNone then .ready else .done,pending:=none })) hs4 fun k e=>by cases e; exact h0l
  refine ⟨_,_,run_endRound none hL4,rfl,⟨⟨_,(World.putObj_heap_other hBl).trans hv4,?_,by simp⟩,World.putObj_heap_same hl4,(World.putObj_heap_other hDl).trans hK4,h.below.trans hb5⟩,hb5,Nat.le_trans hd2 (Nat.le_trans hd3 hd4)⟩
  have:=hrow4.kept (grownBy_putObj_a w4 l (.loop { { AnyZI.apRec ρ fn sv Bs D .ready none with state:=.busy } with state:=if (none:Option Code).isNone then .ready else .done,pending:=none })) (ownsRow_ne_a hrow4 hL4 fun cur e=>by first | cases e | exact hne (Obj.cells.inj e).2.1)
  simpa using this
set_option maxRecDepth 100000 in
set_option maxHeartbeats 2000000 in
theorem appendSeqD (L:SlLaysZI.n11 P ρ) (F:Fence) (n:Nat) (h11:F.fn (ρ.f 11)) (hro:F.round=none) (hn:2<=n) (g:Nat) (lb:Array Value) (hFg:F.fn g) (eg:∀ args w,(callFunc g args).run P w = .ok (.enter g args) w)
    (xs:List Int) (hN:xs.length<=maxLen) (hNb:xs.length * 8<=140737488355328) (w:World) (hseq:GivesD F (n - 1) P g lb xs w) :
    CallsIn F n P (ρ.f 11) #[.slice none 0 0,.func (.func g) #[] lb] w fun e w'=>∃(v:Value),e = .returned v/\w'.ownsRow w.heap.size (ρ.t 26) 1 v xs.length (xs.map encZ)/\Below w.heap.size w w'/\w.drawn<=w'.drawn:=by
  have h1:1<=n:=by omega
  have mixed:=L.mixed; have t0:=L.t0; have a0:=L.a0; have z0:=L.z0; have v0:=L.v0; have t24:=L.t24; have a24:=L.a24; have z24:=L.z24; have v24:=L.v24; have t26:=L.t26; have a26:=L.a26; have z26:=L.z26; have v26:=L.v26; have t28:=L.t28; have a28:=L.a28; have z28:=L.z28; have v28:=L.v28
  have hne : ρ.t 24≠ρ.t 26:=fun e=>by have h:=L.t24; rw [e,L.t26]at h; cases h
  have u0:=run_underlying L.t0; have u24:=run_underlying L.t24; have u26:=run_underlying L.t26; have u28:=run_underlying L.t28
  obtain ⟨_,_,FG⟩:=L.f11
  refine callsIn_of_wp_marks FG rfl h11 ?_ hro
  simp only [SlBodyZ.n11_ntmps ρ,List.size_toArray,List.length_cons,List.length_nil,Nat.reduceAdd,Nat.reduceSub,Array.replicate_succ,Array.replicate_zero,List.push_toArray,List.append_toArray,List.nil_append,List.cons_append]
  gi_wp2
  refine wpIn_rangeFunc ?_
  intro fn hfn
  rw [hro]
  obtain ⟨W0,hW0⟩:∃ W0,w.alloc (.cells #[.slice none 0 0] (ρ.t 24))=W0:=⟨_,rfl⟩
  have hs0:W0.heap.size=w.heap.size+1:=by rw [← hW0]; simp
  have hv0:W0.heap[w.heap.size]? = some (.cells #[.slice none 0 0] (ρ.t 24) (0,0)):=by rw [← hW0]; exact World.alloc_heap_new w _
  have hb0:Below w.heap.size w W0:=by rw [← hW0]; exact (Below.refl _ w).alloc (Nat.le_refl _) _
  rw [hW0]
  obtain ⟨W1,hW1⟩:∃ W1,(W0.alloc (.deferred (some []))).alloc (.loop (AnyZI.apRec ρ fn (.func (.func g) #[] lb) w.heap.size W0.heap.size .ready none))=W1:=⟨_,rfl⟩
  have hold:∀ k,k<W0.heap.size->W1.heap[k]? = W0.heap[k]?:=fun k hk=>by
    rw [← hW1]; exact (Below.heap_alloc _ _ k (by simp; omega)).trans (Below.heap_alloc _ _ k hk)
  have hb1:Below w.heap.size w W1:=by rw [← hW1]; exact (hb0.alloc hb0.size _).alloc (by have:=hb0.size; simp; omega) _
  have hs1:W1.heap.size=W0.heap.size+2:=by rw [← hW1]; simp
  have hM:AnyZI.ApAt ρ w fn (.func (.func g) #[] lb) w.heap.size (W0.heap.size+1) W0.heap.size [] W1 :=
    ⟨⟨_,(hold w.heap.size (by omega)).trans hv0,⟨rfl,.inl ⟨rfl,rfl⟩⟩,by simp⟩,
     by rw [← hW1]; have:=World.alloc_heap_new (W0.alloc (.deferred (some []))) (.loop (AnyZI.apRec ρ fn (.func (.func g) #[] lb) w.heap.size W0.heap.size .ready none)); rwa [World.size_alloc]at this,
     by rw [← hW1]; exact (Below.heap_alloc _ _ _ (by simp)).trans (World.alloc_heap_new W0 _),hb1⟩
  refine ⟨W0.heap.size+1,[{ target:=.collected W0.heap.size,args:=#[] }],W1,{ target:=.fn (.func g) lb,args:=#[.func (.yield (W0.heap.size+1)) #[] #[]] },W1,g,
    #[.func (.yield (W0.heap.size+1)) #[] #[]]++lb,W1,?_,?_,?_,?_,fun _=>h1,?_⟩
  · rw [← hW1]; exact run_enterLoop_outer _ _ _ _ _
  · simp [resolve,go_sem]
  · intro f' hf'; simp [Target.leads]at hf'; subst hf'; exact hFg
  · simp [invoke,go_sem,eg]
  · have hd1:w.drawn<=W1.drawn:=by rw [← hW1,← hW0]; exact Nat.le_refl _
    refine (hseq (W0.heap.size+1) (fun ss W=>AnyZI.ApAt ρ w fn (.func (.func g) #[] lb) w.heap.size (W0.heap.size+1) W0.heap.size ss W/\w.drawn<=W.drawn) W1 hb1
      (fun pre x W hJ hl=>yieldMono (apYieldD { L with } F (n - 1 - 1) w fn hfn _ w.heap.size (W0.heap.size+1) W0.heap.size (by omega) (by omega) (by omega) (Nat.le_refl _) (by omega) xs.length hN hNb pre x W hJ.1 hl) fun e W' ⟨a,b,c,d⟩=>⟨a,⟨b,Nat.le_trans hJ.2 d⟩,c⟩) ⟨hM,hd1⟩).mono ?_
    rintro e W2 ⟨⟨v0,rfl⟩,h2,hd2⟩
    obtain ⟨v,hv,hrow,hnil⟩:=h2.box
    have hend:=run_endLoop (P:=P) h2.L (by simp [AnyZI.apRec])
    obtain ⟨W3,hW3⟩:∃ W3,W2.putObj (W0.heap.size+1) (.loop { AnyZI.apRec ρ fn (.func (.func g) #[] lb) w.heap.size W0.heap.size .ready none with state:=.exhausted })=W3:=⟨_,rfl⟩
    rw [hW3]at hend
    have hg3:W2.grownBy W3 (some (W0.heap.size+1)):=by rw [← hW3]; exact grownBy_putObj_a _ _ _
    have hv3:W3.heap[w.heap.size]? = some (.cells #[v] (ρ.t 24) (0,0)):=by rw [← hW3]; exact (World.putObj_heap_other (by omega)).trans hv
    have hK3:W3.heap[W0.heap.size]? = some (.deferred (some [])):=by rw [← hW3]; exact (World.putObj_heap_other (by omega)).trans h2.K
    have hrow3:=hrow.kept hg3 (ownsRow_ne_a hrow h2.L fun cur e=>by first | cases e | exact hne (Obj.cells.inj e).2.1)
    have hb3:Below w.heap.size w W3:=h2.below.grown hg3 h2.below.size fun k e=>by cases e; omega
    have hd3:w.drawn<=W3.drawn:=by rw [← hW3]; exact hd2
    obtain ⟨hc3,hf3⟩:=cell_of_box_a hv3
    clear hW3
    refine ⟨none,W3,hend,?_⟩
    gi_wp2
    rw [← hs0]
    refine ⟨by simp,.inl ⟨_,_,rfl,run_takeDeferred hK3,?_⟩⟩
    exact ⟨_,results_tmp rfl _ _ _,v,rfl,hrow3.kept (grownBy_putObj_a _ _ _) (ownsRow_ne_a hrow3 hK3 fun cur e=>by first | cases e | exact hne (Obj.cells.inj e).2.1),hb3.grown (grownBy_putObj_a _ _ _) hb3.size (fun k e=>by cases e; omega),hd3⟩
set_option maxHeartbeats 1000000 in
theorem collectD (L:SlLaysZI.n8 P ρ) (F:Fence) (n:Nat) (h8:F.fn (ρ.f 8)) (h11:F.fn (ρ.f 11)) (hro:F.round=none) (hn:3<=n) (g:Nat) (lb:Array Value) (hFg:F.fn g) (eg:∀ args w,(callFunc g args).run P w = .ok (.enter g args) w)
  (xs:List Int) (hN:xs.length<=maxLen) (hNb:xs.length * 8<=140737488355328) (w:World) (hseq:GivesD F (n - 1 - 1) P g lb xs w) :
  CallsIn F n P (ρ.f 8) #[.func (.func g) #[] lb] w fun e w'=>∃(v:Value),e = .returned v/\w'.ownsRow w.heap.size (ρ.t 26) 1 v xs.length (xs.map encZ)/\Below w.heap.size w w'/\w.drawn<=w'.drawn:=by
 have h1:1<=n:=by omega
 have e11:∀ args w,(callFunc (ρ.f 11) args).run P w = .ok (.enter (ρ.f 11) args) w:=L.f11.enters rfl
 have mixed:=L.mixed; have t0:=L.t0; have a0:=L.a0; have z0:=L.z0; have v0:=L.v0; have t24:=L.t24; have a24:=L.a24; have z24:=L.z24; have v24:=L.v24; have t26:=L.t26; have a26:=L.a26; have z26:=L.z26; have v26:=L.v26; have t28:=L.t28; have a28:=L.a28; have z28:=L.z28; have v28:=L.v28
 have u0:=run_underlying L.t0; have u24:=run_underlying L.t24; have u26:=run_underlying L.t26; have u28:=run_underlying L.t28
 obtain ⟨_,_,FG⟩:=L.f8
 refine callsIn_of_wp FG rfl h8 ?_ hro
 simp only [SlBodyZ.n8_ntmps ρ,List.size_toArray,List.length_cons,List.length_nil,Nat.reduceAdd,Nat.reduceSub,Array.replicate_succ,Array.replicate_zero,List.push_toArray,List.append_toArray,List.nil_append,List.cons_append]
 gi_wp2_with (gi_at_fn (ρ.f 11); refine (appendSeqD { L with } F (n - 1) h11 hro (by omega) g lb hFg eg xs hN hNb _ hseq).mono ?_; rintro e w' ⟨v,rfl,hrow,hb,hd⟩)
 go_ret
 exact ⟨v,rfl,hrow,hb,hd⟩
theorem qFc{W:World}{base:Nat}{e:TypeId}{size:Nat}{v:Value}{k:Nat}{xs:List Value}(h:W.ownsRow base e size v k xs):W.ownsRow 0 e size v k xs:=by
 refine ⟨h.1,?_⟩
 rcases h.2 with hn | ⟨g,cap,cur,hv,hbg,rest⟩
 ·exact .inl hn
 ·exact .inr ⟨g,cap,cur,hv,Nat.zero_le _,rest⟩
theorem collected{W w' F:World}{e:TypeId}{v:Value}{xs:List Int}(hS:St W (mine W []) F W F [])(hr:w'.ownsRow W.heap.size e 1 v xs.length (xs.map encZ))(hb:Below W.heap.size W w')(hd:W.drawn<=w'.drawn):St W (mine W []) F w' F [row (Kn.int .i64) e v xs]:=by
 have hN:=hS.nilrow (Kn.int .i64) e
 refine hN.turn _ hb.os hb.tape hb.output hb.size (fun b h _=>hb.block b h) (fun b h=>.inr (hr.lt b h).1) ?_ hd
 refine ⟨xs.map encZ,qFc hr,?_,fun j p hj=>?_⟩
 ·rw [List.length_map]
  exact (Nat.mul_one _).symm
 ·show _=[Value.int .i64 p]
  have e1:(Kn.int .i64).sz=1:=rfl
  rw [e1,Nat.mul_one]
  apply List.ext_getElem?
  intro i
  cases i with
  | zero =>
   rw [List.getElem?_take_of_lt (by omega),List.getElem?_drop,Nat.add_zero,List.getElem?_map,hj]
   rfl
  | succ i=>rw [List.getElem?_eq_none (by simp; omega),List.getElem?_eq_none (by simp)]
def intOf':Value->Int
 | .int _ c=>c
 | _=>0
theorem qFd{W:World}{a:Addr}{v:Value}(h:W.cell? a=some v):a=⟨a.block,a.off,none⟩/\a.block<W.heap.size:=by
 refine ⟨?_,World.block_lt_of_cell? W a h⟩
 cases a with
 | mk b o s =>
  cases s with
  | none=>rfl
  | some s =>
   unfold World.cell? at h
   split at h
   ·cases h
   ·cases h
end Go.Proofs.YthgfhlbjkmjlpaaGreat.Sl
