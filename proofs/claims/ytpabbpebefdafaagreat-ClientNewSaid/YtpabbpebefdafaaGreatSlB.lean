import Derived.Test.YtpabbpebefdafaaGreatSlA
import Derived.Below
import Derived.Laws.AppendOwn
import Derived.Maps.AppendAt
namespace Go.Proofs.YtpabbpebefdafaaGreat.Sl
open Go Go.RowKit
set_option linter.unusedVariables false
def Sub(F W:World):Prop:=∀(b:Nat)(c:Array Value)(e:TypeId)(z:Nat × Nat),F.heap[b]? = some (.cells c e z)→W.heap[b]? = some (.cells c e z)
theorem Sub.refl(F:World):Sub F F:=fun _ _ _ _ h=>h
theorem Sub.trans{a b c:World}(h:Sub a b)(k:Sub b c):Sub a c:=fun i x e z hi=>k i x e z (h i x e z hi)
theorem Sub.cell{F W:World}(h:Sub F W){a:Addr}{v:Value}(hc:F.cell? a=some v):W.cell? a=some v:=by
 unfold World.cell? at hc ⊢
 cases hb:F.heap[a.block]? with
 | none=>rw [hb]at hc; cases hc
 | some o =>
  rw [hb]at hc
  cases o with
  | cells c e z=>rw [h _ _ _ _ hb]; exact hc
  | _=>cases hc
structure Kn (α : Type) where
 sz:Nat
 K:World→α→List Value→Prop
 len:∀ {F x cs},K F x cs→cs.length=sz
 one:∀ {F x cs},K F x cs→∀ u ∈ cs,u.oneCell'=true
 mono:∀ {F F' x cs},Sub F F'→K F x cs→K F' x cs
def Rd{α : Type}(d:Kn α)(F:World)(A:Option Addr)(c:Nat)(xs:List α):Prop :=
 xs.length≤c∧c≤maxLen∧(0<xs.length→∃ ad,A=some ad∧∀ j p,xs[j]? = some p→∃ cs,d.K F p cs∧∀ i u,cs[i]? = some u→F.cell? (ad.add (j * d.sz+i))=some u)
namespace Kn
def int(k:IntKind):Kn Int:=⟨1,fun _ x cs=>cs=[.int k x],fun h=>by rw [h]; rfl,fun h u hu=>by rw [h]at hu; rw [List.mem_singleton.1 hu]; rfl,fun _ h=>h⟩
def bool:Kn Bool:=⟨1,fun _ x cs=>cs=[.bool x],fun h=>by rw [h]; rfl,fun h u hu=>by rw [h]at hu; rw [List.mem_singleton.1 hu]; rfl,fun _ h=>h⟩
end Kn
section
variable {α : Type} {d:Kn α} {F F':World} {A:Option Addr} {c:Nat} {xs:List α}
theorem Rd.mono(h:Rd d F A c xs)(hs:Sub F F'):Rd d F' A c xs:=by
 refine ⟨h.1,h.2.1,fun hn=>?_⟩
 obtain ⟨ad,e,hc⟩:=h.2.2 hn
 refine ⟨ad,e,fun j p hj=>?_⟩
 obtain ⟨cs,hK,hcs⟩:=hc j p hj
 exact ⟨cs,d.mono hs hK,fun i u hi=>hs.cell (hcs i u hi)⟩
theorem Rd.none_nil(h:Rd d F none c xs):xs=[]:=by
 cases xs with
 | nil=>rfl
 | cons x l =>
  obtain ⟨ad,e,_⟩:=h.2.2 (by simp)
  cases e
theorem Rd.nil(d:Kn α)(F:World):Rd d F none 0 []:=⟨Nat.le_refl _,Nat.zero_le _,fun h=>absurd h (by simp)⟩
theorem Rd.get(h:Rd d F A c xs)(z : α)(i:Int)(h0:0≤i)(h1:i<xs.length):∃ ad cs,A=some ad∧d.K F (xs.getD i.toNat z) cs∧∀ j u,cs[j]? = some u→F.cell? (ad.add (i.toNat * d.sz+j))=some u:=by
 obtain ⟨ad,e,hc⟩:=h.2.2 (by omega)
 have hlt:i.toNat<xs.length:=by omega
 obtain ⟨cs,hK,hcs⟩:=hc i.toNat xs[i.toNat] (List.getElem?_eq_getElem hlt)
 refine ⟨ad,cs,e,?_,hcs⟩
 rw [List.getD_eq_getElem?_getD,List.getElem?_eq_getElem hlt]
 exact hK
end
def Kn.slice{α : Type}(d:Kn α):Kn (List α) :=
 ⟨1,fun F xs cs=>∃ A c,cs=[.slice A xs.length c]∧Rd d F A c xs,fun ⟨_,_,h,_⟩=>by rw [h]; rfl,fun ⟨_,_,h,_⟩ u hu=>by rw [h]at hu; rw [List.mem_singleton.1 hu]; rfl,fun hs ⟨A,c,h,k⟩=>⟨A,c,h,k.mono hs⟩⟩
structure Asrt where
 fp:Nat→Prop
 ok:World→World→Prop
 mono:∀ {F F' W:World},Sub F F'→ok F W→ok F' W
 loc:∀ {F W W':World},(∀ b,fp b→W'.heap[b]? = W.heap[b]?)→ok F W→ok F W'
 lt:∀ {F W:World} {b:Nat},ok F W→fp b→b<W.heap.size
def box(b:Nat)(cs:Array Value)(e:TypeId):Asrt :=
 ⟨(· = b),fun _ W=>W.heap[b]? = some (.cells cs e (0,0)),fun _ h=>h,fun hl h=>(hl b rfl).trans h,fun {F W b'} h hb=>by rw [show b'=b from hb]; exact (Array.getElem?_eq_some_iff.1 h).1⟩
def RepsK{α : Type}(d:Kn α)(F:World)(xs:List α)(cs:List Value):Prop:=cs.length=xs.length * d.sz∧∀ j p,xs[j]? = some p→d.K F p ((cs.drop (j * d.sz)).take d.sz)
theorem qEa{w:World}{base e size n:Nat}{v:Value}{xs:List Value}(h:w.ownsRow base e size v n xs){k:Nat}(hk:v.ownBlock=some k):∃ c z,w.heap[k]? = some (.cells c e z):=by
 rcases h.2 with ⟨rfl,_⟩ | ⟨g,cap,cur,rfl,hg,hh,r⟩
 ·simp [Value.ownBlock]at hk
 ·have:g=k:=by simpa [Value.ownBlock] using hk
  subst this
  exact ⟨cur,_,hh⟩
def row{α : Type}(d:Kn α)(e:TypeId)(v:Value)(xs:List α):Asrt :=
 ⟨fun b=>v.ownBlock=some b,fun F W=>∃ inner,W.ownsRow 0 e d.sz v xs.length inner∧RepsK d F xs inner,
  fun hs ⟨inner,h1,h2,h3⟩=>⟨inner,h1,h2,fun j p hj=>d.mono hs (h3 j p hj)⟩,
  fun {F W W'} hl ⟨inner,h1,h2⟩=>⟨inner,by
   obtain ⟨h3,h4⟩:=h1
   refine ⟨h3,?_⟩
   rcases h4 with h4 | ⟨g,cap,cur,rfl,hg,hh,r⟩
   ·exact .inl h4
   ·exact .inr ⟨g,cap,cur,rfl,hg,(hl g (by simp [Value.ownBlock])).trans hh,r⟩,h2⟩,
  fun ⟨inner,h1,_⟩ hb=>by obtain ⟨c,z,h⟩:=qEa h1 hb; exact (Array.getElem?_eq_some_iff.1 h).1⟩
structure Own (W F:World) (L:List Asrt):Prop where
 sub:Sub F W
 ok:∀ A ∈ L,A.ok F W
 free:∀ A ∈ L,∀ b,A.fp b→∀ c e z,F.heap[b]?≠some (.cells c e z)
 apart:L.Pairwise (fun A B=>∀ b,A.fp b→¬ B.fp b)
def mine(W:World)(L:List Asrt):Nat→Prop:=fun b=>W.heap.size≤b∨∃ A ∈ L,A.fp b
structure St (W0:World) (N:Nat→Prop) (F0 W F:World) (L:List Asrt):Prop where
 os:W.os=W0.os
 tape:W.tape=W0.tape
 output:W.output=W0.output
 size:W0.heap.size≤W.heap.size
 keep:∀ b,¬ N b→W.heap[b]? = W0.heap[b]?
 elder:∀ b,¬ N b→b<W0.heap.size
 own:Own W F L
 new:∀ A ∈ L,∀ b,A.fp b→N b
 sub:Sub F0 F
 ext:∀ b c e z,F.heap[b]? = some (.cells c e z)→F0.heap[b]? = some (.cells c e z)∨N b
 dr:W0.drawn≤W.drawn
theorem qCV{w:World}{b:Nat}{o:Obj}(h:w.heap[b]? = some o):b<w.heap.size:=(Array.getElem?_eq_some_iff.1 h).1
section
variable {W0 W W' F0 F F':World} {N:Nat→Prop} {L L':List Asrt} {A B:Asrt}
theorem Own.lt(h:Own W F L)(hA:A ∈ L){b:Nat}(hf:A.fp b):b<W.heap.size:=A.lt (h.ok A hA) hf
theorem Own.nil(hs:Sub F W):Own W F []:=⟨hs,by simp,by simp,List.Pairwise.nil⟩
theorem St.start(h:Own W F L):St W (mine W L) F W F L :=
 ⟨rfl,rfl,rfl,Nat.le_refl _,fun _ _=>rfl,fun b hb=>Nat.lt_of_not_le (fun hl=>hb (.inl hl)),h,fun A hA b hf=>.inr ⟨A,hA,hf⟩,Sub.refl _,fun _ _ _ _ h=>.inl h,Nat.le_refl _⟩
theorem sT(h:Sub F W):St W (mine W []) F W F []:=St.start (Own.nil h)
theorem St.on(h:St W0 N F0 W F L)(ho:W'.os=W.os)(ht:W'.tape=W.tape)(hp:W'.output=W.output)(hb:Agr W W')(hd:W.drawn≤W'.drawn):St W0 N F0 W' F L where
 os:=ho.trans h.os
 tape:=ht.trans h.tape
 output:=hp.trans h.output
 size:=Nat.le_trans h.size hb.1
 keep:=fun b hn=>(hb.2 b (Nat.lt_of_lt_of_le (h.elder b hn) h.size)).trans (h.keep b hn)
 elder:=h.elder
 own:=⟨fun b c e z hc=>(hb.2 b (qCV (h.own.sub b c e z hc))).trans (h.own.sub b c e z hc),fun A hA=>A.loc (fun b hf=>hb.2 b (h.own.lt hA hf)) (h.own.ok A hA),h.own.free,h.own.apart⟩
 new:=h.new
 sub:=h.sub
 ext:=h.ext
 dr:=Nat.le_trans h.dr hd
theorem St.drew(h:St W0 N F0 W F L):St W0 N F0 W.drew F L:=h.on rfl rfl rfl (Agr.drew W) (Nat.le_succ _)
theorem qCe(w:World)(o:Obj):Agr w (w.alloc o):=⟨by simp,fun b hb=>Below.heap_alloc w o b hb⟩
theorem St.alloc0(h:St W0 N F0 W F L)(o:Obj):St W0 N F0 (W.alloc o) F L:=h.on rfl rfl rfl (qCe W o) (Nat.le_refl _)
theorem St.at_size(h:St W0 N F0 W F L):N W.heap.size:=Classical.byContradiction fun hn=>by
 have:=h.elder _ hn
 have:=h.size
 omega
theorem St.alloc(h:St W0 N F0 W F L)(o:Obj)(A:Asrt)(hf:∀ b,A.fp b→b=W.heap.size)(ho:A.ok F (W.alloc o)):St W0 N F0 (W.alloc o) F (A :: L):=by
 have h1:=h.alloc0 o
 refine { h1 with own:=⟨h1.own.sub,fun B hB=>?_,fun B hB b hb=>?_,List.pairwise_cons.2 ⟨fun B hB b hb hb2=>?_,h.own.apart⟩⟩,new:=fun B hB b hb=>?_ }
 ·rcases List.mem_cons.1 hB with rfl | hB
  ·exact ho
  ·exact h1.own.ok B hB
 ·rcases List.mem_cons.1 hB with rfl | hB
  ·intro c e z hc
   have:=qCV (h.own.sub b c e z hc)
   rw [hf b hb]at this
   omega
  ·exact h.own.free B hB b hb
 ·have:=h.own.lt hB hb2
  rw [hf b hb]at this
  omega
 ·rcases List.mem_cons.1 hB with rfl | hB
  ·rw [hf b hb]; exact h.at_size
  ·exact h.new B hB b hb
theorem St.box(h:St W0 N F0 W F L)(cs:Array Value)(e:TypeId):St W0 N F0 (W.alloc (.cells cs e)) F (box W.heap.size cs e :: L) :=
 h.alloc _ _ (fun b hb=>hb) (by show (W.heap.push _)[W.heap.size]? = _; simp)
theorem Own.tail(h:Own W F (A :: L)):Own W F L:=⟨h.sub,fun B hB=>h.ok B (List.mem_cons_of_mem _ hB),fun B hB=>h.free B (List.mem_cons_of_mem _ hB),(List.pairwise_cons.1 h.apart).2⟩
theorem St.tail(h:St W0 N F0 W F (A :: L)):St W0 N F0 W F L:={ h with own:=h.own.tail,new:=fun B hB=>h.new B (List.mem_cons_of_mem _ hB) }
theorem Own.perm(h:Own W F L)(hp:L.Perm L'):Own W F L' :=
 ⟨h.sub,fun B hB=>h.ok B (hp.mem_iff.2 hB),fun B hB=>h.free B (hp.mem_iff.2 hB),hp.pairwise h.apart (fun h b hb ha=>h b ha hb)⟩
theorem St.perm(h:St W0 N F0 W F L)(hp:L.Perm L'):St W0 N F0 W F L':={ h with own:=h.own.perm hp,new:=fun B hB=>h.new B (hp.mem_iff.2 hB) }
def front:Nat→List Asrt→List Asrt
 | 0,l=>l
 | i+1,a :: l=>match front i l with
  | b :: r=>b :: a :: r
  | []=>[a]
 | _+1,[]=>[]
theorem qDg:∀(i:Nat)(l:List Asrt),l.Perm (front i l)
 | 0,l=>.refl _
 | i+1,[]=>.refl _
 | i+1,a :: l=>by
  have ih:=qDg i l
  unfold front
  cases hf:front i l with
  | nil=>rw [hf]at ih; exact ih.cons a
  | cons b r=>rw [hf]at ih; exact (ih.cons a).trans (List.Perm.swap b a r)
theorem St.front(h:St W0 N F0 W F L)(i:Nat)(hl:Sl.front i L=L'):St W0 N F0 W F L':=by
 subst hl
 exact h.perm (qDg i L)
theorem St.turn (h:St W0 N F0 W F (A :: L)) (A':Asrt) (ho:W'.os=W.os) (ht:W'.tape=W.tape) (hp:W'.output=W.output) (hz:W.heap.size≤W'.heap.size) (h5:∀ b,b<W.heap.size→¬ A.fp b→W'.heap[b]? = W.heap[b]?)
  (hf:∀ b,A'.fp b→A.fp b∨W.heap.size≤b) (hok:A'.ok F W') (hd:W.drawn≤W'.drawn):St W0 N F0 W' F (A' :: L):=by
 have hAn:∀ b,A.fp b→N b:=h.new A List.mem_cons_self
 have hAp:=(List.pairwise_cons.1 h.own.apart).1
 have hlt:∀ B ∈ L,∀ b,B.fp b→b<W.heap.size:=fun B hB b hf=>h.own.lt (List.mem_cons_of_mem _ hB) hf
 have hge:∀ b,W.heap.size≤b→N b:=fun b hb=>Classical.byContradiction fun hn=>by
  have:=h.elder _ hn
  have:=h.size
  omega
 refine ⟨ho.trans h.os,ht.trans h.tape,hp.trans h.output,Nat.le_trans h.size hz,fun b hn=>?_,h.elder,⟨fun b c e z hc=>?_,fun B hB=>?_,fun B hB b hb=>?_,List.pairwise_cons.2 ⟨fun B hB b hb hb2=>?_,(List.pairwise_cons.1 h.own.apart).2⟩⟩,fun B hB b hb=>?_,h.sub,h.ext,Nat.le_trans h.dr hd⟩
 ·rw [h5 b (Nat.lt_of_lt_of_le (h.elder b hn) h.size) (fun hA=>hn (hAn b hA))]
  exact h.keep b hn
 ·have hc':=h.own.sub b c e z hc
  rw [h5 b (qCV hc') (fun hA=>h.own.free A List.mem_cons_self b hA c e z hc)]
  exact hc'
 ·rcases List.mem_cons.1 hB with rfl | hB
  ·exact hok
  ·exact B.loc (fun b hb=>h5 b (hlt B hB b hb) (fun hA=>hAp B hB b hA hb)) (h.own.ok B (List.mem_cons_of_mem _ hB))
 ·rcases List.mem_cons.1 hB with rfl | hB
  ·intro c e z hc
   rcases hf b hb with hA | hA
   ·exact h.own.free A List.mem_cons_self b hA c e z hc
   ·have:=qCV (h.own.sub b c e z hc)
    omega
  ·exact h.own.free B (List.mem_cons_of_mem _ hB) b hb
 ·rcases hf b hb with hA | hA
  ·exact hAp B hB b hA hb2
  ·have:=hlt B hB b hb2
   omega
 ·rcases List.mem_cons.1 hB with rfl | hB
  ·rcases hf b hb with hA | hA
   ·exact hAn b hA
   ·exact hge b hA
  ·exact h.new B (List.mem_cons_of_mem _ hB) b hb
open Classical in
noncomputable def keepW (W F:World) (X:Nat→Prop):World:={ W with heap:=Array.ofFn (n:=W.heap.size) fun i=>if X i∨∃ c e z,F.heap[i.1]? = some (.cells c e z) then W.heap[i] else .map #[] 0 }
theorem qEw{X:Nat→Prop}{b:Nat}(hb:b<W.heap.size)(hX:X b∨∃ c e z,F.heap[b]? = some (.cells c e z)):(keepW W F X).heap[b]? = W.heap[b]?:=by
 unfold keepW
 simp only [Array.getElem?_ofFn,hb,dite_true]
 rw [if_pos hX]
 simp [hb]
theorem qDv{X:Nat→Prop}{b:Nat}{c:Array Value}{e:TypeId}{z:Nat × Nat}(h:(keepW W F X).heap[b]? = some (.cells c e z)):W.heap[b]? = some (.cells c e z)∧(X b∨∃ c e z,F.heap[b]? = some (.cells c e z)):=by
 have hlt:b<W.heap.size:=by
  have:=qCV h
  simpa [keepW] using this
 unfold keepW at h
 simp only [Array.getElem?_ofFn,hlt,dite_true]at h
 split at h
 ·rename_i hq
  refine ⟨?_,hq⟩
  rw [← h]
  simp [hlt]
 ·cases h
theorem St.freeze(h:St W0 N F0 W F (A :: L)):∃ F',Sub F F'∧(∀ b,A.fp b→F'.heap[b]? = W.heap[b]?)∧St W0 N F0 W F' L:=by
 have hsub:Sub F (keepW W F A.fp):=fun b c e z hc=>by
  have hW:=h.own.sub b c e z hc
  rw [qEw (qCV hW) (.inr ⟨c,e,z,hc⟩)]
  exact hW
 refine ⟨keepW W F A.fp,hsub,fun b hb=>qEw (h.own.lt List.mem_cons_self hb) (.inl hb),?_⟩
 refine { h with own:=⟨fun b c e z hc=>(qDv hc).1,fun B hB=>B.mono hsub (h.own.ok B (List.mem_cons_of_mem _ hB)),fun B hB b hb c e z hc=>?_,(List.pairwise_cons.1 h.own.apart).2⟩,new:=fun B hB=>h.new B (List.mem_cons_of_mem _ hB),sub:=h.sub.trans hsub,ext:=fun b c e z hc=>?_ }
 ·rcases (qDv hc).2 with hq | ⟨c2,e2,z2,hq⟩
  ·exact (List.pairwise_cons.1 h.own.apart).1 B hB b hq hb
  ·exact h.own.free B (List.mem_cons_of_mem _ hB) b hb c2 e2 z2 hq
 ·obtain ⟨hc1,hq | ⟨c2,e2,z2,hq⟩⟩:=qDv hc
  ·exact .inr (h.new A List.mem_cons_self b hq)
  ·have h2:=h.own.sub b _ _ _ hq
   rw [hc1]at h2
   rw [← h2]at hq
   exact h.ext b c e z hq
theorem Own.head(h:Own W F (A :: L)):A.ok F W:=h.ok A List.mem_cons_self
theorem St.agr(h:St W (mine W []) F W' F' L):Agr W W':=⟨h.size,fun b hb=>h.keep b (fun hn=>by rcases hn with hn | ⟨A,hA,_⟩; omega; cases hA)⟩
theorem St.lent{G G':World}{Y:List Asrt}(h:St W0 N F0 W F L)(h':St W (mine W []) G W' G' Y):St W0 N F0 W' F L:=h.on h'.os h'.tape h'.output h'.agr h'.dr
theorem St.called{X Y:List Asrt}(h:St W0 N F0 W F (X++L))(h':St W (mine W X) F W' F' Y):St W0 N F0 W' F' (Y++L):=by
 have hX:∀ A ∈ X,A ∈ X++L:=fun A hA=>List.mem_append_left _ hA
 have hL:∀ A ∈ L,A ∈ X++L:=fun A hA=>List.mem_append_right _ hA
 have hap:=List.pairwise_append.1 h.own.apart
 have hnm:∀ B ∈ L,∀ b,B.fp b→¬ mine W X b:=fun B hB b hb hm=>by
  rcases hm with hm | ⟨A,hA,hf⟩
  ·have:=h.own.lt (hL B hB) hb
   omega
  ·exact hap.2.2 A hA B hB b hf hb
 have hN:∀ b,mine W X b→N b:=fun b hm=>by
  rcases hm with hm | ⟨A,hA,hf⟩
  ·exact Classical.byContradiction fun hn=>by
    have:=h.elder _ hn
    have:=h.size
    omega
  ·exact h.new A (hX A hA) b hf
 refine ⟨h'.os.trans h.os,h'.tape.trans h.tape,h'.output.trans h.output,Nat.le_trans h.size h'.size,fun b hn=>(h'.keep b (fun hm=>hn (hN b hm))).trans (h.keep b hn),h.elder,⟨h'.own.sub,fun A hA=>?_,fun A hA b hb c e z hc=>?_,List.pairwise_append.2 ⟨h'.own.apart,hap.2.1,fun A hA B hB b ha hb=>hnm B hB b hb (h'.new A hA b ha)⟩⟩,fun A hA b hb=>?_,h.sub.trans h'.sub,fun b c e z hc=>?_,Nat.le_trans h.dr h'.dr⟩
 ·rcases List.mem_append.1 hA with hA | hA
  ·exact h'.own.ok A hA
  ·exact A.mono h'.sub (A.loc (fun b hb=>h'.keep b (hnm A hA b hb)) (h.own.ok A (hL A hA)))
 ·rcases List.mem_append.1 hA with hA | hA
  ·exact h'.own.free A hA b hb c e z hc
  ·rcases h'.ext b c e z hc with h1 | h1
   ·exact h.own.free A (hL A hA) b hb c e z h1
   ·exact hnm A hA b hb h1
 ·rcases List.mem_append.1 hA with hA | hA
  ·exact hN b (h'.new A hA b hb)
  ·exact h.new A (hL A hA) b hb
 ·rcases h'.ext b c e z hc with h1 | h1
  ·exact h.ext b c e z h1
  ·exact .inr (hN b h1)
theorem Own.left{X:List Asrt}(h:Own W F (X++L)):Own W F X:=⟨h.sub,fun A hA=>h.ok A (List.mem_append_left _ hA),fun A hA=>h.free A (List.mem_append_left _ hA),(List.pairwise_append.1 h.apart).1⟩
theorem St.below(h:St W (mine W []) F W' F' L):Below W.heap.size W W':=⟨h.os,h.tape,h.output,h.size,h.agr.2⟩
end
end Go.Proofs.YtpabbpebefdafaaGreat.Sl
