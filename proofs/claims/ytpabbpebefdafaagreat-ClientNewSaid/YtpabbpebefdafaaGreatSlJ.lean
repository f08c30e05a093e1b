import Derived.Test.YtpabbpebefdafaaGreatSlL
import Derived.Shelf.SlSortCmp.WholeK
import Derived.Shelf.SlSortCmp.NoneTotal
namespace Go.Proofs.YtpabbpebefdafaaGreat.Sl
open Go Go.RowKit Go.Shelf Go.Lib Go.Sort
set_option linter.unusedVariables false
set_option linter.unusedSimpArgs false
section
variable {α : Type} [Inhabited α] {enc : α→List Value} {k:Nat} {w0 w W:World} {blk off:Nat} {dk:Array α}
theorem qEN(h:SWK enc k w0 blk off dk W)(j:Nat)(hj:j<w0.heap.size)(hne:j≠blk):W.heap[j]? = w0.heap[j]?:=by
 obtain ⟨n,os,rfl⟩:=h
 unfold sortWorldK
 rw [heap_grow_old _ _ (by rw [size_putRowK]; exact hj)]
 unfold putRowK putRow mapBlock
 show (Array.modify _ _ _)[j]? = _
 rw [Array.getElem?_modify,if_neg (fun h=>hne h.symm)]
 rfl
theorem qGV(h:SWK enc k w0 blk off dk W)(hb:blk<w0.heap.size){c:Array Value}{t:TypeId}{fz:Nat × Nat}(hc:w0.heap[blk]? = some (.cells c t fz)):∃ c':Array Value,W.heap[blk]? = some (.cells c' t fz)∧c'.size=c.size:=by
 obtain ⟨n,os,rfl⟩:=h
 unfold sortWorldK
 rw [heap_grow_old _ _ (by rw [size_putRowK]; exact hb)]
 unfold putRowK putRow mapBlock
 refine ⟨putCells id off (flatK enc k dk) c,?_,?_⟩
 ·show (Array.modify _ _ _)[blk]? = _
  rw [Array.getElem?_modify,if_pos rfl,show (Sort.ahead w0 n).heap[blk]? = _ from hc]
  rfl
 ·simp [putCells]
theorem qFn(h:SWK enc k w0 blk off dk W):W.os=w0.os∧W.tape=w0.tape∧W.output=w0.output∧w0.heap.size≤W.heap.size∧w0.drawn≤W.drawn:=by
 obtain ⟨n,os,rfl⟩:=h
 unfold sortWorldK putRowK putRow mapBlock grow Sort.ahead
 refine ⟨rfl,rfl,rfl,?_,?_⟩
 ·simp
 ·first | exact Nat.le_add_right _ _ | exact Nat.le_refl _ | simp
end
section
variable {α : Type}
def insertL(lt : α→α→Bool)(x : α):List α→List α
 | []=>[x]
 | y :: r=>if lt x y then x :: y :: r else y :: insertL lt x r
def sortL(lt : α→α→Bool):List α→List α
 | []=>[]
 | x :: r=>insertL lt x (sortL lt r)
theorem qCr(lt : α→α→Bool)(x : α):∀ l:List α,(insertL lt x l).Perm (x :: l)
 | []=>List.Perm.refl _
 | y :: r=>by
  unfold insertL
  split
  ·exact List.Perm.refl _
  ·exact ((qCr lt x r).cons y).trans (List.Perm.swap x y r)
theorem qCc(lt : α→α→Bool):∀ l:List α,(sortL lt l).Perm l
 | []=>List.Perm.refl _
 | x :: r=>(qCr lt x _).trans ((qCc lt r).cons x)
structure SWOn (ok : α→Prop) (lt : α→α→Bool):Prop where
 irrefl:∀ x,ok x→lt x x=false
 trans:∀ x y z,ok x→ok y→ok z→lt x y=true→lt y z=true→lt x z=true
 ntrans:∀ x y z,ok x→ok y→ok z→lt x y=false→lt y z=false→lt x z=false
theorem SWOn.asym{ok : α→Prop}{lt : α→α→Bool}(h:SWOn ok lt){x y : α}(hx:ok x)(hy:ok y)(hxy:lt x y=true):lt y x=false:=by
 cases hc:lt y x with
 | false=>rfl
 | true=>have:=h.trans x y x hx hy hx hxy hc; rw [h.irrefl x hx]at this; cases this
theorem qEh(lt : α→α→Bool)(x : α)(l:List α){y : α}: y ∈ insertL lt x l↔y=x∨y ∈ l:=by rw [(qCr lt x l).mem_iff]; simp
theorem qCf(lt : α→α→Bool)(l:List α){y : α}: y ∈ sortL lt l↔y ∈ l:=(qCc lt l).mem_iff
theorem qCv{ok : α→Prop}{lt : α→α→Bool}(h:SWOn ok lt)(x : α)(hx:ok x):∀ l:List α,(∀ y ∈ l,ok y)→l.Pairwise (fun a b=>lt b a=false)→(insertL lt x l).Pairwise (fun a b=>lt b a=false)
 | [],_,_=>by simp [insertL]
 | y :: r,ho,hp=>by
  have hy:=ho y (by simp)
  have hr:∀ z ∈ r,ok z:=fun z hz=>ho z (by simp [hz])
  obtain ⟨h1,h2⟩:=List.pairwise_cons.1 hp
  unfold insertL
  split
  ·rename_i hxy
   refine List.pairwise_cons.2 ⟨fun z hz=>?_,hp⟩
   rcases List.mem_cons.1 hz with rfl | hz
   ·exact h.asym hx hy hxy
   ·exact h.ntrans z y x (hr z hz) hy hx (h1 z hz) (h.asym hx hy hxy)
  ·rename_i hxy
   have hxy:lt x y=false:=by simpa using hxy
   refine List.pairwise_cons.2 ⟨fun z hz=>?_,qCv h x hx r hr h2⟩
   rcases (qEh lt x r).1 hz with rfl | hz
   ·exact hxy
   ·exact h1 z hz
theorem qCi{ok : α→Prop}{lt : α→α→Bool}(h:SWOn ok lt):∀ l:List α,(∀ y ∈ l,ok y)→(sortL lt l).Pairwise (fun a b=>lt b a=false)
 | [],_=>List.Pairwise.nil
 | x :: r,ho=>qCv h x (ho x (by simp)) _ (fun y hy=>ho y (by simp [(qCf lt r).1 hy])) (qCi h r (fun y hy=>ho y (by simp [hy])))
end
section
variable {P:Program} {ρ : Ren} {α : Type} [Inhabited α]
theorem qEO{β : Type}[Inhabited β](f : β→α)(enc : α→List Value)(k:Nat)(d:Array β):flatK (fun x=>enc (f x)) k d=flatK enc k (d.map f):=by
 refine ext_get! (by simp) fun t ht=>?_
 have ht':t<d.size * k:=by simpa using ht
 have k0:0<k:=by
  rcases Nat.eq_zero_or_pos k with h | h
  ·subst h; simp at ht'
  ·exact h
 have hj:t / k<d.size:=(Nat.div_lt_iff_lt_mul k0).2 ht'
 rw [get_flatK _ _ _ t ht',get_flatK _ _ _ t (by simpa using ht')]
 rw [getElem!_pos d (t / k) hj,getElem!_pos (d.map f) (t / k) (by simpa using hj),Array.getElem_map]
theorem qFo{β : Type}[Inhabited β](f : β→α)(enc : α→List Value)(k:Nat)(w:World)(blk off n:Nat)(d:Array β)(os:Array Obj):sortWorldK (fun x=>enc (f x)) k w blk off n d os=sortWorldK enc k w blk off n (d.map f) os:=by
 unfold sortWorldK putRowK
 rw [qEO f enc k d]
theorem qHG {ok : α→Prop} [Inhabited { x : α // ok x }] {k:Nat} {enc : α→List Value} {cf : α→α→Int} {g:Nat} {cb:Array Value} {blk n:Nat} {w:World}
  (hcmp:∀(m:Nat)(os:Array Obj)(dk:Array α),dk.size=n→∀ x y : α,ok x→ok y→Calls P g (#[.agg (enc x).toArray,.agg (enc y).toArray]++cb) (sortWorldK enc k w blk 0 m dk os) fun e w'=>e = .returned (.int .i64 (cf x y))∧∃ q os',w'=grow ((sortWorldK enc k w blk 0 m dk os).drewN q) os') :
  CmpLays P g cb (fun x : { x : α // ok x }=>enc x.1) k (fun x y=>cf x.1 y.1) blk 0 n w:=by
 intro m os dk hs x y
 have e:sortWorldK (fun x : { x : α // ok x }=>enc x.1) k w blk 0 m dk os=sortWorldK enc k w blk 0 m (dk.map Subtype.val) os:=qFo Subtype.val enc k w blk 0 m dk os
 have h:=hcmp m os (dk.map Subtype.val) (by simpa using hs) x.1 y.1 x.2 y.2
 rw [← e]at h
 exact h
set_option maxHeartbeats 1000000 in
theorem qEP (L:SlLaysF0.n6 P ρ) (k:Nat) (aE:∀ w,(isAgg (ρ.t 24)).run P w = .ok true w) (zE:∀ w,(Go.sizeOf (ρ.t 24)).run P w = .ok k w) (enc : α→List Value) (hk:∀ x,(enc x).length=k) (h1:∀ x,∀ v ∈ enc x,v.oneCell'=true) (ok : α→Prop) [Inhabited { x : α // ok x }] (cf : α→α→Int) (hO:SWOn ok (ltOf cf)) (g:Nat) (cb:Array Value) (blk cap:Nat) (D:List { x : α // ok x }) (w:World)
  (eg:∀ args w,(callFunc g args).run P w = .ok (.enter g args) w)
  (hcmp:∀(m:Nat)(os:Array Obj)(dk:Array α),dk.size=D.length→∀ x y : α,ok x→ok y→Calls P g (#[.agg (enc x).toArray,.agg (enc y).toArray]++cb) (sortWorldK enc k w blk 0 m dk os) fun e w'=>e = .returned (.int .i64 (cf x y))∧∃ q os',w'=grow ((sortWorldK enc k w blk 0 m dk os).drewN q) os')
  (hH:HoldsK enc k w blk 0 (D.map Subtype.val).toArray) (hblk:blk<w.heap.size) (hsz:D.length<4611686018427387904) :
  Calls P (ρ.f 6) #[.slice (some ⟨blk,0,none⟩) D.length cap,.func (.func g) #[] cb] w fun e w'=>e = .returned (.tuple #[])∧∃ d:Array { x : α // ok x },d.size=D.length∧d.toList.Perm D∧d.toList.Pairwise (fun a b=>ltOf cf b.1 a.1=false)∧SWK enc k w blk 0 (d.map Subtype.val) w':=by
 have hSW:SWO (ltOf fun x y : { x : α // ok x }=>cf x.1 y.1):=⟨fun x=>hO.irrefl x.1 x.2,fun x y z=>hO.trans x.1 y.1 z.1 x.2 y.2 z.2,fun x y z=>hO.ntrans x.1 y.1 z.1 x.2 y.2 z.2⟩
 have hH':HoldsK (fun x : { x : α // ok x }=>enc x.1) k w blk 0 D.toArray:=by
  unfold HoldsK
  rw [qEO (fun x : { x : α // ok x }=>x.1) enc,List.map_toArray]
  exact hH
 have hc:=AnyQ.slices_SortFunc L k aE zE (fun x : { x : α // ok x }=>enc x.1) (fun x=>hk x.1) (fun x=>h1 x.1) (fun x y : { x : α // ok x }=>cf x.1 y.1) hSW g cb blk 0 cap D.toArray w eg (by rw [List.size_toArray]; exact qHG hcmp) hH' hblk (by simpa using hsz)
 rw [List.size_toArray]at hc
 refine hc.mono ?_
 rintro e w' ⟨rfl,d',n,os,hp,hs,rfl⟩
 obtain ⟨hz,_,hperm⟩:=hp
 have hz':d'.size=D.length:=by rw [hz]; simp
 have e1:(d'.extract 0 D.length)=d':=by rw [← hz']; simp
 have e2:(D.toArray.extract 0 D.length)=D.toArray:=by simp
 rw [e1,e2]at hperm
 refine ⟨rfl,d',hz',hperm,?_,n,os,?_⟩
 ·rw [List.pairwise_iff_getElem]
  intro i j hi hj hij
  have:=hs i j (Nat.zero_le _) hij (by rw [← hz']; simpa using hj)
  rw [getElem!_pos d' i (by simpa using hi),getElem!_pos d' j (by simpa using hj)]at this
  simp only [Array.getElem_toList]
  exact this
 ·exact qFo Subtype.val enc k w blk 0 n d' os
theorem sortFunc (L:SlLaysF0.n6 P ρ) (k:Nat) (aE:∀ w,(isAgg (ρ.t 24)).run P w = .ok true w) (zE:∀ w,(Go.sizeOf (ρ.t 24)).run P w = .ok k w) (enc : α→List Value) (hk:∀ x,(enc x).length=k) (h1:∀ x,∀ v ∈ enc x,v.oneCell'=true) (ok : α→Prop) (cf : α→α→Int) (hO:SWOn ok (ltOf cf)) (g:Nat) (cb:Array Value) (blk cap:Nat) (l:List α) (w:World)
  (eg:∀ args w,(callFunc g args).run P w = .ok (.enter g args) w) (hok:∀ x ∈ l,ok x) (huni:∀ x ∈ l,∀ y ∈ l,ltOf cf x y=false→ltOf cf y x=false→x=y)
  (hcmp:∀(m:Nat)(os:Array Obj)(dk:Array α),dk.size=l.length→∀ x y : α,ok x→ok y→Calls P g (#[.agg (enc x).toArray,.agg (enc y).toArray]++cb) (sortWorldK enc k w blk 0 m dk os) fun e w'=>e = .returned (.int .i64 (cf x y))∧∃ q os',w'=grow ((sortWorldK enc k w blk 0 m dk os).drewN q) os')
  (hH:HoldsK enc k w blk 0 l.toArray) (hblk:blk<w.heap.size) (hsz:l.length<4611686018427387904) :
  Calls P (ρ.f 6) #[.slice (some ⟨blk,0,none⟩) l.length cap,.func (.func g) #[] cb] w fun e w'=>e = .returned (.tuple #[])∧SWK enc k w blk 0 (sortL (ltOf cf) l).toArray w':=by
 cases l with
 | nil =>
  refine (AnyF.slices_SortFunc_none L (some ⟨blk,0,none⟩) cap _ w).mono ?_
  rintro e w' ⟨rfl,rfl⟩
  exact ⟨rfl,SWK.start hH⟩
 | cons x0 r0 =>
  obtain ⟨l,hl⟩:∃ l,l=x0 :: r0:=⟨_,rfl⟩
  have hx0:ok x0:=hok x0 (by simp)
  rw [← hl]at hok huni hcmp hH hsz ⊢
  clear hl
  haveI:Inhabited { x : α // ok x }:=⟨⟨x0,hx0⟩⟩
  obtain ⟨D,hD⟩:∃ D:List { x : α // ok x },D.map Subtype.val=l:=⟨l.attachWith ok hok,List.attachWith_map_subtype_val ..⟩
  have hDl:D.length=l.length:=by rw [← hD,List.length_map]
  have hc:=qEP L k aE zE enc hk h1 ok cf hO g cb blk cap D w eg (by rw [hDl]; exact hcmp) (by rw [hD]; exact hH) hblk (by rw [hDl]; exact hsz)
  rw [hDl]at hc
  refine hc.mono ?_
  rintro e w' ⟨rfl,d',hz',hperm,hsort,hW⟩
  refine ⟨rfl,?_⟩
  have hperm2:(d'.toList.map Subtype.val).Perm l:=by
   have:=hperm.map Subtype.val
   rwa [hD]at this
  have he:(d'.map Subtype.val).toList=sortL (ltOf cf) l:=by
   rw [Array.toList_map]
   refine List.Perm.eq_of_pairwise (le:=fun a b=>ltOf cf b a=false) (fun a b ha hb h1 h2=>?_) ?_ (qCi hO l hok) (hperm2.trans (qCc _ l).symm)
   ·exact huni a (hperm2.mem_iff.1 ha) b ((qCf _ l).1 hb) h2 h1
   ·rw [List.pairwise_map]
    exact hsort
  rw [← he,Array.toArray_toList]
  exact hW
end
section
variable {P:Program} {W0 W F0 F F' w':World} {N:Nat→Prop} {L:List Asrt}
theorem St.grown(h:St W (mine W []) F0 w' F' L):∃ q os,w'=grow (W.drewN q) os:=by
 refine ⟨w'.drawn - W.drawn,w'.heap.extract W.heap.size w'.heap.size,?_⟩
 have hh:w'.heap=W.heap++w'.heap.extract W.heap.size w'.heap.size:=by
  apply Array.ext_getElem?
  intro i
  by_cases hi:i<W.heap.size
  ·rw [Array.getElem?_append_left hi]
   exact h.agr.2 i hi
  ·rw [Array.getElem?_append_right (by omega),Array.getElem?_extract]
   have hs:=h.size
   by_cases h2:i<w'.heap.size
   ·rw [if_pos (by omega),show W.heap.size+(i - W.heap.size)=i by omega]
   ·rw [if_neg (by omega),Array.getElem?_eq_none (by omega)]
 have hd:=h.dr
 have h1:=h.os
 have h2:=h.tape
 have h3:=h.output
 unfold grow World.drewN
 cases w'
 simp only at hh hd h1 h2 h3 ⊢
 rw [← hh,← h1,← h2,← h3]
 congr 1
 omega
end
section
variable {α : Type}
def ltO(cmp : α→α→Option Int)(x y : α):Bool:=decide ((cmp x y).getD 0<0)
def okSort[DecidableEq α](cmp : α→α→Option Int)(l:List α):Bool :=
 (l.all fun x=>l.all fun y=>(cmp x y).isSome)&&(l.all fun x => !ltO cmp x x) &&
 (l.all fun x=>l.all fun y=>l.all fun z=>(!(ltO cmp x y&&ltO cmp y z)||ltO cmp x z)&&(ltO cmp x y||ltO cmp y z || !ltO cmp x z)) &&
 (l.all fun x=>l.all fun y=>ltO cmp x y||ltO cmp y x||decide (x=y))
def sortO[DecidableEq α](cmp : α→α→Option Int)(l:List α):Option (List α):=if okSort cmp l=true∧l.length≤1000000 then some (sortL (ltO cmp) l) else none
theorem qCj(lt : α→α→Bool)(l:List α):(sortL lt l).length=l.length:=(qCc lt l).length_eq
variable {P:Program} {ρ : Ren} [Inhabited α] [DecidableEq α] {d:Kn α} {e:TypeId} {A:Option Addr} {c:Nat} {xs r:List α} {W F:World}
theorem qDl (L:SlLaysF0.n6 P ρ) (k:Nat) (hk:d.sz=k) (aE:∀ w,(isAgg (ρ.t 24)).run P w = .ok true w) (zE:∀ w,(Go.sizeOf (ρ.t 24)).run P w = .ok k w) (enc : α→List Value) (hlen:∀ x,(enc x).length=k) (h1:∀ x,∀ v ∈ enc x,v.oneCell'=true) (henc:∀(F:World)(x : α)(cs:List Value),d.K F x cs↔cs=enc x)
  (cmp : α→α→Option Int) (g:Nat) (cb:Array Value) (eg:Enters P g) (hown:Own W F [row d e (.slice A xs.length c) xs])
  (hcl:∀(x y : α)(v:Int)(W':World),Sub F W'→cmp x y=some v→Calls P g (#[.agg (enc x).toArray,.agg (enc y).toArray]++cb) W' fun en w'=>∃ u,en = .returned u∧∃ F',u = .int .i64 v∧St W' (mine W' []) F w' F' []) (H:sortO cmp xs=some r) :
  Calls P (ρ.f 6) #[.slice A xs.length c,.func (.func g) #[] cb] W fun en w'=>∃ v,en = .returned v∧∃ F',v = .tuple #[]∧St W (mine W [row d e (.slice A xs.length c) xs]) F w' F' [row d e (.slice A xs.length c) r]:=by
 have hS:=St.start hown
 unfold sortO at H
 split at H
 ·rename_i hok
  obtain ⟨hok,hmax⟩:=hok
  injection H with H
  obtain ⟨_,hxc,hcm,inner,hr,hf⟩:=qCN hown.head
  rcases Nat.eq_zero_or_pos xs.length with h0 | h0
  ·obtain rfl:xs=[]:=List.eq_nil_of_length_eq_zero h0
   subst H
   refine (AnyF.slices_SortFunc_none L A c _ W).mono ?_
   rintro en w' ⟨rfl,rfl⟩
   exact ⟨_,rfl,_,rfl,hS⟩
  ·obtain ⟨b,cur,rfl,hg,hsz,ht⟩:=hf h0
   have hblk:=(Array.getElem?_eq_some_iff.1 hg).1
   simp only [okSort,Bool.and_eq_true]at hok
   obtain ⟨⟨⟨o1,o2⟩,o3⟩,o4⟩:=hok
   have hsome:∀ x ∈ xs,∀ y ∈ xs,cmp x y=some ((cmp x y).getD 0):=fun x hx y hy=>by
    have:=List.all_eq_true.1 (List.all_eq_true.1 o1 x hx) y hy
    obtain ⟨v,hv⟩:=Option.isSome_iff_exists.1 this
    rw [hv]
    rfl
   have hlt:ltOf (fun x y=>(cmp x y).getD 0)=ltO cmp:=rfl
   have hSW:SWOn (· ∈ xs) (ltOf fun x y=>(cmp x y).getD 0):=by
    rw [hlt]
    refine ⟨fun x hx=>by simpa using List.all_eq_true.1 o2 x hx,fun x y z hx hy hz h1 h2=>?_,fun x y z hx hy hz h1 h2=>?_⟩
    ·have:=List.all_eq_true.1 (List.all_eq_true.1 (List.all_eq_true.1 o3 x hx) y hy) z hz
     simp only [Bool.and_eq_true]at this
     simpa [h1,h2] using this.1
    ·have:=List.all_eq_true.1 (List.all_eq_true.1 (List.all_eq_true.1 o3 x hx) y hy) z hz
     simp only [Bool.and_eq_true]at this
     simpa [h1,h2] using this.2
   have hH:HoldsK enc k W b 0 xs.toArray:=by
    intro t htt
    have ht':t<xs.length * k:=by simpa using htt
    have k0:0<k:=by
     rcases Nat.eq_zero_or_pos k with h | h
     ·subst h; simp at ht'
     ·exact h
    have hj:t / k<xs.length:=(Nat.div_lt_iff_lt_mul k0).2 ht'
    have he:=(henc _ _ _).1 (hr.2 (t / k) xs[t / k] (List.getElem?_eq_getElem hj))
    have hlt:t % k<k:=Nat.mod_lt _ k0
    have hx:inner[t]? = (enc xs[t / k])[t % k]?:=by
     rw [← he,hk,List.getElem?_take_of_lt hlt,List.getElem?_drop,Nat.mul_comm,Nat.div_add_mod]
    have hc:W.cell? ⟨b,0+t,none⟩=inner[t]?:=by
     have hq:inner[t]? = cur.toList[t]?:=by rw [← ht,hk,List.getElem?_take_of_lt ht']
     rw [hq]
     simp [World.cell?,hg]
    refine ⟨?_,by simp [World.frozen?,hg]⟩
    rw [hc,hx,get_flatK _ _ _ _ (by simpa using ht')]
    have:xs.toArray[t / k]! = xs[t / k]:=by
     rw [getElem!_pos xs.toArray (t / k) (by simpa using hj)]
     simp
    rw [this,List.getElem!_eq_getElem?_getD,List.getElem?_eq_getElem (by rw [hlen]; exact hlt)]
    rfl
   have hfree:∀ c e z,F.heap[b]?≠some (.cells c e z):=hown.free _ List.mem_cons_self b (by simp [row,Value.ownBlock])
   have hc:=sortFunc L k aE zE enc hlen h1 (· ∈ xs) (fun x y=>(cmp x y).getD 0) hSW g cb b c xs W eg (fun x hx=>hx)
    (fun x hx y hy h1 h2=>by
     rw [hlt]at h1 h2
     have:=List.all_eq_true.1 (List.all_eq_true.1 o4 x hx) y hy
     simpa [h1,h2] using this)
    (fun m os dk hs x y hx hy=>(hcl x y _ _ (fun b' c' e' z' hb'=>by
     have hne:b'≠b:=fun he=>hfree c' e' z' (he ▸ hb')
     have hW:=hown.sub _ _ _ _ hb'
     rw [qEN (enc:=enc) (k:=k) (off:=0) (dk:=dk) ⟨m,os,rfl⟩ b' (qCV hW) hne]
     exact hW) (hsome x hx y hy)).mono (by
      rintro en w' ⟨u,rfl,F',rfl,hSt⟩
      exact ⟨rfl,hSt.grown⟩)) hH hblk (by omega)
   refine hc.mono ?_
   rintro en w' ⟨rfl,hW⟩
   rw [hlt,H]at hW
   have hrl:r.length=xs.length:=by rw [← H]; exact qCj _ _
   obtain ⟨q1,q2,q3,q4,q5⟩:=qFn hW
   have hHr:HoldsK enc k w' b 0 r.toArray:=hW.holds hblk hH (by simp [hrl])
   obtain ⟨cur',hg',hs'⟩:=qGV hW hblk hg
   refine ⟨_,rfl,F,rfl,hS.turn _ q1 q2 q3 q4 (fun b' hb' hne=>qEN hW b' hb' (fun he=>hne (by simp [row,Value.ownBlock,he]))) (fun b' hb'=>.inl hb') ?_ q5⟩
   have hle:r.length * k≤cur'.size:=by rw [hs',hsz,hk,hrl]; exact Nat.mul_le_mul_right k hxc
   have hil:(cur'.toList.take (r.length * k)).length=r.length * k:=by simp; omega
   refine ⟨cur'.toList.take (r.length * k),⟨by rw [hk]; exact hil,.inr ⟨b,c,cur',by rw [hrl],Nat.zero_le _,hg',by rw [hrl]; exact hxc,hcm,by rw [hs',hsz],by rw [hk]⟩⟩,by rw [hk]; exact hil,fun j p hj=>?_⟩
   have hjl:j<r.length:=(List.getElem?_eq_some_iff.1 hj).1
   have hjk:j * k+k≤r.length * k:=by
    have:=Nat.mul_le_mul_right k (show j+1≤r.length from hjl); rwa [Nat.add_mul,Nat.one_mul]at this
   have hp:r.toArray[j]! = p:=by
    rw [getElem!_pos r.toArray j (by simpa using hjl)]
    have:=(List.getElem?_eq_some_iff.1 hj).2
    simpa using this
   refine (henc _ _ _).2 ?_
   rw [hk]
   apply List.ext_getElem?
   intro i
   by_cases hi:i<k
   ·rw [List.getElem?_take_of_lt hi,List.getElem?_drop,List.getElem?_take_of_lt (by omega)]
    have hc:=(hHr.cell (i:=j) (c:=i) (by simpa using hjl) hi).1
    rw [hp]at hc
    have hcc:w'.cell? ⟨b,0+j * k+i,none⟩=cur'[j * k+i]?:=by simp [World.cell?,hg']
    rw [hcc]at hc
    rw [Array.getElem?_toList,hc,List.getElem!_eq_getElem?_getD,List.getElem?_eq_getElem (by rw [hlen]; exact hi)]
    rfl
   ·rw [List.getElem?_eq_none (by simp; omega),List.getElem?_eq_none (by rw [hlen]; omega)]
 ·cases H
end
end Go.Proofs.YtpabbpebefdafaaGreat.Sl
