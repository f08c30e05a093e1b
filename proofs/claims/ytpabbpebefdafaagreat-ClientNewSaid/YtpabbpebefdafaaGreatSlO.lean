import Derived.Test.YtpabbpebefdafaaGreatSlG
import Derived.Deep.Slices
import Derived.ChangeArms
import Derived.OpenShut
import Derived.WideShapes
namespace Go.Proofs.YtpabbpebefdafaaGreat.Sl
open Go Go.RowKit Go.WideShapes
set_option linter.unusedVariables false
def Opens{α : Type}(P:Program)(w:World)(d:Kn α)(t:TypeId)(wf : α→Prop):Prop :=
 ∀(H:Type)(enc:TypeId × Value→H)(sp:Nat→Bool)(held:Bool)(fuel:Nat)(cs:List Value)(x:DataW H × List MemPlace),DataW.trod enc P w 0 sp held fuel t cs=some x→∃ a,d.K w a cs∧wf a
section
variable {P:Program} {w:World} {t:TypeId}
theorem opens_int{k:IntKind}(ht:P.underlying t=some (.int k)):Opens P w (Kn.int k) t (fun n=>(Lit.int k n).wf=true):=by
 intro H enc sp held fuel cs x h
 obtain ⟨n,rfl,_,hw⟩:=DataW.trod_int ht h
 exact ⟨n,rfl,hw⟩
theorem qDm(ht:P.underlying t=some .bool):Opens P w Kn.bool t (fun _=>True):=by
 intro H enc sp held fuel cs x h
 obtain ⟨b,rfl,_⟩:=DataW.trod_bool ht h
 exact ⟨b,rfl,trivial⟩
theorem qGX{a:Addr}{n:Nat}{cs:List Value}(h:w.cells? 0 a n=some cs):cs.length=n∧∀(j:Nat)(u:Value),cs[j]? = some u→w.cell? (a.add j)=some u:=by
 unfold World.cells? at h
 rw [if_pos (Nat.zero_le _)]at h
 have hl:cs.length=n:=by simpa using mapM_some_length h
 refine ⟨hl,fun j u hj=>?_⟩
 have hjn:j<n:=by
  have:=(List.getElem?_eq_some_iff.1 hj).1
  omega
 have:=mapM_some_get h j j (by simp [hjn])
 rw [this,hj]
theorem qHH{α : Type}(n:Nat)(p:Nat→α→Prop)(h:∀ i,i<n→∃ x,p i x):∃ l:List α,l.length=n∧∀ i x,l[i]? = some x→p i x:=by
 induction n with
 | zero=>exact ⟨[],rfl,fun i x hx=>by simp at hx⟩
 | succ n ih =>
  obtain ⟨l,hl,hp⟩:=ih (fun i hi=>h i (by omega))
  obtain ⟨y,hy⟩:=h n (by omega)
  refine ⟨l++[y],by simp [hl],fun i x hx=>?_⟩
  rcases Nat.lt_or_ge i n with hi | hi
  ·rw [List.getElem?_append_left (by omega)]at hx
   exact hp i x hx
  ·have hin:i=n:=by
    have:=(List.getElem?_eq_some_iff.1 hx).1
    simp [hl]at this
    omega
   subst hin
   have:y=x:=by simpa [← hl] using hx
   rwa [← this]
theorem opens_slice{α : Type}{d:Kn α}{e:TypeId}{wf : α→Prop}(ht:P.underlying t=some (.slice e))(he:Opens P w d e wf)(hs:P.cellsOf e=d.sz):Opens P w (Kn.slice d) t (fun l=>l.length≤maxLen∧∀ x ∈ l,wf x):=by
 intro H enc sp held fuel cs x h
 rcases Go.Deep.open_slice ht h with ⟨rfl,_⟩ | ⟨a,len,cap,m,n,D,Pl,rfl,_,hl,hm,hmm,_,hall⟩
 ·exact ⟨[],⟨none,0,rfl,Rd.nil _ _⟩,Nat.zero_le _,fun x hx=>absurd hx List.not_mem_nil⟩
 ·have hlm:len≤m:=by rw [hmm]; split <;> omega
  have hex:∀ i,i<len→∃ y : α,(∃ cs',w.cells? 0 (a.add (i * d.sz)) d.sz=some cs'∧d.K w y cs')∧wf y:=by
   intro i hi
   obtain ⟨cs',h1,h2⟩:=hall i (by omega)
   obtain ⟨y,hK,hw⟩:=he H enc sp held n cs' _ h2
   rw [hs]at h1
   exact ⟨y,⟨cs',h1,hK⟩,hw⟩
  obtain ⟨l,hll,hlp⟩:=qHH len _ hex
  refine ⟨l,⟨some a,cap,by rw [hll],by omega,by unfold maxLen at *; omega,fun _=>⟨a,rfl,fun j p hj=>?_⟩⟩,by unfold maxLen at *; omega,fun y hy=>?_⟩
  ·obtain ⟨⟨cs',h1,hK⟩,_⟩:=hlp j p hj
   obtain ⟨h2,h3⟩:=qGX h1
   refine ⟨cs',hK,fun i u hi=>?_⟩
   rw [← qDP]
   exact h3 i u hi
  ·obtain ⟨j,hj,rfl⟩:=List.getElem_of_mem hy
   exact (hlp j _ (List.getElem?_eq_getElem hj)).2
theorem seg {α : Type} {H:Type} {enc:TypeId × Value→H} {sp:Nat→Bool} {held:Bool} {n ft off s i:Nat} {cs:List Value} {xs:List (DataW H × List MemPlace)} {d:Kn α} {wf : α→Prop} {f:Field}
  (hf:DataW.trod enc P w 0 sp held n f.type ((cs.drop f.offset).take (P.cellsOf f.type))=xs[i]?) (hi:i<xs.length) (ht:f.type=ft) (ho:f.offset=off) (hs:P.cellsOf ft=s) (hd:Opens P w d ft wf):∃ a,d.K w a ((cs.drop off).take s)∧wf a:=by
 rw [ht,ho,hs,List.getElem?_eq_getElem hi]at hf
 exact hd H enc sp held n _ _ hf
theorem sega {α : Type} {H:Type} {enc:TypeId × Value→H} {sp:Nat→Bool} {held:Bool} {n e off s i:Nat} {cs:List Value} {xs:List (DataW H × List MemPlace)} {d:Kn α} {wf : α→Prop}
  (hf:DataW.trod enc P w 0 sp held n e ((cs.drop (i * P.cellsOf e)).take (P.cellsOf e))=xs[i]?) (hi:i<xs.length) (hs:P.cellsOf e=s) (ho:i * s=off) (hd:Opens P w d e wf):∃ a,d.K w a ((cs.drop off).take s)∧wf a:=by
 rw [hs,ho,List.getElem?_eq_getElem hi]at hf
 exact hd H enc sp held n _ _ hf
theorem qCk{cs:List Value}{off s:Nat}(hl:cs.length=off+s):cs.drop off=(cs.drop off).take s:=by
 rw [List.take_of_length_le (by rw [List.length_drop]; omega)]
theorem qCR{cs r:List Value}{off s:Nat}(h:cs.drop (off+s)=r):cs.drop off=(cs.drop off).take s++r:=by
 rw [← h,← List.drop_drop,List.take_append_drop]
theorem open_row{α : Type}{H:Type}{enc:TypeId × Value→H}{sp:Nat→Bool}{held:Bool}{d:Kn α}{wf:List α→Prop}{A:Option Addr}{n c:Nat}{x:DataW H}{ps:List MemPlace}(hd:Opens P w (Kn.slice d) t wf)(h:DataW.Trod enc P w 0 sp held t (.slice A n c) x ps):
  ∃ l:List α,l.length=n∧Rd d w A c l∧wf l:=by
 obtain ⟨fuel,hf⟩:=h
 obtain ⟨l,⟨A',c',he,hC⟩,hw⟩:=hd H enc sp held fuel _ _ hf
 simp [Value.cells]at he
 obtain ⟨rfl,rfl,rfl⟩:=he
 exact ⟨l,rfl,hC,hw⟩
theorem open_struct{α : Type}{H:Type}{enc:TypeId × Value→H}{sp:Nat→Bool}{held:Bool}{d:Kn α}{wf : α→Prop}{cs:Array Value}{x:DataW H}{ps:List MemPlace}(hd:Opens P w d t wf)(h:DataW.Trod enc P w 0 sp held t (.agg cs) x ps):
  ∃ y : α,d.K w y cs.toList∧wf y:=by
 obtain ⟨fuel,hf⟩:=h
 exact hd H enc sp held fuel _ _ hf
theorem okWide_array{r:Reach}{base t n e:Nat}{v:Value}(ht:P.underlying t=some (.array n e))(h:Value.okWide P w r base t v):∃ cs,v = .agg cs∧cs.size=P.cellsOf t:=by
 simp only [Value.okWide,ht]at h
 obtain ⟨cs,h1,h2,_⟩:=h
 exact ⟨cs,h1,h2⟩
end
end Go.Proofs.YtpabbpebefdafaaGreat.Sl
