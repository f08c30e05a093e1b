import Derived.Test.YtpabbpebefdafaaSlG
import Derived.Deep.Slices
import Derived.ChangeArms
import Derived.OpenShut
import Derived.WideShapes
namespace Go.Proofs.Ytpabbpebefdafaa.Sl
open Go Go.RowKit Go.WideShapes
set_option linter.unusedVariables false
def Opens{α : Type}(P:Program)(w:World)(d:Kn α)(t:TypeId)(wf : α→Prop):Prop :=
 ∀(H:Type)(enc:TypeId × Value→H)(sp:Nat→Bool)(held:Bool)(fuel:Nat)(cs:List Value)(x:DataW H × List MemPlace),DataW.trod enc P w 0 sp held fuel t cs=some x→∃ a,d.K w a cs∧wf a
section
variable {P:Program} {w:World} {t:TypeId}
theorem qAE{k:IntKind}(ht:P.underlying t=some (.int k)):Opens P w (Kn.int k) t (fun n=>(Lit.int k n).wf=true):=by
 intro H enc sp held fuel cs x h
 obtain ⟨n,rfl,_,hw⟩:=DataW.trod_int ht h
 exact ⟨n,rfl,hw⟩
theorem sega {α : Type} {H:Type} {enc:TypeId × Value→H} {sp:Nat→Bool} {held:Bool} {n e off s i:Nat} {cs:List Value} {xs:List (DataW H × List MemPlace)} {d:Kn α} {wf : α→Prop}
  (hf:DataW.trod enc P w 0 sp held n e ((cs.drop (i * P.cellsOf e)).take (P.cellsOf e))=xs[i]?) (hi:i<xs.length) (hs:P.cellsOf e=s) (ho:i * s=off) (hd:Opens P w d e wf):∃ a,d.K w a ((cs.drop off).take s)∧wf a:=by
 rw [hs,ho,List.getElem?_eq_getElem hi]at hf
 exact hd H enc sp held n _ _ hf
theorem qAo{cs:List Value}{off s:Nat}(hl:cs.length=off+s):cs.drop off=(cs.drop off).take s:=by
 rw [List.take_of_length_le (by rw [List.length_drop]; omega)]
theorem qAp{cs r:List Value}{off s:Nat}(h:cs.drop (off+s)=r):cs.drop off=(cs.drop off).take s++r:=by
 rw [← h,← List.drop_drop,List.take_append_drop]
theorem open_struct{α : Type}{H:Type}{enc:TypeId × Value→H}{sp:Nat→Bool}{held:Bool}{d:Kn α}{wf : α→Prop}{cs:Array Value}{x:DataW H}{ps:List MemPlace}(hd:Opens P w d t wf)(h:DataW.Trod enc P w 0 sp held t (.agg cs) x ps):
  ∃ y : α,d.K w y cs.toList∧wf y:=by
 obtain ⟨fuel,hf⟩:=h
 exact hd H enc sp held fuel _ _ hf
theorem okWide_array{r:Reach}{base t n e:Nat}{v:Value}(ht:P.underlying t=some (.array n e))(h:Value.okWide P w r base t v):∃ cs,v = .agg cs∧cs.size=P.cellsOf t:=by
 simp only [Value.okWide,ht]at h
 obtain ⟨cs,h1,h2,_⟩:=h
 exact ⟨cs,h1,h2⟩
end
end Go.Proofs.Ytpabbpebefdafaa.Sl
