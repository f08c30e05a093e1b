import Derived.Test.YthgfhlbjkmjlpaaGreatSlJ
import Derived.Shelf.SortM.Plain
import Derived.Shelf.SortM.SortNone
namespace Go.Proofs.YthgfhlbjkmjlpaaGreat.Sl
open Go Go.RowKit Go.Shelf Go.Lib Go.Sort
set_option linter.unusedVariables false
set_option linter.unusedSimpArgs false
def enc1(x:Int):List Value:=[.int .i64 x]
theorem flat1(d:Array Int)(t:Nat)(h:t<d.size):(flatK enc1 1 d)[t]! = .int .i64 d[t]!:=by
 rw [get_flatK _ _ _ _ (by omega),Nat.div_one,Nat.mod_one]
 rfl
theorem put1(w:World)(b off:Nat)(d:Array Int):putRow (Value.int .i64) w b off d=putRowK enc1 1 w b off d:=by
 unfold putRowK putRow
 congr 1
 funext c
 unfold putCells
 apply congrArg fun f=>Array.mapIdx f c
 funext k x
 rw [size_flatK,Nat.mul_one]
 split
 ·rename_i h
  show _=(flatK enc1 1 d)[k - off]!
  rw [flat1 _ _ (by omega)]
 ·rfl
def ltI(a b:Int):Bool:=decide (a<b)
def sortI(xs:List Int):Option (List Int):=if xs.length<=1000000 then some (sortL ltI xs) else none
theorem swI:SWOn (fun _:Int=>True) ltI:=⟨fun x _=>decide_eq_false (Int.lt_irrefl x),fun x y z _ _ _ h1 h2=>by
 unfold ltI at *
 rw [decide_eq_true_eq]at *
 omega,fun x y z _ _ _ h1 h2=>by
 unfold ltI at *
 rw [decide_eq_false_iff_not]at *
 omega⟩
theorem qGb(l:List Int):l.mergeSort (fun x y=>decide (x<=y))=sortL ltI l:=by
 have h1:=List.pairwise_mergeSort (le:=fun x y:Int=>decide (x<=y)) (fun a b c h1 h2=>by simp only [decide_eq_true_eq]at *; omega) (fun a b=>by simp only [Bool.or_eq_true,decide_eq_true_eq]; omega) l
 refine List.Perm.eq_of_pairwise (le:=fun a b:Int=>a<=b) (fun a b ha hb h1 h2=>Int.le_antisymm h1 h2) (h1.imp fun h=>of_decide_eq_true h) ((qCx swI l fun _ _=>trivial).imp fun h=>?_) ((List.mergeSort_perm l _).trans (qCu _ l).symm)
 have:=of_decide_eq_false h
 omega
section
variable {P:Program} {ρ : Ren} {e:TypeId} {A:Option Addr} {c:Nat} {xs r:List Int} {W F:World}
theorem qGc(L:SlLaysM.n5 P ρ)(hown:Own W F [row (Kn.int .i64) e (.slice A xs.length c) xs])(H:sortI xs=some r):
  Calls P (ρ.f 5) #[.slice A xs.length c] W fun en w'=>∃ v,en = .returned v/\∃ F',v = .tuple #[]/\St W (mine W [row (Kn.int .i64) e (.slice A xs.length c) xs]) F w' F' [row (Kn.int .i64) e (.slice A xs.length c) r]:=by
 have hS:=St.start hown
 have hk:(Kn.int .i64).sz=1:=rfl
 have henc:∀(F:World)(x:Int)(cs:List Value),(Kn.int .i64).K F x cs↔cs=enc1 x:=fun F x cs=>Iff.rfl
 unfold sortI at H
 split at H
 ·rename_i hmax
  injection H with H
  obtain ⟨_,hxc,hcm,inner,hr,hf⟩:=qCg hown.head
  rcases Nat.eq_zero_or_pos xs.length with h0 | h0
  ·obtain rfl:xs=[]:=List.eq_nil_of_length_eq_zero h0
   subst H
   refine (AnyM.slices_Sort_int_none L A c W).mono ?_
   rintro en w' ⟨rfl,rfl⟩
   exact ⟨_,rfl,_,rfl,hS⟩
  ·obtain ⟨b,cur,rfl,hg,hsz,ht⟩:=hf h0
   have hblk:=(Array.getElem?_eq_some_iff.1 hg).1
   have hH:HoldsK enc1 1 W b 0 xs.toArray:=by
    intro t htt
    have ht':t<xs.length:=by simpa using htt
    have he:=(henc _ _ _).1 (hr.2 t xs[t] (List.getElem?_eq_getElem ht'))
    have hx:inner[t]? = some (.int .i64 xs[t]):=by
     have h2:(List.take 1 (List.drop (t * 1) inner))[0]? = some (.int .i64 xs[t]):=by
      rw [← hk,he]
      rfl
     rw [List.getElem?_take_of_lt (by omega),List.getElem?_drop]at h2
     rwa [Nat.mul_one,Nat.add_zero]at h2
    have hc:W.cell? ⟨b,0+t,none⟩=inner[t]?:=by
     have hq:inner[t]? = cur.toList[t]?:=by rw [← ht,hk,Nat.mul_one,List.getElem?_take_of_lt ht']
     rw [hq]
     simp [World.cell?,hg]
    refine ⟨?_,by simp [World.frozen?,hg]⟩
    rw [hc,hx]
    show _=some ((flatK enc1 1 xs.toArray)[t]!)
    rw [flat1 _ _ (by simpa using ht'),getElem!_pos xs.toArray t (by simpa using ht')]
    simp
   have hH1:Holds (Value.int .i64) W b 0 xs.toArray:=by
    intro j hj
    have:=hH j (by simpa using hj)
    refine ⟨?_,this.2⟩
    rw [this.1]
    show some ((flatK enc1 1 xs.toArray)[j]!)=_
    rw [flat1 _ _ hj]
   refine (AnyM.slices_Sort_int L b 0 c xs W hH1 hblk (by omega)).mono ?_
   rintro en w' ⟨rfl,n,os,hw⟩
   rw [qGb,H,put1]at hw
   have hW:SWK enc1 1 W b 0 r.toArray w':=⟨n,os,hw⟩
   have hrl:r.length=xs.length:=by rw [← H]; exact qCz _ _
   obtain ⟨q1,q2,q3,q4,q5⟩:=qFv hW
   have hHr:HoldsK enc1 1 w' b 0 r.toArray:=hW.holds hblk hH (by simp [hrl])
   obtain ⟨cur',hg',hs'⟩:=qHE hW hblk hg
   refine ⟨_,rfl,F,rfl,hS.turn _ q1 q2 q3 q4 (fun b' hb' hne=>qEa hW b' hb' fun he=>hne (by simp [row,Value.ownBlock,he])) (fun b' hb'=>.inl hb') ?_ q5⟩
   have hle:r.length<=cur'.size:=by rw [hs',hsz,hk,hrl,Nat.mul_one]; exact hxc
   have hil:(cur'.toList.take r.length).length=r.length:=by simp; omega
   refine ⟨cur'.toList.take r.length,⟨by rw [hk,Nat.mul_one]; exact hil,.inr ⟨b,c,cur',by rw [hrl],Nat.zero_le _,hg',by rw [hrl]; exact hxc,hcm,by rw [hs',hsz],by rw [hk,Nat.mul_one]⟩⟩,by rw [hk,Nat.mul_one]; exact hil,fun j p hj=>?_⟩
   have hjl:j<r.length:=(List.getElem?_eq_some_iff.1 hj).1
   have hp:r.toArray[j]! = p:=by
    rw [getElem!_pos r.toArray j (by simpa using hjl)]
    have:=(List.getElem?_eq_some_iff.1 hj).2
    simpa using this
   refine (henc _ _ _).2 ?_
   rw [hk,Nat.mul_one]
   have hc:=(hHr j (by simpa using hjl)).1
   have hcc:w'.cell? ⟨b,0+j,none⟩=cur'[j]?:=by simp [World.cell?,hg']
   rw [hcc]at hc
   apply List.ext_getElem?
   intro i
   cases i with
   | zero =>
    rw [List.getElem?_take_of_lt (by omega),List.getElem?_drop,List.getElem?_take_of_lt (by omega),Nat.add_zero,Array.getElem?_toList,hc]
    show some ((flatK enc1 1 r.toArray)[j]!)=some (Value.int .i64 p)
    rw [flat1 _ _ (by simpa using hjl),hp]
   | succ i =>
    rw [List.getElem?_eq_none (by simp; omega),List.getElem?_eq_none (by unfold enc1; simp)]
 ·cases H
end
end Go.Proofs.YthgfhlbjkmjlpaaGreat.Sl
