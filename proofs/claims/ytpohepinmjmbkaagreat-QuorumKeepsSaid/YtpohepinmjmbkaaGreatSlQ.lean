import Derived.Test.YtpohepinmjmbkaaGreatSlP
import Derived.Shelf.SlicesG.CompactI
namespace Go.Proofs.YtpohepinmjmbkaaGreat.Sl
open Go Go.RowKit Go.Shelf Go.Lib Go.Sort
set_option linter.unusedVariables false
set_option linter.unusedSimpArgs false
def compactI(xs:List Int):Option (List Int):=if xs.length≤1000000 then some (Lib.compact xs) else none
theorem qDU(xs:List Int):(Lib.compact xs).length≤xs.length:=by
 unfold Lib.compact Lib.compactUpTo
 rw [List.length_map]
 refine Nat.le_trans (List.length_filter_le _ _) ?_
 rw [List.length_range]
 exact Nat.le_refl _
section
variable {P:Program} {ρ : Ren} {e:TypeId} {A:Option Addr} {c:Nat} {xs r:List Int} {W F:World}
theorem qDb(L:SlLaysN.n43 P ρ)(hown:Own W F [row (Kn.int .i64) e (.slice A xs.length c) xs])(H:compactI xs=some r):
  Calls P (ρ.f 43) #[.slice A xs.length c] W fun en w'=>∃ v,en = .returned v∧∃(F':World)(RA:Option Addr)(rc:Nat),v = .slice RA r.length rc∧St W (mine W [row (Kn.int .i64) e (.slice A xs.length c) xs]) F w' F' [row (Kn.int .i64) e (.slice RA r.length rc) r]:=by
 have hS:=St.start hown
 have hk:(Kn.int .i64).sz=1:=rfl
 have henc:∀(F:World)(x:Int)(cs:List Value),(Kn.int .i64).K F x cs↔cs=enc1 x:=fun F x cs=>Iff.rfl
 unfold compactI at H
 split at H
 ·rename_i hmax
  injection H with H
  obtain ⟨_,hxc,hcm,inner,hr,hf⟩:=qCE hown.head
  rcases Nat.eq_zero_or_pos xs.length with h0 | h0
  ·obtain rfl:xs=[]:=List.eq_nil_of_length_eq_zero h0
   subst H
   refine (AnyG.slices_Compact_int_empty L A c W).mono ?_
   rintro en w' ⟨rfl,rfl⟩
   exact ⟨_,rfl,F,A,c,rfl,hS⟩
  ·obtain ⟨b,cur,rfl,hg,hsz,ht⟩:=hf h0
   have hblk:=(Array.getElem?_eq_some_iff.1 hg).1
   have hH:HoldsK enc1 1 W b 0 xs.toArray:=by
    intro t htt
    have ht':t<xs.length:=by simpa using htt
    have he:=(henc _ _ _).1 (hr.2 t xs[t] (List.getElem?_eq_getElem ht'))
    have hx:inner[t]? = some (.int .i64 xs[t]):=by
     have h2:(List.take 1 (List.drop (t * 1) inner))[0]? = some (.int .i64 xs[t]):=by
      rw [← hk,he]
      rfl
     rw [List.getElem?_take_of_lt (by omega),List.getElem?_drop]at h2
     rwa [Nat.mul_one,Nat.add_zero]at h2
    have hc:W.cell? ⟨b,0+t,none⟩=inner[t]?:=by
     have hq:inner[t]? = cur.toList[t]?:=by rw [← ht,hk,Nat.mul_one,List.getElem?_take_of_lt ht']
     rw [hq]
     simp [World.cell?,hg]
    refine ⟨?_,by simp [World.frozen?,hg]⟩
    rw [hc,hx]
    show _=some ((flatK enc1 1 xs.toArray)[t]!)
    rw [flat1 _ _ (by simpa using ht'),getElem!_pos xs.toArray t (by simpa using ht')]
    simp
   have hH1:Holds (Value.int .i64) W b 0 xs.toArray:=by
    intro j hj
    have:=hH j (by simpa using hj)
    refine ⟨?_,this.2⟩
    rw [this.1]
    show some ((flatK enc1 1 xs.toArray)[j]!)=_
    rw [flat1 _ _ hj]
   refine (AnyG.slices_Compact_int L b 0 c xs W hH1 (by omega) hxc).mono ?_
   rintro en w' ⟨rfl,n,hw⟩
   rw [H,put1]at hw
   have hrl:r.length≤xs.length:=by rw [← H]; exact qDU _
   have hdl:(r++List.replicate (xs.length - r.length) 0).length=xs.length:=by rw [List.length_append,List.length_replicate]; omega
   have hW:SWK enc1 1 W b 0 (r++List.replicate (xs.length - r.length) 0).toArray w':=⟨n,#[],by rw [hw]; unfold sortWorldK grow; simp⟩
   obtain ⟨q1,q2,q3,q4,q5⟩:=qDT hW
   have hHr:HoldsK enc1 1 w' b 0 (r++List.replicate (xs.length - r.length) 0).toArray:=hW.holds hblk hH (by simp; omega)
   obtain ⟨cur',hg',hs'⟩:=qDt hW hblk hg
   refine ⟨_,rfl,F,some ⟨b,0,none⟩,c,by rw [H],hS.turn _ q1 q2 q3 q4 (fun b' hb' hne=>qCq hW b' hb' (fun he=>hne (by simp [row,Value.ownBlock,he]))) (fun b' hb'=>.inl hb') ?_ q5⟩
   have hle:r.length≤cur'.size:=by rw [hs',hsz,hk,Nat.mul_one]; omega
   have hil:(cur'.toList.take r.length).length=r.length:=by simp; omega
   refine ⟨cur'.toList.take r.length,⟨by rw [hk,Nat.mul_one]; exact hil,.inr ⟨b,c,cur',rfl,Nat.zero_le _,hg',by omega,hcm,by rw [hs',hsz],by rw [hk,Nat.mul_one]⟩⟩,by rw [hk,Nat.mul_one]; exact hil,fun j p hj=>?_⟩
   have hjl:j<r.length:=(List.getElem?_eq_some_iff.1 hj).1
   have hp:(r++List.replicate (xs.length - r.length) 0).toArray[j]! = p:=by
    rw [getElem!_pos _ j (by simp; omega)]
    have:=(List.getElem?_eq_some_iff.1 hj).2
    simp [hjl,this]
   refine (henc _ _ _).2 ?_
   rw [hk,Nat.mul_one]
   have hc:=(hHr j (by simp; omega)).1
   have hcc:w'.cell? ⟨b,0+j,none⟩=cur'[j]?:=by simp [World.cell?,hg']
   rw [hcc]at hc
   apply List.ext_getElem?
   intro i
   cases i with
   | zero =>
    rw [List.getElem?_take_of_lt (by omega),List.getElem?_drop,List.getElem?_take_of_lt (by omega),Nat.add_zero,Array.getElem?_toList,hc]
    show some ((flatK enc1 1 (r++List.replicate (xs.length - r.length) 0).toArray)[j]!)=some (Value.int .i64 p)
    rw [flat1 _ _ (by simp; omega),hp]
   | succ i =>
    rw [List.getElem?_eq_none (by simp; omega),List.getElem?_eq_none (by unfold enc1; simp)]
 ·cases H
end
end Go.Proofs.YtpohepinmjmbkaaGreat.Sl
