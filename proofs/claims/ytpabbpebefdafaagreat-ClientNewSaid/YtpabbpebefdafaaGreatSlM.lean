import Derived.Test.YtpabbpebefdafaaGreatSlL
namespace Go.Proofs.YtpabbpebefdafaaGreat.Sl
open Go Go.RowKit
set_option linter.unusedVariables false
set_option linter.unusedSimpArgs false
section
variable {P:Program} {E:Nat→Value} {o:Oper} {W0 W F0 F:World} {N:Nat→Prop} {L:List Asrt} {α : Type} {d:Kn α} {e:TypeId} {A:Option Addr} {c n g:Nat} {xs ys:List α}
theorem ChainD.bnX{S:World→Prop}{ops:Array Oper}{n:Nat}{w:World}{X:Nat→Prop}{E E2:Nat→Value}{is:List (Nat × Nat)}(i off z:Nat){b:Nat}{cs:Array Value}{e:TypeId}(hb:w.heap[b]? = some (.cells cs e (0,0)))(hx:¬ X b)(hc:ChainD P S (AgrX X w) ops n (upd E (dstAt ops i) (.agg ((cs.toList.drop off).take z).toArray)) is E2)(h:ldnK P ops n E i=some (⟨b,off,none⟩,z):=by kernel_rfl)(hl:Nat.ble (off+z) cs.size=true:=by kernel_rfl):ChainD P S (AgrX X w) ops n E ((i,2) :: is) E2:=by
 have hl':off+z≤cs.size:=Nat.le_of_ble_eq_true hl
 have hz:((cs.toList.drop off).take z).length=z:=by
  simp
  omega
 obtain ⟨h1,h2,t,x,h3,h4,h5,h6⟩:=qEK h
 obtain ⟨g1,g2,g3⟩:=qCm h1
 have hd':=qCq h2
 refine .xr i _ g1 hd' (by rw [hd']at g2; exact g2) g3 (fun w' hw=>?_) hc
 have hb':w'.heap[b]? = some (.cells cs e (0,0)):=(hw.2 b (qCV hb) hx).trans hb
 refine qEx h3 h5 (qDF h4 (by rw [hz]; exact h6) (fun j u hj=>?_))
 rw [qCZ]
 refine qCS hb' ?_
 rw [List.getElem?_take]at hj
 split at hj
 ·rw [List.getElem?_drop,Array.getElem?_toList]at hj
  exact hj
 ·cases hj
theorem St.ne_row{i j b m:Nat}{cs:Array Value}{e':TypeId}(h:St W0 N F0 W F L)(hi:L[i]? = some (Sl.box b cs e'))(hj:L[j]? = some (row d e (.slice (some ⟨g,0,none⟩) m c) xs))(hij:i≠j):b≠g:=by
 intro hb
 subst hb
 have hp:=h.own.apart
 rw [List.pairwise_iff_getElem]at hp
 obtain ⟨hi1,hi2⟩:=List.getElem?_eq_some_iff.1 hi
 obtain ⟨hj1,hj2⟩:=List.getElem?_eq_some_iff.1 hj
 rcases Nat.lt_or_gt_of_ne hij with hlt | hgt
 ·exact hp i j hi1 hj1 hlt b (by rw [hi2]; rfl) (by rw [hj2]; simp [row,Value.ownBlock])
 ·exact hp j i hj1 hi1 hgt b (by rw [hj2]; simp [row,Value.ownBlock]) (by rw [hi2]; rfl)
variable {inner:List Value}
end
end Go.Proofs.YtpabbpebefdafaaGreat.Sl
