import Derived.Test.YtpabbpebefdafaaGreatSlE
import Derived.Lib.AppendZerosOnto
namespace Go.Proofs.YtpabbpebefdafaaGreat.Sl
open Go Go.RowKit
set_option linter.unusedVariables false
set_option linter.unusedSimpArgs false
section
variable {α : Type} {d:Kn α} {F:World}
theorem qFg(z:Array Value)(k j:Nat)(h:j<k * z.size):(Builtin.zeroCells z k).toList[j]? = z.toList[j % z.size]?:=by
 have hp:0<z.size:=by
  rcases Nat.eq_zero_or_pos z.size with h0 | h0
  ·rw [h0]at h; simp at h
  ·exact h0
 have hm:=Nat.mod_lt j hp
 have hj:j<(Builtin.zeroCells z k).size:=by rw [size_zeroCells]; exact h
 rw [Array.getElem?_toList,Array.getElem?_eq_getElem hj,Array.getElem?_toList,Array.getElem?_eq_getElem hm]
 simp only [Builtin.zeroCells,Array.getElem_map,Array.getElem_range]
 rw [getElem!_pos z (j % z.size) hm]
theorem qDi{z:Array Value}(zd : α)(hK:d.K F zd z.toList)(k:Nat):RepsK d F (List.replicate k zd) (Builtin.zeroCells z k).toList:=by
 have hsz:z.size=d.sz:=by have:=d.len hK; simpa using this
 have hlen:(Builtin.zeroCells z k).toList.length=k * d.sz:=by
  rw [Array.length_toList,size_zeroCells,hsz]
 refine ⟨by rw [hlen,List.length_replicate],fun j p hj=>?_⟩
 have hjk:j<k:=by
  have:=(List.getElem?_eq_some_iff.1 hj).1
  simpa using this
 rw [List.getElem?_replicate,if_pos hjk]at hj
 injection hj with hj
 subst hj
 have hle:j * d.sz+d.sz≤k * d.sz:=by
  rw [← Nat.succ_mul]
  exact Nat.mul_le_mul_right _ hjk
 have e:((Builtin.zeroCells z k).toList.drop (j * d.sz)).take d.sz=z.toList:=by
  apply List.ext_getElem?
  intro i
  rw [List.getElem?_take]
  split
  ·rename_i hi
   rw [List.getElem?_drop,qFg z k _ (by rw [hsz]; omega),hsz,Nat.add_comm,Nat.add_mul_mod_self_right,Nat.mod_eq_of_lt hi]
  ·rw [List.getElem?_eq_none]
   simp only [Array.length_toList,hsz]
   omega
 rw [e]
 exact hK
variable {W0 W F0 w':World} {N:Nat→Prop} {L:List Asrt} {P:Program} {E:Nat→Value} {o:Oper} {e:TypeId} {A:Option Addr} {c n:Nat} {xs:List α}
end
end Go.Proofs.YtpabbpebefdafaaGreat.Sl
