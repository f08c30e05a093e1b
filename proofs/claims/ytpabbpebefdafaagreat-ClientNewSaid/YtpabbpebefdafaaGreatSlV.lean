import Derived.Test.YtpabbpebefdafaaGreatSlS
import Derived.Shelf.Strings.Search2
import Derived.Shelf.Strings.Search3
import Derived.Shelf.Small.Strs
namespace Go.Proofs.YtpabbpebefdafaaGreat.Sl
open Go Go.RowKit Go.Shelf Go.Lib Go.Proofs
set_option linter.unusedVariables false
def indexO(s sep:ByteArray):Option Int:=if sep.size=1 then some (Lib.indexByte s.data.toList (sep.data.toList.getD 0 0)) else none
def compareO(a b:ByteArray):Option Int:=some (Lib.compareBytes a.data.toList b.data.toList)
theorem qGW{sep:ByteArray}(h:sep.size=1):sep=⟨#[sep.data.toList.getD 0 0]⟩:=by
 obtain ⟨⟨l⟩⟩:=sep
 match l,h with
 | [x],_=>rfl
section
variable {P:Program} {ρ : Ren} {W F:World} {s sep:ByteArray} {r:Int}
theorem qEQ(L:Lays.n219 P ρ)(hown:Sub F W)(H:indexO s sep=some r):Calls P (ρ.f 219) #[.string s,.string sep] W fun e w'=>∃ v,e = .returned v∧∃ F',v=iv r∧Sm W F w' F' []:=by
 unfold indexO at H
 split at H
 ·rename_i c
  obtain rfl:=Option.some.inj H
  have h:=Any.stringslite_Index_one L s (sep.data.toList.getD 0 0) W
  rw [← qGW c]at h
  refine h.mono ?_
  rintro e w' ⟨rfl,rfl⟩
  exact ⟨_,rfl,F,rfl,sT hown⟩
 ·cases H
theorem qDz(L:Lays.n106 P ρ)(hown:Sub F W)(H:compareO s sep=some r):Calls P (ρ.f 106) #[.string s,.string sep] W fun e w'=>∃ v,e = .returned v∧∃ F',v=iv r∧Sm W F w' F' []:=by
 obtain rfl:=Option.some.inj H
 refine (Any.strings_Compare L s sep W).mono ?_
 rintro e w' ⟨rfl,rfl⟩
 exact ⟨_,rfl,F,rfl,sT hown⟩
end
end Go.Proofs.YtpabbpebefdafaaGreat.Sl
