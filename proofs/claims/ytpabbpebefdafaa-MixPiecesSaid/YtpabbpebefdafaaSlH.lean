import Derived.Test.YtpabbpebefdafaaSlG
import Derived.Laws.StructEq
namespace Go.Proofs.Ytpabbpebefdafaa.Sl
open Go Go.RowKit
set_option linter.unusedVariables false
set_option linter.unusedSimpArgs false
section
variable {P:Program} {E:Nat→Value} {o:Oper}
theorem x_shl{t u:TypeId}{x y:Operand}{k k':IntKind}{a b:Int}(n:Nat)(ho:o.op = .binOp .shl t x y u)(hx:ev E x = .int k a)(hy:ev E y = .int k' b)(hn:k.bits=n)(h:0≤b):YA P E o (.int k (k.wrap (a * 2 ^ (min b.toNat n)))):=fun w=>by
 subst hn
 unfold execOp
 have h':¬ b<0:=by omega
 simp [ho,hx,hy,eqGuard,binOp,Op.shift,h']
section
variable {d:Nat} {xs ys:Array Value} {f:Field} {fs:List Field} {a b:Value} {r s:Bool} {w:World}
end
def byteAt(s:ByteArray)(i:Int):Int:=((s.data.toList.getD i.toNat 0).toNat:Int)
theorem qBY{t:TypeId}{x y:Operand}{s:ByteArray}{k:IntKind}{i:Int}(ho:o.op = .index t x y)(hx:ev E x = .string s)(hy:ev E y = .int k i)(ht:P.underlying t=some .string)(h0:0≤i)(h1:i<(s.size:Int)):YA P E o (.int .u8 (byteAt s i)):=fun w=>by
 have hl:i.toNat<s.size:=by omega
 have e:s[i.toNat]? = some (s.data.toList.getD i.toNat 0):=by
  have hl':i.toNat<s.data.toList.length:=by simpa using hl
  rw [getElem?_pos s i.toNat hl,List.getD_eq_getElem?_getD,List.getElem?_eq_getElem hl']
  simp [ByteArray.getElem_eq_getElem_data]
 unfold execOp
 simp [ho,hx,hy,Instr.index,asIntOf,run_underlying ht,h0,e,byteAt]
end
end Go.Proofs.Ytpabbpebefdafaa.Sl
