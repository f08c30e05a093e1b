import Derived.Test.YtpabbpebefdafaaGreatSlG
import Derived.Laws.StructEq
namespace Go.Proofs.YtpabbpebefdafaaGreat.Sl
open Go Go.RowKit
set_option linter.unusedVariables false
set_option linter.unusedSimpArgs false
section
variable {P:Program} {E:Nat→Value} {o:Oper}
theorem x_shl{t u:TypeId}{x y:Operand}{k k':IntKind}{a b:Int}(n:Nat)(ho:o.op = .binOp .shl t x y u)(hx:ev E x = .int k a)(hy:ev E y = .int k' b)(hn:k.bits=n)(h:0≤b):YA P E o (.int k (k.wrap (a * 2 ^ (min b.toNat n)))):=fun w=>by
 subst hn
 unfold execOp
 have h':¬ b<0:=by omega
 simp [ho,hx,hy,eqGuard,binOp,Op.shift,h']
section
variable {d:Nat} {xs ys:Array Value} {f:Field} {fs:List Field} {a b:Value} {r s:Bool} {w:World}
theorem qCT (hn : (f.name == "_") = false) (ha : still P (part f.type xs f.offset) = some a) (hb : still P (part f.type ys f.offset) = some b) (he : (Op.equalIn d f.type a b).run P w = .ok r w) (hr : (Op.eqFields d xs ys fs).run P w = .ok s w) : (Op.eqFields d xs ys (f :: fs)).run P w = .ok (r && s) w := by
 have hn' : f.name ≠ "_" := by simpa using hn
 rw [Op.eqFields]
 simp only [if_pos hn',Sem.run_bind,qCp ha,qCp hb,he,Result.andThen_ok]
 cases r
 ·simp
 ·simpa using hr
theorem qDw:(Op.eqFields d xs ys []).run P w = .ok true w:=by simp [Op.eqFields]
theorem qEy{t:TypeId}{fs:Array Field}(hu:P.underlying t=some (.struct fs))(hp:P.stoodInHeld t=false)(h:(Op.eqFields d xs ys fs.toList).run P w = .ok r w):(Op.equalIn (d+1) t (.agg xs) (.agg ys)).run P w = .ok r w:=by
 have hf:P.fieldsOf t=fs:=by simp [Program.fieldsOf,hu]
 rw [run_equalIn_struct (P:=P) w d t xs ys (by rw [hf]; exact hu) hp,hf]
 exact h
theorem qCo{t:TypeId}{k:IntKind}{x y:Int}(hu:P.underlying t=some (.int k)):(Op.equalIn (d+1) t (.int k x) (.int k y)).run P w = .ok (x == y) w:=by
 rw [Op.equalIn]
 simp [run_underlying hu]
theorem qEe{t:TypeId}{x y:Bool}(hu:P.underlying t=some .bool):(Op.equalIn (d+1) t (.bool x) (.bool y)).run P w = .ok (x == y) w:=by
 rw [Op.equalIn]
 simp [run_underlying hu]
theorem qHV{t:TypeId}{x y:ByteArray}(hu:P.underlying t=some .string):(Op.equalIn (d+1) t (.string x) (.string y)).run P w = .ok (x == y) w:=by
 rw [Op.equalIn]
 simp [run_underlying hu]
end
theorem x_eqs{t u:TypeId}{x y:Operand}{xs ys:Array Value}{r:Bool}(ho:o.op = .binOp .eql t x y u)(hx:ev E x = .agg xs)(hy:ev E y = .agg ys)(hg:P.eqGuardType P.depth t=false)(h:∀ w,(Op.equal t (.agg xs) (.agg ys)).run P w = .ok r w):YA P E o (.bool r):=fun w=>by
 unfold execOp
 simp [ho,hx,hy,eqGuard,hg,binOp,h]
theorem x_nes{t u:TypeId}{x y:Operand}{xs ys:Array Value}{r:Bool}(ho:o.op = .binOp .neq t x y u)(hx:ev E x = .agg xs)(hy:ev E y = .agg ys)(hg:P.eqGuardType P.depth t=false)(h:∀ w,(Op.equal t (.agg xs) (.agg ys)).run P w = .ok r w):YA P E o (.bool (!r)):=fun w=>by
 unfold execOp
 simp [ho,hx,hy,eqGuard,hg,binOp,h]
def byteAt(s:ByteArray)(i:Int):Int:=((s.data.toList.getD i.toNat 0).toNat:Int)
theorem qHW{t:TypeId}{x y:Operand}{s:ByteArray}{k:IntKind}{i:Int}(ho:o.op = .index t x y)(hx:ev E x = .string s)(hy:ev E y = .int k i)(ht:P.underlying t=some .string)(h0:0≤i)(h1:i<(s.size:Int)):YA P E o (.int .u8 (byteAt s i)):=fun w=>by
 have hl:i.toNat<s.size:=by omega
 have e:s[i.toNat]? = some (s.data.toList.getD i.toNat 0):=by
  have hl':i.toNat<s.data.toList.length:=by simpa using hl
  rw [getElem?_pos s i.toNat hl,List.getD_eq_getElem?_getD,List.getElem?_eq_getElem hl']
  simp [ByteArray.getElem_eq_getElem_data]
 unfold execOp
 simp [ho,hx,hy,Instr.index,asIntOf,run_underlying ht,h0,e,byteAt]
end
end Go.Proofs.YtpabbpebefdafaaGreat.Sl
