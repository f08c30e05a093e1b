import Derived.Test.YthgfhlbjkmjlpaaGreatSlG
import Derived.Laws.StructEq
namespace Go.Proofs.YthgfhlbjkmjlpaaGreat.Sl
open Go Go.RowKit
set_option linter.unusedVariables false
set_option linter.unusedSimpArgs false
section
variable {P:Program} {E:Nat->Value} {o:Oper}
section
variable {d:Nat} {xs ys:Array Value} {f:Field} {fs:List Field} {a b:Value} {r s:Bool} {w:World}
theorem qDB (hn : (f.name == "_") = false) (ha : still P (part f.type xs f.offset) = some a) (hb : still P (part f.type ys f.offset) = some b) (he : (Op.equalIn d f.type a b).run P w = .ok r w) (hr : (Op.eqFields d xs ys fs).run P w = .ok s w) : (Op.eqFields d xs ys (f :: fs)).run P w = .ok (r && s) w := by
 have hn' : f.name ≠ "_" := by simpa using hn
 rw [Op.eqFields]
 simp only [if_pos hn',Sem.run_bind,qDW ha,qDW hb,he,Result.andThen_ok]
 cases r
 ·simp
 ·simpa using hr
theorem qHy:(Op.eqFields d xs ys []).run P w = .ok true w:=by simp [Op.eqFields]
theorem qJh{t:TypeId}{fs:Array Field}(hu:P.underlying t=some (.struct fs))(hp:P.stoodInHeld t=false)(h:(Op.eqFields d xs ys fs.toList).run P w = .ok r w):(Op.equalIn (d+1) t (.agg xs) (.agg ys)).run P w = .ok r w:=by
 have hf:P.fieldsOf t=fs:=by simp [Program.fieldsOf,hu]
 rw [run_equalIn_struct (P:=P) w d t xs ys (by rw [hf]; exact hu) hp,hf]
 exact h
theorem qDp{t:TypeId}{k:IntKind}{x y:Int}(hu:P.underlying t=some (.int k)):(Op.equalIn (d+1) t (.int k x) (.int k y)).run P w = .ok (x == y) w:=by
 rw [Op.equalIn]
 simp [run_underlying hu]
theorem qHz{t:TypeId}{x y:Bool}(hu:P.underlying t=some .bool):(Op.equalIn (d+1) t (.bool x) (.bool y)).run P w = .ok (x == y) w:=by
 rw [Op.equalIn]
 simp [run_underlying hu]
end
theorem x_eqs{t u:TypeId}{x y:Operand}{xs ys:Array Value}{r:Bool}(ho:o.op = .binOp .eql t x y u)(hx:ev E x = .agg xs)(hy:ev E y = .agg ys)(hg:P.eqGuardType P.depth t=false)(h:∀ w,(Op.equal t (.agg xs) (.agg ys)).run P w = .ok r w):YA P E o (.bool r):=fun w=>by
 unfold execOp
 simp [ho,hx,hy,eqGuard,hg,binOp,h]
theorem x_nes{t u:TypeId}{x y:Operand}{xs ys:Array Value}{r:Bool}(ho:o.op = .binOp .neq t x y u)(hx:ev E x = .agg xs)(hy:ev E y = .agg ys)(hg:P.eqGuardType P.depth t=false)(h:∀ w,(Op.equal t (.agg xs) (.agg ys)).run P w = .ok r w):YA P E o (.bool (!r)):=fun w=>by
 unfold execOp
 simp [ho,hx,hy,eqGuard,hg,binOp,h]
end
end Go.Proofs.YthgfhlbjkmjlpaaGreat.Sl
