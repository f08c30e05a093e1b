import Derived.Test.YtpohepinmjmbkaaGreatSlG
import Derived.Laws.StructEq
namespace Go.Proofs.YtpohepinmjmbkaaGreat.Sl
open Go Go.RowKit
set_option linter.unusedVariables false
set_option linter.unusedSimpArgs false
section
variable {P:Program} {E:Nat→Value} {o:Oper}
theorem x_shl{t u:TypeId}{x y:Operand}{k k':IntKind}{a b:Int}(n:Nat)(ho:o.op = .binOp .shl t x y u)(hx:ev E x = .int k a)(hy:ev E y = .int k' b)(hn:k.bits=n)(h:0≤b):YA P E o (.int k (k.wrap (a * 2 ^ (min b.toNat n)))):=fun w=>by
 subst hn
 unfold execOp
 have h':¬ b<0:=by omega
 simp [ho,hx,hy,eqGuard,binOp,Op.shift,h']
theorem x_shr{t u:TypeId}{x y:Operand}{k k':IntKind}{a b:Int}(n:Nat)(ho:o.op = .binOp .shr t x y u)(hx:ev E x = .int k a)(hy:ev E y = .int k' b)(hn:k.bits=n)(h:0≤b):YA P E o (.int k (a.fdiv (2 ^ (min b.toNat n)))):=fun w=>by
 subst hn
 unfold execOp
 have h':¬ b<0:=by omega
 simp [ho,hx,hy,eqGuard,binOp,Op.shift,h']
section
variable {d:Nat} {xs ys:Array Value} {f:Field} {fs:List Field} {a b:Value} {r s:Bool} {w:World}
end
end
end Go.Proofs.YtpohepinmjmbkaaGreat.Sl
