import Derived.Test.YtpabbpebefdafaaSlE
import Derived.Lib.AppendZerosOnto
namespace Go.Proofs.Ytpabbpebefdafaa.Sl
open Go Go.RowKit
set_option linter.unusedVariables false
set_option linter.unusedSimpArgs false
section
variable {α : Type} {d:Kn α} {F:World}
variable {W0 W F0 w':World} {N:Nat→Prop} {L:List Asrt} {P:Program} {E:Nat→Value} {o:Oper} {e:TypeId} {A:Option Addr} {c n:Nat} {xs:List α}
theorem x_rem{t u:TypeId}{x y:Operand}{k:IntKind}{a b:Int}(ho:o.op = .binOp .rem t x y u)(hx:ev E x = .int k a)(hy:ev E y = .int k b)(h:b≠0):YA P E o (.int k (a.tmod b)):=fun w=>by
 unfold execOp
 simp [ho,hx,hy,eqGuard,binOp,Op.intDiv,h]
end
end Go.Proofs.Ytpabbpebefdafaa.Sl
