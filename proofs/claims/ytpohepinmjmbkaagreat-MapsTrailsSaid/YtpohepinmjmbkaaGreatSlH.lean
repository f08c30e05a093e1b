import Derived.Test.YtpohepinmjmbkaaGreatSlG
import Derived.Laws.StructEq
namespace Go.Proofs.YtpohepinmjmbkaaGreat.Sl
open Go Go.RowKit
set_option linter.unusedVariables false
set_option linter.unusedSimpArgs false
section
variable {P:Program} {E:Nat→Value} {o:Oper}
section
variable {d:Nat} {xs ys:Array Value} {f:Field} {fs:List Field} {a b:Value} {r s:Bool} {w:World}
end
end
end Go.Proofs.YtpohepinmjmbkaaGreat.Sl
