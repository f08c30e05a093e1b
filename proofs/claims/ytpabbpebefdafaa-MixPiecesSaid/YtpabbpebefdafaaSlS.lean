import Derived.Test.YtpabbpebefdafaaSlT
namespace Go.Proofs.Ytpabbpebefdafaa.Sl
open Go Go.RowKit Go.Proofs
set_option linter.unusedVariables false
set_option linter.unusedSimpArgs false
section
variable {P:Program} {E:Nat→Value} {o:Oper}
end
section
variable {P:Program} {E:Nat→Value} {o:Oper} {W0 W F0 F:World} {N:Nat→Prop} {L:List Asrt} {b p:Nat} {s:ByteArray}
end
end Go.Proofs.Ytpabbpebefdafaa.Sl
