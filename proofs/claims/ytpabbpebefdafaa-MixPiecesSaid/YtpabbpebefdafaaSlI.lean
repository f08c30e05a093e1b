import Derived.Test.YtpabbpebefdafaaSlK
namespace Go.Proofs.Ytpabbpebefdafaa.Sl
open Go Go.RowKit
set_option linter.unusedVariables false
set_option linter.unusedSimpArgs false
section
variable {P:Program} {E:Nat→Value} {o:Oper} {W0 W F0 F:World} {N:Nat→Prop} {L:List Asrt} {α : Type} {d:Kn α} {e:TypeId} {A:Option Addr} {c n:Nat} {xs:List α}
end
end Go.Proofs.Ytpabbpebefdafaa.Sl
