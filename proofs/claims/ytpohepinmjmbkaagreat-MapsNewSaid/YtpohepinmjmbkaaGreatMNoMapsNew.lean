/- What comes in, read by its type (written by wip/s/sl5.py). -/
import Derived.Test.YtpohepinmjmbkaaGreatMN8
import Derived.Test.YtpohepinmjmbkaaGreatSlO
import Derived.Test.YtpohepinmjmbkaaGreatChecked
namespace Go.Proofs.YtpohepinmjmbkaaGreat.MN
open Go Go.RowKit Go.Proofs.YtpohepinmjmbkaaGreat.Sl
set_option linter.unusedVariables false
set_option linter.unusedSimpArgs false
open Go.WideShapes
set_option maxRecDepth 100000

/-- What the pure side must show. -/
def PureMapsNew : Prop := ∀ (s0 : Int) (s1 : Int) (s2 : Int), ((Lit.int .i64 s0).wf = true) → ((Lit.int .i64 s1).wf = true) → ((Lit.int .i64 s2).wf = true) → ∃ k, windroselaw08_MapsNew.f k s0 s1 s2 = some true
end Go.Proofs.YtpohepinmjmbkaaGreat.MN
