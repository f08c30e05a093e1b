-- written by wip/pp.py
import Derived.Test.YtilgmccdpddeoaaPDrawOrdersx0
import Derived.Test.YtilgmccdpddeoaaPDrawOrdersx1
import Derived.Test.YtilgmccdpddeoaaPDrawOrdersx2
import Derived.Test.YtilgmccdpddeoaaPDrawOrdersx3
import Derived.Test.YtilgmccdpddeoaaPDrawOrdersx4
import Derived.Test.YtilgmccdpddeoaaPDrawOrdersx5
namespace Go.Proofs.Ytilgmccdpddeoaa.PDrawOrders
open Go.RowKit Go.Proofs.YtilgmccdpddeoaaW.PrintWords Go.Proofs.YtilgmccdpddeoaaW.PrintLast Go.Proofs.YtilgmccdpddeoaaW.PrintMore
attribute [local go_sem] max2_int min2_int max_two min_two max_three min_three max_four min_four   -- for this text's walks alone
set_option linter.unusedVariables false
set_option linter.unusedSimpArgs false

end Go.Proofs.Ytilgmccdpddeoaa.PDrawOrders
