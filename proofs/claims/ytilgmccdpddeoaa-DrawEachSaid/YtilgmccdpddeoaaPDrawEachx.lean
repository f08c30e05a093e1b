-- written by wip/pp.py
import Derived.Test.YtilgmccdpddeoaaPDrawEachx0
import Derived.Test.YtilgmccdpddeoaaPDrawEachx1
import Derived.Test.YtilgmccdpddeoaaPDrawEachx2
import Derived.Test.YtilgmccdpddeoaaPDrawEachx3
namespace Go.Proofs.Ytilgmccdpddeoaa.PDrawEach
open Go.RowKit Go.Proofs.YtilgmccdpddeoaaW.PrintWords Go.Proofs.YtilgmccdpddeoaaW.PrintLast Go.Proofs.YtilgmccdpddeoaaW.PrintMore
attribute [local go_sem] max2_int min2_int max_two min_two max_three min_three max_four min_four   -- for this text's walks alone
set_option linter.unusedVariables false
set_option linter.unusedSimpArgs false

end Go.Proofs.Ytilgmccdpddeoaa.PDrawEach
