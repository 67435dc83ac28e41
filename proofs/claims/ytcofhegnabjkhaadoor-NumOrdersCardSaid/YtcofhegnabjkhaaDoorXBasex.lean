-- Written by wip/xp.py, a program of this session (its engine is loaded from the kit at run time).
import Derived.Test.YtcofhegnabjkhaaDoorXBasex0
import Derived.Test.YtcofhegnabjkhaaDoorXBasex1
namespace Go.Proofs.YtcofhegnabjkhaaDoor.XBase
open Go.RowKit Go.Proofs.YtcofhegnabjkhaaDoorW.PrintWords Go.Proofs.YtcofhegnabjkhaaDoorW.PrintLast Go.Proofs.YtcofhegnabjkhaaDoorW.PrintMore
attribute [local go_sem] max2_int min2_int max_two min_two max_three min_three max_four min_four   -- for this text's walks alone
set_option linter.unusedVariables false
set_option linter.unusedSimpArgs false

end Go.Proofs.YtcofhegnabjkhaaDoor.XBase
