/- Each function that the statement reaches, as a Lean function, and the proof that a call of it comes to just its answer; written by this claim's own program. No conditions. -/
import Derived.Test.YtigplfheldfciabPFnExactTableOkx0
import Derived.Test.YtigplfheldfciabPFnExactTableOkx1
import Derived.Test.YtigplfheldfciabPFnExactTableOkx2
import Derived.Test.YtigplfheldfciabPFnExactTableOkx3
import Derived.Test.YtigplfheldfciabPFnExactTableOkx4
import Derived.Test.YtigplfheldfciabPFnExactTableOkx5
import Derived.Test.YtigplfheldfciabPFnExactTableOkx6
import Derived.Test.YtigplfheldfciabPFnExactTableOkx7
import Derived.Test.YtigplfheldfciabPFnExactTableOkx8
import Derived.Test.YtigplfheldfciabPFnExactTableOkx9
import Derived.Test.YtigplfheldfciabPFnExactTableOkx10
import Derived.Test.YtigplfheldfciabPFnExactTableOkx11
namespace Go.Proofs.Ytigplfheldfciab.PFnExactTableOk
open Go.RowKit Go.Proofs.YtigplfheldfciabW.PrintWords Go.Proofs.YtigplfheldfciabW.PrintLast Go.Proofs.YtigplfheldfciabW.PrintMore
attribute [local go_sem] max2_int min2_int max_two min_two max_three min_three max_four min_four   -- for this text's walks alone
set_option linter.unusedVariables false
set_option linter.unusedSimpArgs false

end Go.Proofs.Ytigplfheldfciab.PFnExactTableOk
