/- Each function that the statement reaches, as a Lean function, and the proof that a call of it comes to just its answer; written by this claim's own program. No conditions. -/
import Derived.Test.YtigplfheldfciabPFnExactStoreOkx0
import Derived.Test.YtigplfheldfciabPFnExactStoreOkx1
import Derived.Test.YtigplfheldfciabPFnExactStoreOkx2
import Derived.Test.YtigplfheldfciabPFnExactStoreOkx3
import Derived.Test.YtigplfheldfciabPFnExactStoreOkx4
import Derived.Test.YtigplfheldfciabPFnExactStoreOkx5
import Derived.Test.YtigplfheldfciabPFnExactStoreOkx6
import Derived.Test.YtigplfheldfciabPFnExactStoreOkx7
namespace Go.Proofs.Ytigplfheldfciab.PFnExactStoreOk
open Go.RowKit Go.Proofs.YtigplfheldfciabW.PrintWords Go.Proofs.YtigplfheldfciabW.PrintLast Go.Proofs.YtigplfheldfciabW.PrintMore
attribute [local go_sem] max2_int min2_int max_two min_two max_three min_three max_four min_four   -- for this text's walks alone
set_option linter.unusedVariables false
set_option linter.unusedSimpArgs false

end Go.Proofs.Ytigplfheldfciab.PFnExactStoreOk
