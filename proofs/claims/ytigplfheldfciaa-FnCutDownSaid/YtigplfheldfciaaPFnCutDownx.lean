/- Each function that the statement reaches, as a Lean function, and the proof that a call of it comes to just its answer; written by this claim's own program. No conditions. -/
import Derived.Test.YtigplfheldfciaaPFnCutDownx0
import Derived.Test.YtigplfheldfciaaPFnCutDownx1
import Derived.Test.YtigplfheldfciaaPFnCutDownx2
import Derived.Test.YtigplfheldfciaaPFnCutDownx3
import Derived.Test.YtigplfheldfciaaPFnCutDownx4
import Derived.Test.YtigplfheldfciaaPFnCutDownx5
namespace Go.Proofs.Ytigplfheldfciaa.PFnCutDown
open Go.RowKit Go.Proofs.YtigplfheldfciaaW.PrintWords Go.Proofs.YtigplfheldfciaaW.PrintLast Go.Proofs.YtigplfheldfciaaW.PrintMore
attribute [local go_sem] max2_int min2_int max_two min_two max_three min_three max_four min_four   -- for this text's walks alone
set_option linter.unusedVariables false
set_option linter.unusedSimpArgs false

end Go.Proofs.Ytigplfheldfciaa.PFnCutDown
