/- Each function that the statement reaches, as a Lean function, and the proof that a call of it comes to just its answer; written by this claim's own program. No conditions. -/
import Derived.Test.YtlpginalgdbopaaPFnExactTurnsForx0
import Derived.Test.YtlpginalgdbopaaPFnExactTurnsForx1
import Derived.Test.YtlpginalgdbopaaPFnExactTurnsForx2
import Derived.Test.YtlpginalgdbopaaPFnExactTurnsForx3
namespace Go.Proofs.Ytlpginalgdbopaa.PFnExactTurnsFor
open Go.RowKit Go.Proofs.YtlpginalgdbopaaW.PrintWords Go.Proofs.YtlpginalgdbopaaW.PrintLast Go.Proofs.YtlpginalgdbopaaW.PrintMore
attribute [local go_sem] max2_int min2_int max_two min_two max_three min_three max_four min_four   -- for this text's walks alone
set_option linter.unusedVariables false
set_option linter.unusedSimpArgs false

end Go.Proofs.Ytlpginalgdbopaa.PFnExactTurnsFor
