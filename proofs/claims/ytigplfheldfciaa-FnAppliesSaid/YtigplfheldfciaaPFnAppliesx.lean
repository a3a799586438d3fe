/- Each function that the statement reaches, as a Lean function, and the proof that a call of it comes to just its answer; written by this claim's own program. No conditions. -/
import Derived.Test.YtigplfheldfciaaPFnAppliesx0
import Derived.Test.YtigplfheldfciaaPFnAppliesx1
import Derived.Test.YtigplfheldfciaaPFnAppliesx2
import Derived.Test.YtigplfheldfciaaPFnAppliesx3
import Derived.Test.YtigplfheldfciaaPFnAppliesx4
import Derived.Test.YtigplfheldfciaaPFnAppliesx5
import Derived.Test.YtigplfheldfciaaPFnAppliesx6
import Derived.Test.YtigplfheldfciaaPFnAppliesx7
namespace Go.Proofs.Ytigplfheldfciaa.PFnApplies
open Go.RowKit Go.Proofs.YtigplfheldfciaaW.PrintWords Go.Proofs.YtigplfheldfciaaW.PrintLast Go.Proofs.YtigplfheldfciaaW.PrintMore
attribute [local go_sem] max2_int min2_int max_two min_two max_three min_three max_four min_four   -- for this text's walks alone
set_option linter.unusedVariables false
set_option linter.unusedSimpArgs false

end Go.Proofs.Ytigplfheldfciaa.PFnApplies
