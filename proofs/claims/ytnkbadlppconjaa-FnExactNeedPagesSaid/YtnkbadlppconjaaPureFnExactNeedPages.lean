/- The program's NeedPages and the reference's NeedPages answer the same number, for every int. No conditions. -/
import Derived.Test.YtnkbadlppconjaaPFnExactNeedPagesx1
namespace Go.Proofs.Ytnkbadlppconjaa.Pure
open Go.RowKit Go.Proofs.Ytnkbadlppconjaa.PFnExactNeedPages Go.Proofs.YtnkbadlppconjaaW.PrintWords Go.Proofs.YtnkbadlppconjaaW.PrintLast

theorem FnExactNeedPages : laws_FnExactNeedPages.Pure := by
  intro a0 w0
  unfold laws_FnExactNeedPages.f spec_NeedPages.f impl_NeedPages.f
  by_cases h : a0 ≤ 0 <;> simp [h]

end Go.Proofs.Ytnkbadlppconjaa.Pure
