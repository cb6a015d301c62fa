/- The pure side of FnExactFewestSteps: for each link and ratio both sides give the same answer. No conditions. -/
import Derived.Test.YtgmnbpdfdagniaaAPureOfFnExactFewestSteps
namespace Go.Proofs.Ytgmnbpdfdagniaa.Pure
set_option linter.unusedVariables false
set_option linter.unusedSimpArgs false
open Go.RowKit Go.Proofs.Ytgmnbpdfdagniaa.A Go.Proofs.YtgmnbpdfdagniaaW.PrintWords Go.Proofs.YtgmnbpdfdagniaaW.PrintLast Go.Proofs.YtgmnbpdfdagniaaW.PrintMore
theorem FnExactFewestSteps : laws_FnExactFewestSteps.Pure := by
  intro x r hw hr
  unfold laws_FnExactFewestSteps.f laws_toLink.f spec_FewestSteps.f impl_FewestSteps.f
  simp
end Go.Proofs.Ytgmnbpdfdagniaa.Pure
