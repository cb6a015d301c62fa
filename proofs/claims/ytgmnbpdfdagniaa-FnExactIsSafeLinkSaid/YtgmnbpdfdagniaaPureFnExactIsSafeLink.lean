/- The pure side of FnExactIsSafeLink: for each link and ratio both sides give the same answer. No conditions. -/
import Derived.Test.YtgmnbpdfdagniaaAPureOfFnExactIsSafeLink
namespace Go.Proofs.Ytgmnbpdfdagniaa.Pure
set_option linter.unusedVariables false
set_option linter.unusedSimpArgs false
open Go.RowKit Go.Proofs.Ytgmnbpdfdagniaa.A Go.Proofs.YtgmnbpdfdagniaaW.PrintWords Go.Proofs.YtgmnbpdfdagniaaW.PrintLast Go.Proofs.YtgmnbpdfdagniaaW.PrintMore
theorem FnExactIsSafeLink : laws_FnExactIsSafeLink.Pure := by
  intro x r hw hr
  unfold laws_FnExactIsSafeLink.f laws_toLink.f spec_IsSafeLink.f impl_IsSafeLink.f
  simp
end Go.Proofs.Ytgmnbpdfdagniaa.Pure
