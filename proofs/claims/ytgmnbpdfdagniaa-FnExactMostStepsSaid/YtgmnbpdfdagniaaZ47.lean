/- Texts of this claim, put together by this session's pack2.py: each part is introduced by its own comment. No conditions. -/
import Derived.Test.YtgmnbpdfdagniaaZ24
import Derived.Test.YtgmnbpdfdagniaaA8
/- What is left to prove of the law FnExactMostSteps, about numbers and lists alone. Written by this session's row2.py. No conditions. -/
namespace Go.Proofs.Ytgmnbpdfdagniaa.A
open Go.RowKit Go.Proofs.YtgmnbpdfdagniaaW.PrintWords Go.Proofs.YtgmnbpdfdagniaaW.PrintLast Go.Proofs.Ytgmnbpdfdagniaa.O
def laws_FnExactMostSteps.Pure : Prop := ∀ (x0 : S31) (x1 : Int), Wf_T31 x0 → Wf_i64 x1 → laws_FnExactMostSteps.f x0.f0 x0.f1 x0.f2 x0.f3 x1 = some true
end Go.Proofs.Ytgmnbpdfdagniaa.A
/- The pure side of FnExactMostSteps: for each link and ratio both sides give the same answer. No conditions. -/
namespace Go.Proofs.Ytgmnbpdfdagniaa.Pure
set_option linter.unusedVariables false
set_option linter.unusedSimpArgs false
open Go.RowKit Go.Proofs.Ytgmnbpdfdagniaa.A Go.Proofs.YtgmnbpdfdagniaaW.PrintWords Go.Proofs.YtgmnbpdfdagniaaW.PrintLast Go.Proofs.YtgmnbpdfdagniaaW.PrintMore
theorem FnExactMostSteps : laws_FnExactMostSteps.Pure := by
  intro x r hw hr
  unfold laws_FnExactMostSteps.f laws_toLink.f spec_MostSteps.f impl_MostSteps.f
  simp
end Go.Proofs.Ytgmnbpdfdagniaa.Pure
