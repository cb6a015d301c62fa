/- What is left to prove of the law FnExactFewestSteps, about numbers and lists alone. Written by this session's row2.py. No conditions. -/
import Derived.Test.YtgmnbpdfdagniaaZ23
import Derived.Test.YtgmnbpdfdagniaaA7
namespace Go.Proofs.Ytgmnbpdfdagniaa.A
open Go.RowKit Go.Proofs.YtgmnbpdfdagniaaW.PrintWords Go.Proofs.YtgmnbpdfdagniaaW.PrintLast Go.Proofs.Ytgmnbpdfdagniaa.O
def laws_FnExactFewestSteps.Pure : Prop := ∀ (x0 : S31) (x1 : Int), Wf_T31 x0 → Wf_i64 x1 → laws_FnExactFewestSteps.f x0.f0 x0.f1 x0.f2 x0.f3 x1 = some true
end Go.Proofs.Ytgmnbpdfdagniaa.A
