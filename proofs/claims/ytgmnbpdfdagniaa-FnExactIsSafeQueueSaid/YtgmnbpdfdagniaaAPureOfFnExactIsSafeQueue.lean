/- What is left to prove of the law FnExactIsSafeQueue, about numbers and lists alone. Written by this session's row2.py. No conditions. -/
import Derived.Test.YtgmnbpdfdagniaaZ22
import Derived.Test.YtgmnbpdfdagniaaA4
namespace Go.Proofs.Ytgmnbpdfdagniaa.A
open Go.RowKit Go.Proofs.YtgmnbpdfdagniaaW.PrintWords Go.Proofs.YtgmnbpdfdagniaaW.PrintLast Go.Proofs.Ytgmnbpdfdagniaa.O
def laws_FnExactIsSafeQueue.Pure : Prop := ∀ (x0 : S23), Wf_T23 x0 → ∃ k, laws_FnExactIsSafeQueue.f k x0.f0 x0.f1 = some true
end Go.Proofs.Ytgmnbpdfdagniaa.A
