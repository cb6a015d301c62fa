/- What is left to prove of the law FnExactFirstMeeting, about numbers and lists alone. Written by this session's row2.py. No conditions. -/
import Derived.Test.YtfoedfigjcmjbaaAOpens
import Derived.Test.YtfoedfigjcmjbaaA10
namespace Go.Proofs.Ytfoedfigjcmjbaa.A
open Go.RowKit Go.Proofs.YtfoedfigjcmjbaaW.PrintWords Go.Proofs.YtfoedfigjcmjbaaW.PrintLast Go.Proofs.Ytfoedfigjcmjbaa.O
def laws_FnExactFirstMeeting.Pure : Prop := ∀ (x0 : List (S43)), Wf_L43 x0 → ∃ k, laws_FnExactFirstMeeting.f k x0 = some true
end Go.Proofs.Ytfoedfigjcmjbaa.A
