/- What is left to prove of the law FnExactCountsBetween, about numbers and lists alone. Written by this session's row2.py. No conditions. -/
import Derived.Test.YtfoedfigjcmjbaaAOpens
import Derived.Test.YtfoedfigjcmjbaaA6
namespace Go.Proofs.Ytfoedfigjcmjbaa.A
open Go.RowKit Go.Proofs.YtfoedfigjcmjbaaW.PrintWords Go.Proofs.YtfoedfigjcmjbaaW.PrintLast Go.Proofs.Ytfoedfigjcmjbaa.O
def laws_FnExactCountsBetween.Pure : Prop := ∀ (x0 : S43) (x1 : S43) (x2 : Int) (x3 : Int), Wf_T43 x0 → Wf_T43 x1 → Wf_i64 x2 → Wf_i64 x3 → ∃ k, laws_FnExactCountsBetween.f k x0.f0 x0.f1 x1.f0 x1.f1 x2 x3 = some true
end Go.Proofs.Ytfoedfigjcmjbaa.A
