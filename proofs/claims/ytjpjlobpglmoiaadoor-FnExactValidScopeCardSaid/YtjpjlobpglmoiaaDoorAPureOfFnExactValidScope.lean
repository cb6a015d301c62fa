/- What is left to prove of the law FnExactValidScope, about numbers and lists alone. Written by this session's row2.py. No conditions. -/
import Derived.Test.YtjpjlobpglmoiaaDoorAOpens
import Derived.Test.YtjpjlobpglmoiaaDoorA3
namespace Go.Proofs.YtjpjlobpglmoiaaDoor.A
open Go.RowKit Go.Proofs.YtjpjlobpglmoiaaDoorW.PrintWords Go.Proofs.YtjpjlobpglmoiaaDoorW.PrintLast Go.Proofs.YtjpjlobpglmoiaaDoor.O
def laws_FnExactValidScope.Pure : Prop := ∀ (x0 : S24), Wf_T24 x0 → ∃ k, laws_FnExactValidScope.f k x0.f0 x0.f1 = some true
end Go.Proofs.YtjpjlobpglmoiaaDoor.A
