/- What is left to prove of the law FnExactPictureOf, about numbers and lists alone. Written by this session's row2.py. No conditions. -/
import Derived.Test.YtjpjlobpglmoiaaDoorAOpens
import Derived.Test.YtjpjlobpglmoiaaDoorA7
namespace Go.Proofs.YtjpjlobpglmoiaaDoor.A
open Go.RowKit Go.Proofs.YtjpjlobpglmoiaaDoorW.PrintWords Go.Proofs.YtjpjlobpglmoiaaDoorW.PrintLast Go.Proofs.YtjpjlobpglmoiaaDoor.O
def laws_FnExactPictureOf.Pure : Prop := ∀ (x0 : S24) (x1 : Int) (x2 : Int), Wf_T24 x0 → Wf_i64 x1 → Wf_i64 x2 → ∃ k, laws_FnExactPictureOf.f k x0.f0 x0.f1 x1 x2 = some true
end Go.Proofs.YtjpjlobpglmoiaaDoor.A
