/- What is left to prove of the law FnExactJournalOf, about numbers and lists alone. Written by this session's row2.py. No conditions. -/
import Derived.Test.YtjpjlobpglmoiaaDoorAOpens
import Derived.Test.YtjpjlobpglmoiaaDoorA4
namespace Go.Proofs.YtjpjlobpglmoiaaDoor.A
open Go.RowKit Go.Proofs.YtjpjlobpglmoiaaDoorW.PrintWords Go.Proofs.YtjpjlobpglmoiaaDoorW.PrintLast Go.Proofs.YtjpjlobpglmoiaaDoor.O
def laws_FnExactJournalOf.Pure : Prop := ∀ (x0 : List ByteArray), Wf_L9 x0 → ∃ k, laws_FnExactJournalOf.f k x0 = some true
end Go.Proofs.YtjpjlobpglmoiaaDoor.A
