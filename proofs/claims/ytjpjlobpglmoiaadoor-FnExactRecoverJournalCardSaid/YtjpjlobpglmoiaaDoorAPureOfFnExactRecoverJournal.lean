/- What is left to prove of the law FnExactRecoverJournal, about numbers and lists alone. Written by this session's row2.py. No conditions. -/
import Derived.Test.YtjpjlobpglmoiaaDoorAOpens
import Derived.Test.YtjpjlobpglmoiaaDoorA5
namespace Go.Proofs.YtjpjlobpglmoiaaDoor.A
open Go.RowKit Go.Proofs.YtjpjlobpglmoiaaDoorW.PrintWords Go.Proofs.YtjpjlobpglmoiaaDoorW.PrintLast Go.Proofs.YtjpjlobpglmoiaaDoor.O
def laws_FnExactRecoverJournal.Pure : Prop := ∀ (x0 : ByteArray), Wf_str x0 → ∃ k, laws_FnExactRecoverJournal.f k x0 = some true
end Go.Proofs.YtjpjlobpglmoiaaDoor.A
