/- The reference's search at the reflected queue of depth 4: some of its rows. No conditions. -/
import Derived.Test.YtgmnbpdfdagniaaQE0
import Derived.KernelRfl
namespace Go.Proofs.Ytgmnbpdfdagniaa.A
open Go.RowKit Go.Proofs.YtgmnbpdfdagniaaW.PrintWords Go.Proofs.YtgmnbpdfdagniaaW.PrintLast Go.Proofs.YtgmnbpdfdagniaaW.PrintMore
set_option maxRecDepth 100000
set_option linter.unusedVariables false
theorem br_piece17 : isAt (run 100000 4 1 3 462 (brP 478 brT17 477)) 465 (brP 481 brT18 480) = true := by kernel_rfl
end Go.Proofs.Ytgmnbpdfdagniaa.A
