/- The reference's search at the reflected queue of depth 4: some of its rows. No conditions. -/
import Derived.Test.YtgmnbpdfdagniaaQE0
import Derived.KernelRfl
namespace Go.Proofs.Ytgmnbpdfdagniaa.A
open Go.RowKit Go.Proofs.YtgmnbpdfdagniaaW.PrintWords Go.Proofs.YtgmnbpdfdagniaaW.PrintLast Go.Proofs.YtgmnbpdfdagniaaW.PrintMore
set_option maxRecDepth 100000
set_option linter.unusedVariables false
theorem br_piece16 : isAt (run 100000 4 1 27 435 (brP 456 brT16 455)) 462 (brP 478 brT17 477) = true := by kernel_rfl
end Go.Proofs.Ytgmnbpdfdagniaa.A
