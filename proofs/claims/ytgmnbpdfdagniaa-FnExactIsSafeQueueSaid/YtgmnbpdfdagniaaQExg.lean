/- The reference's search at the reflected queue of depth 4: some of its rows. No conditions. -/
import Derived.Test.YtgmnbpdfdagniaaQE0
import Derived.KernelRfl
namespace Go.Proofs.Ytgmnbpdfdagniaa.A
open Go.RowKit Go.Proofs.YtgmnbpdfdagniaaW.PrintWords Go.Proofs.YtgmnbpdfdagniaaW.PrintLast Go.Proofs.YtgmnbpdfdagniaaW.PrintMore
set_option maxRecDepth 100000
set_option linter.unusedVariables false
theorem br_piece12 : isAt (run 100000 4 1 27 327 (brP 356 brT12 355)) 354 (brP 389 brT13 388) = true := by kernel_rfl
theorem br_piece13 : isAt (run 100000 4 1 27 354 (brP 389 brT13 388)) 381 (brP 407 brT14 406) = true := by kernel_rfl
end Go.Proofs.Ytgmnbpdfdagniaa.A
