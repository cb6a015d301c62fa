/- The reference's search at the reflected queue of depth 4: some of its rows. No conditions. -/
import Derived.Test.YtgmnbpdfdagniaaQE0
import Derived.KernelRfl
namespace Go.Proofs.Ytgmnbpdfdagniaa.A
open Go.RowKit Go.Proofs.YtgmnbpdfdagniaaW.PrintWords Go.Proofs.YtgmnbpdfdagniaaW.PrintLast Go.Proofs.YtgmnbpdfdagniaaW.PrintMore
set_option maxRecDepth 100000
set_option linter.unusedVariables false
theorem br_piece0 : isAt (run 100000 4 1 30 0 (brP 1 brT0 0)) 30 (brP 52 brT1 51) = true := by kernel_rfl
theorem br_piece1 : isAt (run 100000 4 1 27 30 (brP 52 brT1 51)) 57 (brP 79 brT2 78) = true := by kernel_rfl
end Go.Proofs.Ytgmnbpdfdagniaa.A
