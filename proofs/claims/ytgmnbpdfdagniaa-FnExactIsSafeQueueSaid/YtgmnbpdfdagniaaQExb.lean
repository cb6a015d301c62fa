/- The reference's search at the reflected queue of depth 4: some of its rows. No conditions. -/
import Derived.Test.YtgmnbpdfdagniaaQE0
import Derived.KernelRfl
namespace Go.Proofs.Ytgmnbpdfdagniaa.A
open Go.RowKit Go.Proofs.YtgmnbpdfdagniaaW.PrintWords Go.Proofs.YtgmnbpdfdagniaaW.PrintLast Go.Proofs.YtgmnbpdfdagniaaW.PrintMore
set_option maxRecDepth 100000
set_option linter.unusedVariables false
theorem br_piece2 : isAt (run 100000 4 1 27 57 (brP 79 brT2 78)) 84 (brP 105 brT3 104) = true := by kernel_rfl
theorem br_piece3 : isAt (run 100000 4 1 27 84 (brP 105 brT3 104)) 111 (brP 140 brT4 139) = true := by kernel_rfl
end Go.Proofs.Ytgmnbpdfdagniaa.A
