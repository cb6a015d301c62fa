/- The reference's search at the reflected queue of depth 4: some of its rows. No conditions. -/
import Derived.Test.YtgmnbpdfdagniaaQE0
import Derived.KernelRfl
namespace Go.Proofs.Ytgmnbpdfdagniaa.A
open Go.RowKit Go.Proofs.YtgmnbpdfdagniaaW.PrintWords Go.Proofs.YtgmnbpdfdagniaaW.PrintLast Go.Proofs.YtgmnbpdfdagniaaW.PrintMore
set_option maxRecDepth 100000
set_option linter.unusedVariables false
theorem br_piece4 : isAt (run 100000 4 1 27 111 (brP 140 brT4 139)) 138 (brP 163 brT5 162) = true := by kernel_rfl
theorem br_piece5 : isAt (run 100000 4 1 27 138 (brP 163 brT5 162)) 165 (brP 193 brT6 192) = true := by kernel_rfl
end Go.Proofs.Ytgmnbpdfdagniaa.A
