/- The reference's search at the reflected queue of depth 4: some of its rows. No conditions. -/
import Derived.Test.YtgmnbpdfdagniaaQE0
import Derived.KernelRfl
namespace Go.Proofs.Ytgmnbpdfdagniaa.A
open Go.RowKit Go.Proofs.YtgmnbpdfdagniaaW.PrintWords Go.Proofs.YtgmnbpdfdagniaaW.PrintLast Go.Proofs.YtgmnbpdfdagniaaW.PrintMore
set_option maxRecDepth 100000
set_option linter.unusedVariables false
theorem br_piece6 : isAt (run 100000 4 1 27 165 (brP 193 brT6 192)) 192 (brP 220 brT7 219) = true := by kernel_rfl
theorem br_piece7 : isAt (run 100000 4 1 27 192 (brP 220 brT7 219)) 219 (brP 247 brT8 246) = true := by kernel_rfl
end Go.Proofs.Ytgmnbpdfdagniaa.A
