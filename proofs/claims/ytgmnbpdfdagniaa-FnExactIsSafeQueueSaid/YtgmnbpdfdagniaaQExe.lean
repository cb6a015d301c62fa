/- The reference's search at the reflected queue of depth 4: some of its rows. No conditions. -/
import Derived.Test.YtgmnbpdfdagniaaQE0
import Derived.KernelRfl
namespace Go.Proofs.Ytgmnbpdfdagniaa.A
open Go.RowKit Go.Proofs.YtgmnbpdfdagniaaW.PrintWords Go.Proofs.YtgmnbpdfdagniaaW.PrintLast Go.Proofs.YtgmnbpdfdagniaaW.PrintMore
set_option maxRecDepth 100000
set_option linter.unusedVariables false
theorem br_piece8 : isAt (run 100000 4 1 27 219 (brP 247 brT8 246)) 246 (brP 280 brT9 279) = true := by kernel_rfl
theorem br_piece9 : isAt (run 100000 4 1 27 246 (brP 280 brT9 279)) 273 (brP 305 brT10 304) = true := by kernel_rfl
end Go.Proofs.Ytgmnbpdfdagniaa.A
