/- The reference's search at the reflected queue of depth 4: some of its rows. No conditions. -/
import Derived.Test.YtgmnbpdfdagniaaQE0
import Derived.KernelRfl
namespace Go.Proofs.Ytgmnbpdfdagniaa.A
open Go.RowKit Go.Proofs.YtgmnbpdfdagniaaW.PrintWords Go.Proofs.YtgmnbpdfdagniaaW.PrintLast Go.Proofs.YtgmnbpdfdagniaaW.PrintMore
set_option maxRecDepth 100000
set_option linter.unusedVariables false
theorem br_piece10 : isAt (run 100000 4 1 27 273 (brP 305 brT10 304)) 300 (brP 336 brT11 335) = true := by kernel_rfl
theorem br_piece11 : isAt (run 100000 4 1 27 300 (brP 336 brT11 335)) 327 (brP 356 brT12 355) = true := by kernel_rfl
end Go.Proofs.Ytgmnbpdfdagniaa.A
