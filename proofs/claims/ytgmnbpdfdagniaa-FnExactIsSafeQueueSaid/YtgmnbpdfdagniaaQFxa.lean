/- The program's search at the reflected queue of depth 4: some of its groups. No conditions. -/
import Derived.Test.YtgmnbpdfdagniaaQF0
import Derived.KernelRfl
namespace Go.Proofs.Ytgmnbpdfdagniaa.A
open Go.RowKit Go.Proofs.YtgmnbpdfdagniaaW.PrintWords Go.Proofs.YtgmnbpdfdagniaaW.PrintLast Go.Proofs.YtgmnbpdfdagniaaW.PrintMore
set_option maxRecDepth 100000
set_option linter.unusedVariables false
theorem qf_piece0 (fin : List (ByteArray × List S80) → List S80 → Option (ByteArray × Bool)) : qfRowN 100000 4 1 37 fin (qfP qfO0) ((qfC.take 1).map decY) = fin (qfP qfO1) ((qfC.take 94).map decY) := by kernel_rfl
theorem qf_piece1 (fin : List (ByteArray × List S80) → List S80 → Option (ByteArray × Bool)) : qfRowN 100000 4 1 26 fin (qfP qfO1) ((qfC.take 94).map decY) = fin (qfP qfO2) ((qfC.take 159).map decY) := by kernel_rfl
theorem qf_piece2 (fin : List (ByteArray × List S80) → List S80 → Option (ByteArray × Bool)) : qfRowN 100000 4 1 27 fin (qfP qfO2) ((qfC.take 159).map decY) = fin (qfP qfO3) ((qfC.take 219).map decY) := by kernel_rfl
theorem qf_piece3 (fin : List (ByteArray × List S80) → List S80 → Option (ByteArray × Bool)) : qfRowN 100000 4 1 27 fin (qfP qfO3) ((qfC.take 219).map decY) = fin (qfP qfO4) ((qfC.take 284).map decY) := by kernel_rfl
end Go.Proofs.Ytgmnbpdfdagniaa.A
