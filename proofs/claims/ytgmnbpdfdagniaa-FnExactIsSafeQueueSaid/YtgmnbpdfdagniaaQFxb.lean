/- The program's search at the reflected queue of depth 4: some of its groups. No conditions. -/
import Derived.Test.YtgmnbpdfdagniaaQF0
import Derived.KernelRfl
namespace Go.Proofs.Ytgmnbpdfdagniaa.A
open Go.RowKit Go.Proofs.YtgmnbpdfdagniaaW.PrintWords Go.Proofs.YtgmnbpdfdagniaaW.PrintLast Go.Proofs.YtgmnbpdfdagniaaW.PrintMore
set_option maxRecDepth 100000
set_option linter.unusedVariables false
theorem qf_piece4 (fin : List (ByteArray × List S80) → List S80 → Option (ByteArray × Bool)) : qfRowN 100000 4 1 26 fin (qfP qfO4) ((qfC.take 284).map decY) = fin (qfP qfO5) ((qfC.take 349).map decY) := by kernel_rfl
theorem qf_piece5 (fin : List (ByteArray × List S80) → List S80 → Option (ByteArray × Bool)) : qfRowN 100000 4 1 26 fin (qfP qfO5) ((qfC.take 349).map decY) = fin (qfP qfO6) ((qfC.take 415).map decY) := by kernel_rfl
theorem qf_piece6 (fin : List (ByteArray × List S80) → List S80 → Option (ByteArray × Bool)) : qfRowN 100000 4 1 28 fin (qfP qfO6) ((qfC.take 415).map decY) = fin (qfP qfO7) ((qfC.take 469).map decY) := by kernel_rfl
theorem qf_piece7 (fin : List (ByteArray × List S80) → List S80 → Option (ByteArray × Bool)) : qfRowN 100000 4 1 22 fin (qfP qfO7) ((qfC.take 469).map decY) = fin (qfP qfO8) ((qfC.take 495).map decY) := by kernel_rfl
end Go.Proofs.Ytgmnbpdfdagniaa.A
