/- The program's search at the four queues. No conditions. -/
import Derived.Test.YtgmnbpdfdagniaaQFxa
import Derived.Test.YtgmnbpdfdagniaaQFxb
import Derived.KernelRfl
namespace Go.Proofs.Ytgmnbpdfdagniaa.A
open Go.RowKit Go.Proofs.YtgmnbpdfdagniaaW.PrintWords Go.Proofs.YtgmnbpdfdagniaaW.PrintLast Go.Proofs.YtgmnbpdfdagniaaW.PrintMore
set_option maxRecDepth 100000
set_option linter.unusedVariables false
theorem qf20 : qfF 100000 2 0 = some (⟨#[115, 114, 115, 114, 114, 114]⟩, true) := by kernel_rfl
theorem qf40 : qfF 100000 4 0 = some (⟨#[115, 114, 115, 114, 114, 114]⟩, true) := by kernel_rfl
theorem qf21 : qfF 100000 2 1 = some (ByteArray.empty, false) := by kernel_rfl
theorem qf41 : qfF 100000 4 1 = some (ByteArray.empty, false) := by
  have h0 : [((ByteArray.empty, [z80]) : ByteArray × List S80)] = qfP qfO0 := by kernel_rfl
  have h1 : [z80] = (qfC.take 1).map decY := by kernel_rfl
  unfold qfF
  rw [h0, h1]
  rw [show qfRow 100000 4 1 100000 (qfP qfO0) ((qfC.take 1).map decY) = qfRowN 100000 4 1 37 (fun o s => qfRow 100000 4 1 99963 o s) (qfP qfO0) ((qfC.take 1).map decY) from qfRow_pieces 100000 4 1 99963 37 (qfP qfO0) ((qfC.take 1).map decY), qf_piece0]
  try dsimp only
  rw [show qfRow 100000 4 1 99963 (qfP qfO1) ((qfC.take 94).map decY) = qfRowN 100000 4 1 26 (fun o s => qfRow 100000 4 1 99937 o s) (qfP qfO1) ((qfC.take 94).map decY) from qfRow_pieces 100000 4 1 99937 26 (qfP qfO1) ((qfC.take 94).map decY), qf_piece1]
  try dsimp only
  rw [show qfRow 100000 4 1 99937 (qfP qfO2) ((qfC.take 159).map decY) = qfRowN 100000 4 1 27 (fun o s => qfRow 100000 4 1 99910 o s) (qfP qfO2) ((qfC.take 159).map decY) from qfRow_pieces 100000 4 1 99910 27 (qfP qfO2) ((qfC.take 159).map decY), qf_piece2]
  try dsimp only
  rw [show qfRow 100000 4 1 99910 (qfP qfO3) ((qfC.take 219).map decY) = qfRowN 100000 4 1 27 (fun o s => qfRow 100000 4 1 99883 o s) (qfP qfO3) ((qfC.take 219).map decY) from qfRow_pieces 100000 4 1 99883 27 (qfP qfO3) ((qfC.take 219).map decY), qf_piece3]
  try dsimp only
  rw [show qfRow 100000 4 1 99883 (qfP qfO4) ((qfC.take 284).map decY) = qfRowN 100000 4 1 26 (fun o s => qfRow 100000 4 1 99857 o s) (qfP qfO4) ((qfC.take 284).map decY) from qfRow_pieces 100000 4 1 99857 26 (qfP qfO4) ((qfC.take 284).map decY), qf_piece4]
  try dsimp only
  rw [show qfRow 100000 4 1 99857 (qfP qfO5) ((qfC.take 349).map decY) = qfRowN 100000 4 1 26 (fun o s => qfRow 100000 4 1 99831 o s) (qfP qfO5) ((qfC.take 349).map decY) from qfRow_pieces 100000 4 1 99831 26 (qfP qfO5) ((qfC.take 349).map decY), qf_piece5]
  try dsimp only
  rw [show qfRow 100000 4 1 99831 (qfP qfO6) ((qfC.take 415).map decY) = qfRowN 100000 4 1 28 (fun o s => qfRow 100000 4 1 99803 o s) (qfP qfO6) ((qfC.take 415).map decY) from qfRow_pieces 100000 4 1 99803 28 (qfP qfO6) ((qfC.take 415).map decY), qf_piece6]
  try dsimp only
  rw [show qfRow 100000 4 1 99803 (qfP qfO7) ((qfC.take 469).map decY) = qfRowN 100000 4 1 22 (fun o s => qfRow 100000 4 1 99781 o s) (qfP qfO7) ((qfC.take 469).map decY) from qfRow_pieces 100000 4 1 99781 22 (qfP qfO7) ((qfC.take 469).map decY), qf_piece7]
  try dsimp only
  rfl
end Go.Proofs.Ytgmnbpdfdagniaa.A
