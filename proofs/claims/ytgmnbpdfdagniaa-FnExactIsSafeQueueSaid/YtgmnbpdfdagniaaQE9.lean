/- The reference's search at the four queues. No conditions. -/
import Derived.Test.YtgmnbpdfdagniaaQExa
import Derived.Test.YtgmnbpdfdagniaaQExb
import Derived.Test.YtgmnbpdfdagniaaQExc
import Derived.Test.YtgmnbpdfdagniaaQExd
import Derived.Test.YtgmnbpdfdagniaaQExe
import Derived.Test.YtgmnbpdfdagniaaQExf
import Derived.Test.YtgmnbpdfdagniaaQExg
import Derived.Test.YtgmnbpdfdagniaaQExh
import Derived.Test.YtgmnbpdfdagniaaQExi
import Derived.Test.YtgmnbpdfdagniaaQExj
import Derived.Test.YtgmnbpdfdagniaaQExk
import Derived.Test.YtgmnbpdfdagniaaQExl
import Derived.Test.YtgmnbpdfdagniaaQExm
import Derived.Test.YtgmnbpdfdagniaaQExn
import Derived.KernelRfl
namespace Go.Proofs.Ytgmnbpdfdagniaa.A
open Go.RowKit Go.Proofs.YtgmnbpdfdagniaaW.PrintWords Go.Proofs.YtgmnbpdfdagniaaW.PrintLast Go.Proofs.YtgmnbpdfdagniaaW.PrintMore
set_option maxRecDepth 100000
set_option linter.unusedVariables false
theorem br20 : brF 100000 2 0 = some (⟨#[115, 114, 115, 114, 114, 114]⟩, true) := by kernel_rfl
theorem br40 : brF 100000 4 0 = some (⟨#[115, 114, 115, 114, 114, 114]⟩, true) := by kernel_rfl
theorem br41 : brF 100000 4 1 = some (ByteArray.empty, false) := by
  have h0 : (⟨[z73], [ByteArray.empty], [], 0⟩ : BrS) = brP 1 brT0 0 := by kernel_rfl
  unfold brF
  rw [h0]
  rw [show brRow 100000 4 1 100000 0 (brP 1 brT0 0) = told (brRow 100000 4 1 99970) (run 100000 4 1 30 0 (brP 1 brT0 0)) from brRow_run 100000 4 1 30 99970 0 _, isAt_eq br_piece0]
  dsimp only [told]
  rw [show brRow 100000 4 1 99970 30 (brP 52 brT1 51) = told (brRow 100000 4 1 99943) (run 100000 4 1 27 30 (brP 52 brT1 51)) from brRow_run 100000 4 1 27 99943 30 _, isAt_eq br_piece1]
  dsimp only [told]
  rw [show brRow 100000 4 1 99943 57 (brP 79 brT2 78) = told (brRow 100000 4 1 99916) (run 100000 4 1 27 57 (brP 79 brT2 78)) from brRow_run 100000 4 1 27 99916 57 _, isAt_eq br_piece2]
  dsimp only [told]
  rw [show brRow 100000 4 1 99916 84 (brP 105 brT3 104) = told (brRow 100000 4 1 99889) (run 100000 4 1 27 84 (brP 105 brT3 104)) from brRow_run 100000 4 1 27 99889 84 _, isAt_eq br_piece3]
  dsimp only [told]
  rw [show brRow 100000 4 1 99889 111 (brP 140 brT4 139) = told (brRow 100000 4 1 99862) (run 100000 4 1 27 111 (brP 140 brT4 139)) from brRow_run 100000 4 1 27 99862 111 _, isAt_eq br_piece4]
  dsimp only [told]
  rw [show brRow 100000 4 1 99862 138 (brP 163 brT5 162) = told (brRow 100000 4 1 99835) (run 100000 4 1 27 138 (brP 163 brT5 162)) from brRow_run 100000 4 1 27 99835 138 _, isAt_eq br_piece5]
  dsimp only [told]
  rw [show brRow 100000 4 1 99835 165 (brP 193 brT6 192) = told (brRow 100000 4 1 99808) (run 100000 4 1 27 165 (brP 193 brT6 192)) from brRow_run 100000 4 1 27 99808 165 _, isAt_eq br_piece6]
  dsimp only [told]
  rw [show brRow 100000 4 1 99808 192 (brP 220 brT7 219) = told (brRow 100000 4 1 99781) (run 100000 4 1 27 192 (brP 220 brT7 219)) from brRow_run 100000 4 1 27 99781 192 _, isAt_eq br_piece7]
  dsimp only [told]
  rw [show brRow 100000 4 1 99781 219 (brP 247 brT8 246) = told (brRow 100000 4 1 99754) (run 100000 4 1 27 219 (brP 247 brT8 246)) from brRow_run 100000 4 1 27 99754 219 _, isAt_eq br_piece8]
  dsimp only [told]
  rw [show brRow 100000 4 1 99754 246 (brP 280 brT9 279) = told (brRow 100000 4 1 99727) (run 100000 4 1 27 246 (brP 280 brT9 279)) from brRow_run 100000 4 1 27 99727 246 _, isAt_eq br_piece9]
  dsimp only [told]
  rw [show brRow 100000 4 1 99727 273 (brP 305 brT10 304) = told (brRow 100000 4 1 99700) (run 100000 4 1 27 273 (brP 305 brT10 304)) from brRow_run 100000 4 1 27 99700 273 _, isAt_eq br_piece10]
  dsimp only [told]
  rw [show brRow 100000 4 1 99700 300 (brP 336 brT11 335) = told (brRow 100000 4 1 99673) (run 100000 4 1 27 300 (brP 336 brT11 335)) from brRow_run 100000 4 1 27 99673 300 _, isAt_eq br_piece11]
  dsimp only [told]
  rw [show brRow 100000 4 1 99673 327 (brP 356 brT12 355) = told (brRow 100000 4 1 99646) (run 100000 4 1 27 327 (brP 356 brT12 355)) from brRow_run 100000 4 1 27 99646 327 _, isAt_eq br_piece12]
  dsimp only [told]
  rw [show brRow 100000 4 1 99646 354 (brP 389 brT13 388) = told (brRow 100000 4 1 99619) (run 100000 4 1 27 354 (brP 389 brT13 388)) from brRow_run 100000 4 1 27 99619 354 _, isAt_eq br_piece13]
  dsimp only [told]
  rw [show brRow 100000 4 1 99619 381 (brP 407 brT14 406) = told (brRow 100000 4 1 99592) (run 100000 4 1 27 381 (brP 407 brT14 406)) from brRow_run 100000 4 1 27 99592 381 _, isAt_eq br_piece14]
  dsimp only [told]
  rw [show brRow 100000 4 1 99592 408 (brP 436 brT15 435) = told (brRow 100000 4 1 99565) (run 100000 4 1 27 408 (brP 436 brT15 435)) from brRow_run 100000 4 1 27 99565 408 _, isAt_eq br_piece15]
  dsimp only [told]
  rw [show brRow 100000 4 1 99565 435 (brP 456 brT16 455) = told (brRow 100000 4 1 99538) (run 100000 4 1 27 435 (brP 456 brT16 455)) from brRow_run 100000 4 1 27 99538 435 _, isAt_eq br_piece16]
  dsimp only [told]
  rw [show brRow 100000 4 1 99538 462 (brP 478 brT17 477) = told (brRow 100000 4 1 99535) (run 100000 4 1 3 462 (brP 478 brT17 477)) from brRow_run 100000 4 1 3 99535 462 _, isAt_eq br_piece17]
  dsimp only [told]
  rw [show brRow 100000 4 1 99535 465 (brP 481 brT18 480) = told (brRow 100000 4 1 99534) (run 100000 4 1 1 465 (brP 481 brT18 480)) from brRow_run 100000 4 1 1 99534 465 _, isAt_eq br_piece18]
  dsimp only [told]
  rw [show brRow 100000 4 1 99534 466 (brP 482 brT19 481) = told (brRow 100000 4 1 99507) (run 100000 4 1 27 466 (brP 482 brT19 481)) from brRow_run 100000 4 1 27 99507 466 _, isAt_eq br_piece19]
  dsimp only [told]
  rw [show brRow 100000 4 1 99507 493 (brP 494 brT20 493) = told (brRow 100000 4 1 99503) (run 100000 4 1 4 493 (brP 494 brT20 493)) from brRow_run 100000 4 1 4 99503 493 _, isDone_eq br_piece20]
  rfl
end Go.Proofs.Ytgmnbpdfdagniaa.A
