/- The pure side of FnExactFirstMeeting: for all arguments the program's FirstMeeting and the reference's answer alike. No conditions. -/
import Derived.Test.YtfoedfigjcmjbaaAPureOfFnExactFirstMeeting
import Derived.Test.YtfoedfigjcmjbaaFirstMeet
namespace Go.Proofs.Ytfoedfigjcmjbaa.Pure
set_option linter.unusedVariables false
set_option linter.unusedSimpArgs false
open Go.RowKit Go.Proofs.Ytfoedfigjcmjbaa.A Go.Proofs.Ytfoedfigjcmjbaa.L Go.Proofs.YtfoedfigjcmjbaaW.PrintWords Go.Proofs.YtfoedfigjcmjbaaW.PrintLast Go.Proofs.YtfoedfigjcmjbaaW.PrintMore
open FirstMeet
theorem FnExactFirstMeeting : laws_FnExactFirstMeeting.Pure := by
  intro l hw
  obtain ⟨r, hr, h⟩ := sz_eq l hw.1
  refine ⟨20000000000001, ?_⟩
  unfold laws_FnExactFirstMeeting.f
  rw [hr]; simp only [Option.bind_some]
  by_cases hn : r < 0
  · rw [if_pos hn]
  · have hl : l.length ≤ 1048576 := by omega
    rw [if_neg hn, conv_eq l hl 20000000000001 (by omega)]; simp only [Option.bind_some]
    obtain ⟨x, hx1, hx2⟩ := both (l.map conv) (by simp; omega) 20000000000001 (by omega)
    rw [hx1, hx2]; simp only [Option.bind_some, if_true]
    simp only [laws_FnExactFirstMeeting.j0]
    rw [if_neg (by simp), conv_eq l hl 20000000000000 (by omega)]; simp only [Option.bind_some]
    rw [eqc_self _ (by simp; omega) 20000000000000 (by simp; omega)]; simp
end Go.Proofs.Ytfoedfigjcmjbaa.Pure
