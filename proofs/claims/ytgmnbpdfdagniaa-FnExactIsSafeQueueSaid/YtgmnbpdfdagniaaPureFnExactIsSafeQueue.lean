/- The pure side of FnExactIsSafeQueue: for each queue the program's IsSafeQueue and the reference's answer alike. No conditions. -/
import Derived.Test.YtgmnbpdfdagniaaAPureOfFnExactIsSafeQueue
import Derived.Test.YtgmnbpdfdagniaaQE9
import Derived.Test.YtgmnbpdfdagniaaQF9
namespace Go.Proofs.Ytgmnbpdfdagniaa.Pure
set_option linter.unusedVariables false
set_option linter.unusedSimpArgs false
open Go.RowKit Go.Proofs.Ytgmnbpdfdagniaa.A Go.Proofs.YtgmnbpdfdagniaaW.PrintWords Go.Proofs.YtgmnbpdfdagniaaW.PrintLast Go.Proofs.YtgmnbpdfdagniaaW.PrintMore
theorem valid_is (q0 q1 : Int) : impl_ValidQueue.f q0 q1 = some (validQ q0 q1) := by
  unfold impl_ValidQueue.f validQ
  by_cases h2 : q0 = 2
  · rw [if_pos h2, within_is', Option.bind_some]; simp [h2]
  · rw [if_neg h2]
    by_cases h4 : q0 = 4
    · rw [if_pos h4, within_is', Option.bind_some]; simp [h4]
    · rw [if_neg h4]; simp [h2, h4]
/-- Both searches tell the same. -/
theorem both (q0 q1 : Int) (h : validQ q0 q1 = true) : ∃ r : ByteArray × Bool, brF 100000 q0 q1 = some r ∧ qfF 100000 q0 q1 = some r := by
  have h := of_decide_eq_true h
  have h1 : q1 = 0 ∨ q1 = 1 := by omega
  rcases h.1 with rfl | rfl <;> rcases h1 with rfl | rfl
  · exact ⟨_, br20, qf20⟩
  · exact ⟨_, br21, qf21⟩
  · exact ⟨_, br40, qf40⟩
  · exact ⟨_, br41, qf41⟩
theorem FnExactIsSafeQueue : laws_FnExactIsSafeQueue.Pure := by
  intro x hw
  obtain ⟨FU, hFU⟩ : ∃ FU : Nat, FU = 100000 := ⟨_, rfl⟩
  refine ⟨FU, ?_⟩
  unfold laws_FnExactIsSafeQueue.f laws_toQueue.f
  simp only [Option.bind_some]
  unfold spec_IsSafeQueue.f impl_IsSafeQueue.f impl_queueFault.f
  have hle : 100000 ≤ FU := by omega
  rw [if_pos hle, if_pos hle, valid_is]
  simp only [Option.bind_some]
  cases hv : validQ x.f0 x.f1 with
  | false => simp
  | true =>
    obtain ⟨r, h1, h2⟩ := both _ _ hv
    rw [if_pos rfl, if_pos rfl, h1, h2]
    simp
end Go.Proofs.Ytgmnbpdfdagniaa.Pure
