/- Texts of this claim, put together by this session's pack2.py: each part is introduced by its own comment. No conditions. -/
import Derived.Test.YtgmnbpdfdagniaaA0
import Derived.Test.YtgmnbpdfdagniaaN3
-- Printed by this session's oprint.py through the kit's printer.
namespace Go.Proofs.Ytgmnbpdfdagniaa.A
open Go.RowKit Go.Proofs.YtgmnbpdfdagniaaW.PrintWords Go.Proofs.YtgmnbpdfdagniaaW.PrintLast Go.Proofs.YtgmnbpdfdagniaaW.PrintMore
attribute [local go_sem] max2_int min2_int max_two min_two max_three min_three max_four min_four   -- for this text's walks alone
set_option linter.unusedVariables false
set_option linter.unusedSimpArgs false

/-! ### spec_MostSteps: function 21 -/
-- given: proved by hand (spec_moststeps.tpl)
def spec_MostSteps.f (a0_0 : Int) (a0_1 : Int) (a0_2 : Int) (a0_3 : Int) (a1 : Int) : Option (Int × Bool) := some (if linkV (⟨a0_0, a0_1, a0_2, a0_3⟩ : Lnk) = true ∧ ratioV a1 = true ∧ (ansL (⟨a0_0, a0_1, a0_2, a0_3⟩ : Lnk) a1 true).2 = false then ansM (⟨a0_0, a0_1, a0_2, a0_3⟩ : Lnk) a1 else ((0 : Int), false))
theorem spec_MostSteps.calls (a0_0 : Int) (a0_1 : Int) (a0_2 : Int) (a0_3 : Int) (a1 : Int) (r1 : Int) (r2 : Bool) (w : World) (h : spec_MostSteps.f a0_0 a0_1 a0_2 a0_3 a1 = some (r1, r2)) :
    Calls Try.prog 21 #[.agg #[.int .i64 a0_0, .int .i64 a0_1, .int .i64 a0_2, .int .i64 a0_3], .int .i64 a1] w fun e w' => e = .returned (.tuple #[.int .i64 r1, .bool r2]) ∧ Below w.heap.size w w' := by
  unfold spec_MostSteps.f at h
  have h1 := Option.some.inj h
  have h2 : r1 = (if linkV (⟨a0_0, a0_1, a0_2, a0_3⟩ : Lnk) = true ∧ ratioV a1 = true ∧ (ansL (⟨a0_0, a0_1, a0_2, a0_3⟩ : Lnk) a1 true).2 = false then ansM (⟨a0_0, a0_1, a0_2, a0_3⟩ : Lnk) a1 else ((0 : Int), false)).1 := by rw [h1]
  have h3 : r2 = (if linkV (⟨a0_0, a0_1, a0_2, a0_3⟩ : Lnk) = true ∧ ratioV a1 = true ∧ (ansL (⟨a0_0, a0_1, a0_2, a0_3⟩ : Lnk) a1 true).2 = false then ansM (⟨a0_0, a0_1, a0_2, a0_3⟩ : Lnk) a1 else ((0 : Int), false)).2 := by rw [h1]
  rw [h2, h3]
  exact spec_most_ans (⟨a0_0, a0_1, a0_2, a0_3⟩ : Lnk) a1 w

end Go.Proofs.Ytgmnbpdfdagniaa.A
-- Printed by this session's oprint.py through the kit's printer.
namespace Go.Proofs.Ytgmnbpdfdagniaa.A
open Go.RowKit Go.Proofs.YtgmnbpdfdagniaaW.PrintWords Go.Proofs.YtgmnbpdfdagniaaW.PrintLast Go.Proofs.YtgmnbpdfdagniaaW.PrintMore
attribute [local go_sem] max2_int min2_int max_two min_two max_three min_three max_four min_four   -- for this text's walks alone
set_option linter.unusedVariables false
set_option linter.unusedSimpArgs false

/-! ### impl_MostSteps: function 22 -/
-- given: proved by hand (impl_moststeps.tpl)
def impl_MostSteps.f (a0_0 : Int) (a0_1 : Int) (a0_2 : Int) (a0_3 : Int) (a1 : Int) : Option (Int × Bool) := some (if linkV (⟨a0_0, a0_1, a0_2, a0_3⟩ : Lnk) = true ∧ ratioV a1 = true ∧ (ansL (⟨a0_0, a0_1, a0_2, a0_3⟩ : Lnk) a1 true).2 = false then ansM (⟨a0_0, a0_1, a0_2, a0_3⟩ : Lnk) a1 else ((0 : Int), false))
theorem impl_MostSteps.calls (a0_0 : Int) (a0_1 : Int) (a0_2 : Int) (a0_3 : Int) (a1 : Int) (r1 : Int) (r2 : Bool) (w : World) (h : impl_MostSteps.f a0_0 a0_1 a0_2 a0_3 a1 = some (r1, r2)) :
    Calls Try.prog 22 #[.agg #[.int .i64 a0_0, .int .i64 a0_1, .int .i64 a0_2, .int .i64 a0_3], .int .i64 a1] w fun e w' => e = .returned (.tuple #[.int .i64 r1, .bool r2]) ∧ Below w.heap.size w w' := by
  unfold impl_MostSteps.f at h
  have h1 := Option.some.inj h
  have h2 : r1 = (if linkV (⟨a0_0, a0_1, a0_2, a0_3⟩ : Lnk) = true ∧ ratioV a1 = true ∧ (ansL (⟨a0_0, a0_1, a0_2, a0_3⟩ : Lnk) a1 true).2 = false then ansM (⟨a0_0, a0_1, a0_2, a0_3⟩ : Lnk) a1 else ((0 : Int), false)).1 := by rw [h1]
  have h3 : r2 = (if linkV (⟨a0_0, a0_1, a0_2, a0_3⟩ : Lnk) = true ∧ ratioV a1 = true ∧ (ansL (⟨a0_0, a0_1, a0_2, a0_3⟩ : Lnk) a1 true).2 = false then ansM (⟨a0_0, a0_1, a0_2, a0_3⟩ : Lnk) a1 else ((0 : Int), false)).2 := by rw [h1]
  rw [h2, h3]
  exact impl_most_ans (⟨a0_0, a0_1, a0_2, a0_3⟩ : Lnk) a1 w

end Go.Proofs.Ytgmnbpdfdagniaa.A
