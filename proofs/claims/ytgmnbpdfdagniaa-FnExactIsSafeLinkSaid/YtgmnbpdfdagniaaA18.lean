-- Printed by this session's oprint.py through the kit's printer.
import Derived.Test.YtgmnbpdfdagniaaZ23
import Derived.Test.YtgmnbpdfdagniaaZ30
namespace Go.Proofs.Ytgmnbpdfdagniaa.A
open Go.RowKit Go.Proofs.YtgmnbpdfdagniaaW.PrintWords Go.Proofs.YtgmnbpdfdagniaaW.PrintLast Go.Proofs.YtgmnbpdfdagniaaW.PrintMore
attribute [local go_sem] max2_int min2_int max_two min_two max_three min_three max_four min_four   -- for this text's walks alone
set_option linter.unusedVariables false
set_option linter.unusedSimpArgs false

/-! ### impl_IsSafeLink: function 18 -/
-- given: proved by hand (impl_issafelink.tpl)
def impl_IsSafeLink.f (a0_0 : Int) (a0_1 : Int) (a0_2 : Int) (a0_3 : Int) (a1 : Int) : Option (Bool) := some (linkV (⟨a0_0, a0_1, a0_2, a0_3⟩ : Lnk) && (ratioV a1 && !(ansL (⟨a0_0, a0_1, a0_2, a0_3⟩ : Lnk) a1 true).2))
theorem impl_IsSafeLink.calls (a0_0 : Int) (a0_1 : Int) (a0_2 : Int) (a0_3 : Int) (a1 : Int) (r : Bool) (w : World) (h : impl_IsSafeLink.f a0_0 a0_1 a0_2 a0_3 a1 = some r) :
    Calls Try.prog 18 #[.agg #[.int .i64 a0_0, .int .i64 a0_1, .int .i64 a0_2, .int .i64 a0_3], .int .i64 a1] w fun e w' => e = .returned (.bool r) ∧ Below w.heap.size w w' := by
  unfold impl_IsSafeLink.f at h
  have h1 := Option.some.inj h
  rw [← h1]
  exact impl_safe_ans (⟨a0_0, a0_1, a0_2, a0_3⟩ : Lnk) a1 w

end Go.Proofs.Ytgmnbpdfdagniaa.A
