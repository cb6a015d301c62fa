-- Printed by this session's oprint.py through the kit's printer.
import Derived.Test.YtgmnbpdfdagniaaZ23
import Derived.Test.YtgmnbpdfdagniaaZ30
namespace Go.Proofs.Ytgmnbpdfdagniaa.A
open Go.RowKit Go.Proofs.YtgmnbpdfdagniaaW.PrintWords Go.Proofs.YtgmnbpdfdagniaaW.PrintLast Go.Proofs.YtgmnbpdfdagniaaW.PrintMore
attribute [local go_sem] max2_int min2_int max_two min_two max_three min_three max_four min_four   -- for this text's walks alone
set_option linter.unusedVariables false
set_option linter.unusedSimpArgs false

/-! ### spec_FewestSteps: function 19 -/
-- given: proved by hand (spec_feweststeps.tpl)
def spec_FewestSteps.f (a0_0 : Int) (a0_1 : Int) (a0_2 : Int) (a0_3 : Int) (a1 : Int) : Option (ByteArray × Bool) := some (if (linkV (⟨a0_0, a0_1, a0_2, a0_3⟩ : Lnk) && (ratioV a1 && !(ansL (⟨a0_0, a0_1, a0_2, a0_3⟩ : Lnk) a1 true).2)) = true then ansL (⟨a0_0, a0_1, a0_2, a0_3⟩ : Lnk) a1 false else (ByteArray.empty, false))
theorem spec_FewestSteps.calls (a0_0 : Int) (a0_1 : Int) (a0_2 : Int) (a0_3 : Int) (a1 : Int) (r1 : ByteArray) (r2 : Bool) (w : World) (h : spec_FewestSteps.f a0_0 a0_1 a0_2 a0_3 a1 = some (r1, r2)) :
    Calls Try.prog 19 #[.agg #[.int .i64 a0_0, .int .i64 a0_1, .int .i64 a0_2, .int .i64 a0_3], .int .i64 a1] w fun e w' => e = .returned (.tuple #[.string r1, .bool r2]) ∧ Below w.heap.size w w' := by
  unfold spec_FewestSteps.f at h
  have h1 := Option.some.inj h
  have h2 : r1 = (if (linkV (⟨a0_0, a0_1, a0_2, a0_3⟩ : Lnk) && (ratioV a1 && !(ansL (⟨a0_0, a0_1, a0_2, a0_3⟩ : Lnk) a1 true).2)) = true then ansL (⟨a0_0, a0_1, a0_2, a0_3⟩ : Lnk) a1 false else (ByteArray.empty, false)).1 := by rw [h1]
  have h3 : r2 = (if (linkV (⟨a0_0, a0_1, a0_2, a0_3⟩ : Lnk) && (ratioV a1 && !(ansL (⟨a0_0, a0_1, a0_2, a0_3⟩ : Lnk) a1 true).2)) = true then ansL (⟨a0_0, a0_1, a0_2, a0_3⟩ : Lnk) a1 false else (ByteArray.empty, false)).2 := by rw [h1]
  rw [h2, h3]
  exact spec_fewest_ans (⟨a0_0, a0_1, a0_2, a0_3⟩ : Lnk) a1 w

end Go.Proofs.Ytgmnbpdfdagniaa.A
