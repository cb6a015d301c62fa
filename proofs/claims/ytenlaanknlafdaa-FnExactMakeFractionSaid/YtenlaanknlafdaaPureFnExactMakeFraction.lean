/- The pure side of FnExactMakeFraction: for all arguments the program's MakeFraction and the reference's answer alike. No conditions. -/
import Derived.Test.YtenlaanknlafdaaA3
import Derived.Test.YtenlaanknlafdaaFrac
namespace Go.Proofs.Ytenlaanknlafdaa.Pure
set_option linter.unusedVariables false
set_option linter.unusedSimpArgs false
open Go.RowKit Go.Proofs.Ytenlaanknlafdaa.A Go.Proofs.YtenlaanknlafdaaW.PrintWords Go.Proofs.YtenlaanknlafdaaW.PrintLast Go.Proofs.YtenlaanknlafdaaW.PrintMore
theorem FnExactMakeFraction : laws_FnExactMakeFraction.Pure := by
  intro a b _ _
  have fin : ∀ r : Int × Int × Bool, (laws_eqFraction.f r.1 r.2.1 r.1 r.2.1).bind (fun t210 => (if t210 = true then (if (r.2.2 != r.2.2) = true then (some false) else (some true)) else (some false))) = some true := by
    intro r
    rw [eqF_self]
    simp
  by_cases c0 : b = 0
  · refine ⟨0, ?_⟩
    unfold laws_FnExactMakeFraction.f spec_MakeFraction.f impl_MakeFraction.f
    rw [if_pos c0, if_neg (fun h => h.1 c0)]
    exact fin (0, 0, false)
  · by_cases c1 : -1000000000000000000 ≤ a ∧ a ≤ 1000000000000000000
    · by_cases c2 : -1000000000000000000 ≤ b ∧ b ≤ 1000000000000000000
      · obtain ⟨m, hm⟩ := specFMake a b c0 (by omega) (by omega)
        refine ⟨0 + m, ?_⟩
        unfold laws_FnExactMakeFraction.f spec_MakeFraction.f
        rw [if_neg c0, in_is, in_is, decide_eq_true c1, decide_eq_true c2, make_small a b c0 (by omega) (by omega)]
        simp only [Option.bind_some, if_pos]
        rw [hm 0]
        exact fin (numI a b, denI a b, true)
      · refine ⟨0, ?_⟩
        unfold laws_FnExactMakeFraction.f spec_MakeFraction.f impl_MakeFraction.f isPart
        rw [if_neg c0, in_is, in_is, decide_eq_true c1, decide_eq_false c2, if_neg (fun h => absurd h.2.2 (by decide))]
        exact fin (0, 0, false)
    · refine ⟨0, ?_⟩
      unfold laws_FnExactMakeFraction.f spec_MakeFraction.f impl_MakeFraction.f isPart
      rw [if_neg c0, in_is, decide_eq_false c1, if_neg (fun h => absurd h.2.1 (by decide))]
      exact fin (0, 0, false)
end Go.Proofs.Ytenlaanknlafdaa.Pure
