/- The pure side of FnExactCountBounds: for all arguments the program's CountBounds and the reference's answer alike. No conditions. -/
import Derived.Test.YtenlaanknlafdaaA4
import Derived.Test.YtenlaanknlafdaaFrac
namespace Go.Proofs.Ytenlaanknlafdaa.Pure
set_option linter.unusedVariables false
set_option linter.unusedSimpArgs false
open Go.RowKit Go.Proofs.Ytenlaanknlafdaa.A Go.Proofs.YtenlaanknlafdaaW.PrintWords Go.Proofs.YtenlaanknlafdaaW.PrintLast Go.Proofs.YtenlaanknlafdaaW.PrintMore
theorem FnExactCountBounds : laws_FnExactCountBounds.Pure := by
  intro a b _ _
  have fin : ∀ x0 x1 y0 y1 : Int, ∀ z : Bool, (laws_eqFraction.f x0 x1 x0 x1).bind (fun t245 => (if t245 = true then ((laws_eqFraction.f y0 y1 y0 y1).bind fun t246 => (if t246 = true then (if (z != z) = true then (some false) else (some true)) else (some false))) else (some false))) = some true := by
    intro x0 x1 y0 y1 z
    rw [eqF_self, eqF_self]
    simp
  have hno : (¬ (2 ≤ a ∧ a ≤ 400) ∨ ¬ (1 ≤ b ∧ b ≤ 400)) → spec_CountBounds.f 1 a b = some (0, 0, 0, 0, false) ∧ impl_CountBounds.f 1 a b = some (0, 0, 0, 0, false) := by
    intro h
    unfold spec_CountBounds.f impl_CountBounds.f
    rw [in_is, in_is, within_is, within_is]
    rcases h with h | h
    · rw [decide_eq_false h]; exact ⟨rfl, rfl⟩
    · rw [decide_eq_false h]
      by_cases h2 : 2 ≤ a ∧ a ≤ 400
      · rw [decide_eq_true h2]; exact ⟨rfl, rfl⟩
      · rw [decide_eq_false h2]; exact ⟨rfl, rfl⟩
  by_cases c1 : 2 ≤ a ∧ a ≤ 400
  · by_cases c2 : 1 ≤ b ∧ b ≤ 400
    · obtain ⟨m1, h1⟩ := specFMake b (a + 1) (by omega) (by omega) (by omega)
      obtain ⟨m2, h2⟩ := specFMake b (a - 1) (by omega) (by omega) (by omega)
      have w1 : wrap64 (a + 1) = a + 1 := w64 (by omega) (by omega)
      have w2 : wrap64 (a - 1) = a - 1 := w64 (by omega) (by omega)
      have k1 := make_small b (a + 1) (by omega) (by omega) (by omega)
      have k2 := make_small b (a - 1) (by omega) (by omega) (by omega)
      have h1' := h1 m2
      have h2' := h2 m1
      rw [Nat.add_comm m2 m1] at h1'
      refine ⟨m1 + m2 + 1, ?_⟩
      unfold laws_FnExactCountBounds.f spec_CountBounds.f impl_CountBounds.f
      rw [in_is, in_is, within_is, within_is, decide_eq_true c1, decide_eq_true c2]
      simp only [Option.bind_some, if_pos, Bool.not_true, spec_CountBounds.j0, impl_CountBounds.j0, Bool.false_eq_true, if_false, w1, w2, h1', h2', k1, k2]
      exact fin _ _ _ _ true
    · obtain ⟨h1, h2⟩ := hno (Or.inr c2)
      refine ⟨1, ?_⟩
      unfold laws_FnExactCountBounds.f
      rw [h1, h2]
      exact fin 0 0 0 0 false
  · obtain ⟨h1, h2⟩ := hno (Or.inl c1)
    refine ⟨1, ?_⟩
    unfold laws_FnExactCountBounds.f
    rw [h1, h2]
    exact fin 0 0 0 0 false
end Go.Proofs.Ytenlaanknlafdaa.Pure
