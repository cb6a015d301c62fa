/- The pure side of FnExactSpanBounds: for all arguments the program's SpanBounds and the reference's answer alike. No conditions. -/
import Derived.Test.YtenlaanknlafdaaA5
import Derived.Test.YtenlaanknlafdaaFrac
namespace Go.Proofs.Ytenlaanknlafdaa.Pure
set_option linter.unusedVariables false
set_option linter.unusedSimpArgs false
open Go.RowKit Go.Proofs.Ytenlaanknlafdaa.A Go.Proofs.YtenlaanknlafdaaW.PrintWords Go.Proofs.YtenlaanknlafdaaW.PrintLast Go.Proofs.YtenlaanknlafdaaW.PrintMore
theorem FnExactSpanBounds : laws_FnExactSpanBounds.Pure := by
  intro a b c _ _ _
  have fin : ∀ x0 x1 y0 y1 : Int, ∀ z : Bool, (laws_eqFraction.f x0 x1 x0 x1).bind (fun t245 => (if t245 = true then ((laws_eqFraction.f y0 y1 y0 y1).bind fun t246 => (if t246 = true then (if (z != z) = true then (some false) else (some true)) else (some false))) else (some false))) = some true := by
    intro x0 x1 y0 y1 z
    rw [eqF_self, eqF_self]
    simp
  have hno : (¬ (1 ≤ b ∧ b ≤ 400) ∨ ¬ (0 ≤ a ∧ a ≤ wrap64 (b - 1)) ∨ ¬ (2 ≤ c ∧ c ≤ 400)) → spec_SpanBounds.f 1 a b c = some (0, 0, 0, 0, false) ∧ impl_SpanBounds.f 1 a b c = some (0, 0, 0, 0, false) := by
    intro h
    unfold spec_SpanBounds.f impl_SpanBounds.f
    rw [in_is, in_is, in_is, within_is, within_is, within_is]
    by_cases h1 : 1 ≤ b ∧ b ≤ 400
    · rw [decide_eq_true h1]
      by_cases h2 : 0 ≤ a ∧ a ≤ wrap64 (b - 1)
      · rw [decide_eq_true h2]
        by_cases h3 : 2 ≤ c ∧ c ≤ 400
        · rcases h with h | h | h
          · exact absurd h1 h
          · exact absurd h2 h
          · exact absurd h3 h
        · rw [decide_eq_false h3]; exact ⟨rfl, rfl⟩
      · rw [decide_eq_false h2]; exact ⟨rfl, rfl⟩
    · rw [decide_eq_false h1]; exact ⟨rfl, rfl⟩
  by_cases c1 : (1 ≤ b ∧ b ≤ 400) ∧ (0 ≤ a ∧ a ≤ wrap64 (b - 1)) ∧ (2 ≤ c ∧ c ≤ 400)
  · obtain ⟨g1, g2, g3⟩ := c1
    have w0 : wrap64 (b - 1) = b - 1 := w64 (by omega) (by omega)
    rw [w0] at g2
    have w1 : wrap64 (b - a) = b - a := w64 (by omega) (by omega)
    have w2 : wrap64 (b - a - 1) = b - a - 1 := w64 (by omega) (by omega)
    have w3 : wrap64 (b - a + 1) = b - a + 1 := w64 (by omega) (by omega)
    have w4 : wrap64 (c - 1) = c - 1 := w64 (by omega) (by omega)
    have k1 := make_small (b - a - 1) (c - 1) (by omega) (by omega) (by omega)
    have k2 := make_small (b - a + 1) (c - 1) (by omega) (by omega) (by omega)
    obtain ⟨m1, h1⟩ := specFMake (b - a - 1) (c - 1) (by omega) (by omega) (by omega)
    obtain ⟨m2, h2⟩ := specFMake (b - a + 1) (c - 1) (by omega) (by omega) (by omega)
    have h1' := h1 m2
    have h2' := h2 m1
    rw [Nat.add_comm m2 m1] at h1'
    refine ⟨m1 + m2 + 1, ?_⟩
    unfold laws_FnExactSpanBounds.f spec_SpanBounds.f impl_SpanBounds.f
    rw [in_is, in_is, in_is, within_is, within_is, within_is, w0, decide_eq_true g1, decide_eq_true g2, decide_eq_true g3]
    simp only [Option.bind_some, if_pos, Bool.not_true, spec_SpanBounds.j0, impl_SpanBounds.j0, Bool.false_eq_true, if_false, w1, w2, w3, w4, h1', h2', k1, k2]
    exact fin _ _ _ _ true
  · obtain ⟨h1, h2⟩ := hno (by
      by_cases h1 : 1 ≤ b ∧ b ≤ 400
      · by_cases h2 : 0 ≤ a ∧ a ≤ wrap64 (b - 1)
        · exact Or.inr (Or.inr (fun h3 => c1 ⟨h1, h2, h3⟩))
        · exact Or.inr (Or.inl h2)
      · exact Or.inl h1)
    refine ⟨1, ?_⟩
    unfold laws_FnExactSpanBounds.f
    rw [h1, h2]
    exact fin 0 0 0 0 false
end Go.Proofs.Ytenlaanknlafdaa.Pure
