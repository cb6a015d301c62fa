/- The pure side of FnExactPulseError: for all arguments the program's PulseError and the reference's answer alike. No conditions. -/
import Derived.Test.YtenlaanknlafdaaA6
import Derived.Test.YtenlaanknlafdaaFrac
namespace Go.Proofs.Ytenlaanknlafdaa.Pure
set_option linter.unusedVariables false
set_option linter.unusedSimpArgs false
open Go.RowKit Go.Proofs.Ytenlaanknlafdaa.A Go.Proofs.YtenlaanknlafdaaW.PrintWords Go.Proofs.YtenlaanknlafdaaW.PrintLast Go.Proofs.YtenlaanknlafdaaW.PrintMore
/-- A pulse's tick, as both reckon it. -/
theorem PulseError_tick (a b c : Int) (h1 : 1 ≤ b ∧ b ≤ 1000) (h2 : 1 ≤ a ∧ a ≤ b) (h3 : 0 ≤ c ∧ c ≤ 100000) : ∃ t : Int, spec_l03Tick.f a b 0 c = some t ∧ impl_pulseTick.f a b 0 c = some t ∧ -1 ≤ t ∧ t ≤ 200000000 := by
  have w1 : wrap64 (c + 1) = c + 1 := w64 (by omega) (by omega)
  have p0 : 0 ≤ (c + 1) * b := Int.mul_nonneg (by omega) (by omega)
  have p1 : (c + 1) * b ≤ 100001 * 1000 := Int.mul_le_mul (by omega) (by omega) (by omega) (by omega)
  obtain ⟨p, hp⟩ : ∃ p, (c + 1) * b = p := ⟨_, rfl⟩
  rw [hp] at p0 p1
  have w2 : wrap64 p = p := w64 (by omega) (by omega)
  have w3 : wrap64 (p + a) = p + a := w64 (by omega) (by omega)
  have w4 : wrap64 (p + a - 1) = p + a - 1 := w64 (by omega) (by omega)
  have hq : Int.tdiv (p + a - 1) a = (p + a - 1) / a := Int.tdiv_eq_ediv_of_nonneg (by omega)
  have q0 : 0 ≤ (p + a - 1) / a := Int.ediv_nonneg (by omega) (by omega)
  have q1 : (p + a - 1) / a ≤ p + a - 1 := Int.ediv_le_self _ (by omega)
  obtain ⟨q, hqq⟩ : ∃ q, (p + a - 1) / a = q := ⟨_, rfl⟩
  rw [hqq] at hq q0 q1
  have w5 : wrap64 q = q := w64 (by omega) (by omega)
  have w6 : wrap64 (q - 1) = q - 1 := w64 (by omega) (by omega)
  refine ⟨q - 1, ?_, ?_, by omega, by omega⟩
  · unfold spec_l03Tick.f spec_l03Up.f
    rw [if_neg (by omega), w1, hp, w2, Int.sub_zero, w2, w3, w4, hq, w5, Option.bind_some, w6]
  · unfold impl_pulseTick.f
    rw [if_neg (by omega), w1, hp, w2, Int.sub_zero, w2, w3, w4, hq, w5, w6]
theorem FnExactPulseError : laws_FnExactPulseError.Pure := by
  intro a b c _ _ _
  have fin : ∀ r : Int × Int × Bool, (laws_eqFraction.f r.1 r.2.1 r.1 r.2.1).bind (fun t210 => (if t210 = true then (if (r.2.2 != r.2.2) = true then (some false) else (some true)) else (some false))) = some true := by
    intro r
    rw [eqF_self]
    simp
  have hno : ¬ ((1 ≤ b ∧ b ≤ 1000) ∧ (1 ≤ a ∧ a ≤ b) ∧ (0 ≤ c ∧ c ≤ 100000)) → spec_PulseError.f 1 a b c = some (0, 0, false) ∧ impl_PulseError.f 1 a b c = some (0, 0, false) := by
    intro h
    unfold spec_PulseError.f impl_PulseError.f spec_l03Steps.f impl_isStep.f
    rw [in_is, in_is, in_is, within_is, within_is, within_is]
    by_cases h1 : 1 ≤ b ∧ b ≤ 1000
    · rw [decide_eq_true h1]
      by_cases h2 : 1 ≤ a ∧ a ≤ b
      · rw [decide_eq_true h2, decide_eq_false (fun h3 => h ⟨h1, h2, h3⟩)]; exact ⟨rfl, rfl⟩
      · rw [decide_eq_false h2]; exact ⟨rfl, rfl⟩
    · rw [decide_eq_false h1]; exact ⟨rfl, rfl⟩
  by_cases c1 : (1 ≤ b ∧ b ≤ 1000) ∧ (1 ≤ a ∧ a ≤ b) ∧ (0 ≤ c ∧ c ≤ 100000)
  · obtain ⟨g1, g2, g3⟩ := c1
    obtain ⟨t, t1, t2, t3, t4⟩ := PulseError_tick a b c g1 g2 g3
    have w1 : wrap64 (t + 1) = t + 1 := w64 (by omega) (by omega)
    have w2 : wrap64 (c + 1) = c + 1 := w64 (by omega) (by omega)
    have p0 : 0 ≤ (c + 1) * b := Int.mul_nonneg (by omega) (by omega)
    have p1 : (c + 1) * b ≤ 100001 * 1000 := Int.mul_le_mul (by omega) (by omega) (by omega) (by omega)
    have r0 : 0 ≤ (t + 1) * a := Int.mul_nonneg (by omega) (by omega)
    have r1 : (t + 1) * a ≤ 200000001 * 1000 := Int.mul_le_mul (by omega) (by omega) (by omega) (by omega)
    obtain ⟨p, hp⟩ : ∃ p, (c + 1) * b = p := ⟨_, rfl⟩
    obtain ⟨r, hr⟩ : ∃ r, (t + 1) * a = r := ⟨_, rfl⟩
    rw [hp] at p0 p1; rw [hr] at r0 r1
    have w3 : wrap64 p = p := w64 (by omega) (by omega)
    have w4 : wrap64 r = r := w64 (by omega) (by omega)
    have w5 : wrap64 (r - p) = r - p := w64 (by omega) (by omega)
    have k1 := make_small (r - p) a (by omega) (by omega) (by omega)
    obtain ⟨m1, h1⟩ := specFMake (r - p) a (by omega) (by omega) (by omega)
    have h1' := h1 0
    refine ⟨0 + m1 + 1, ?_⟩
    unfold laws_FnExactPulseError.f spec_PulseError.f impl_PulseError.f spec_l03Steps.f impl_isStep.f
    rw [in_is, in_is, in_is, within_is, within_is, within_is, decide_eq_true g1, decide_eq_true g2, decide_eq_true g3]
    simp only [Option.bind_some, if_pos, Bool.not_true, spec_PulseError.j0, impl_PulseError.j0, Bool.false_eq_true, if_false, t1, t2, w1, w2, hp, hr, w3, w4, w5, h1', k1]
    exact fin (numI (r - p) a, denI (r - p) a, true)
  · obtain ⟨h1, h2⟩ := hno c1
    refine ⟨1, ?_⟩
    unfold laws_FnExactPulseError.f
    rw [h1, h2]
    exact fin (0, 0, false)
end Go.Proofs.Ytenlaanknlafdaa.Pure
