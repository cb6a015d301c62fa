/- The best ratio is at least as near as every fraction that was tried. No conditions. -/
import Derived.Test.YtmadpelampanfaaA8
namespace Go.Proofs.Ytmadpelampanfaa.Pure
set_option linter.unusedVariables false
set_option linter.unusedSimpArgs false
open Go.RowKit Go.Proofs.Ytmadpelampanfaa.A Go.Proofs.YtmadpelampanfaaW.PrintWords Go.Proofs.YtmadpelampanfaaW.PrintLast Go.Proofs.YtmadpelampanfaaW.PrintMore
/-- a / b is at most c / d. -/
theorem frac_trans {a b c d e f : Int} (hb : 0 < b) (hd : 0 < d) (hf : 0 < f) (h1 : a * d ≤ c * b) (h2 : c * f ≤ e * d) : a * f ≤ e * b := by
  have x1 : a * d * f ≤ c * b * f := Int.mul_le_mul_of_nonneg_right h1 (by omega)
  have x2 : c * f * b ≤ e * d * b := Int.mul_le_mul_of_nonneg_right h2 (by omega)
  have e1 : a * d * f = a * f * d := by rw [Int.mul_assoc, Int.mul_comm d f, ← Int.mul_assoc]
  have e2 : c * b * f = c * f * b := by rw [Int.mul_assoc, Int.mul_comm b f, ← Int.mul_assoc]
  have e3 : e * d * b = e * b * d := by rw [Int.mul_assoc, Int.mul_comm d b, ← Int.mul_assoc]
  exact Int.le_of_mul_le_mul_right (by omega : a * f * d ≤ e * b * d) hd
/-- The better one of two is at least as near as each. -/
theorem brStep_near (gn gd : Int) (b f : Int × Int) (hf : 0 < f.2) : missI gn gd (brStep gn gd b f).1 (brStep gn gd b f).2 * f.2 ≤ missI gn gd f.1 f.2 * (brStep gn gd b f).2 := by
  unfold brStep
  by_cases h : b.2 = 0 ∨ missI gn gd f.1 f.2 * b.2 < missI gn gd b.1 b.2 * f.2
  · rw [if_pos h]; exact Int.le_refl _
  · rw [if_neg h]
    have h2 : ¬ missI gn gd f.1 f.2 * b.2 < missI gn gd b.1 b.2 * f.2 := fun z => h (.inr z)
    omega
theorem brStep_old (gn gd : Int) (b f x : Int × Int) (hb : 0 < b.2) (hf : 0 < f.2) (hx : 0 < x.2) (h : missI gn gd b.1 b.2 * x.2 ≤ missI gn gd x.1 x.2 * b.2) :
    missI gn gd (brStep gn gd b f).1 (brStep gn gd b f).2 * x.2 ≤ missI gn gd x.1 x.2 * (brStep gn gd b f).2 := by
  unfold brStep
  by_cases h0 : b.2 = 0 ∨ missI gn gd f.1 f.2 * b.2 < missI gn gd b.1 b.2 * f.2
  · rw [if_pos h0]
    rcases h0 with h0 | h0
    · omega
    · exact frac_trans hf hb hx (Int.le_of_lt h0) h
  · rw [if_neg h0]; exact h
theorem brTo_den (gn gd : Int) : ∀ k : Nat, (brTo gn gd k).2 ≤ (k : Int) ∧ (1 ≤ k → 0 < (brTo gn gd k).2)
  | 0 => ⟨by show (0 : Int) ≤ 0; decide, fun h => absurd h (by decide)⟩
  | k + 1 => by
    have ih := brTo_den gn gd k
    have st : ∀ (b : Int × Int) (j : Int), 0 ≤ b.2 → b.2 ≤ (k : Int) + 1 → 0 < (brStep gn gd b (brCand gn gd ((k : Int) + 1) j)).2 ∧ (brStep gn gd b (brCand gn gd ((k : Int) + 1) j)).2 ≤ (k : Int) + 1 := by
      intro b j h0 h1
      unfold brStep
      have hc : (brCand gn gd ((k : Int) + 1) j).2 = (k : Int) + 1 := rfl
      split
      · rw [hc]; omega
      · rename_i h
        have : b.2 ≠ 0 := fun z => h (.inl z)
        omega
    have h0 : 0 ≤ (brTo gn gd k).2 := by
      cases k with
      | zero => show (0 : Int) ≤ 0; decide
      | succ k => exact Int.le_of_lt (ih.2 (by omega))
    have s1 := st (brTo gn gd k) 0 h0 (by omega)
    have s2 := st _ 1 (Int.le_of_lt s1.1) s1.2
    have e : brTo gn gd (k + 1) = brStep gn gd (brStep gn gd (brTo gn gd k) (brCand gn gd ((k : Int) + 1) 0)) (brCand gn gd ((k : Int) + 1) 1) := rfl
    rw [e]
    exact ⟨by omega, fun _ => s2.1⟩
/-- No fraction with a number below that is not too great is nearer. -/
theorem brTo_best (gn gd : Int) : ∀ (k d : Nat) (j : Int), 1 ≤ d → d ≤ k → (j = 0 ∨ j = 1) → missI gn gd (brTo gn gd k).1 (brTo gn gd k).2 * (d : Int) ≤ missI gn gd (gn * (d : Int) / gd + j) (d : Int) * (brTo gn gd k).2
  | 0, d, j, h1, h2, _ => by omega
  | k + 1, d, j, h1, h2, hj => by
    have e : brTo gn gd (k + 1) = brStep gn gd (brStep gn gd (brTo gn gd k) (brCand gn gd ((k : Int) + 1) 0)) (brCand gn gd ((k : Int) + 1) 1) := rfl
    have hp : 0 < (brCand gn gd ((k : Int) + 1) 0).2 := by show (0 : Int) < (k : Int) + 1; omega
    have hp1 : 0 < (brCand gn gd ((k : Int) + 1) 1).2 := by show (0 : Int) < (k : Int) + 1; omega
    have hm : 0 < (brStep gn gd (brTo gn gd k) (brCand gn gd ((k : Int) + 1) 0)).2 := by
      unfold brStep
      split
      · exact hp
      · rename_i h
        have hd := brTo_den gn gd k
        have : (brTo gn gd k).2 ≠ 0 := fun z => h (.inl z)
        cases k with
        | zero => exact absurd rfl this
        | succ k => exact hd.2 (by omega)
    by_cases c : d = k + 1
    · subst c
      rw [e]
      have hd : (((k + 1 : Nat) : Nat) : Int) = (k : Int) + 1 := by omega
      rw [hd]
      rcases hj with rfl | rfl
      · exact brStep_old gn gd _ _ (brCand gn gd ((k : Int) + 1) 0) hm hp1 hp (brStep_near gn gd _ _ hp)
      · exact brStep_near gn gd _ _ hp1
    · have ih := brTo_best gn gd k d j h1 (by omega) hj
      have hk : 0 < (brTo gn gd k).2 := (brTo_den gn gd k).2 (by omega)
      have hx : 0 < ((gn * (d : Int) / gd + j, (d : Int)) : Int × Int).2 := by show (0 : Int) < (d : Int); omega
      rw [e]
      exact brStep_old gn gd _ _ (gn * (d : Int) / gd + j, (d : Int)) hm hp1 hx (brStep_old gn gd _ _ (gn * (d : Int) / gd + j, (d : Int)) hk hp hx ih)
end Go.Proofs.Ytmadpelampanfaa.Pure
