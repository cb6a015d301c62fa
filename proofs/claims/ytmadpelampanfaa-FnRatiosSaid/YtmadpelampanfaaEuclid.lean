/- The numbers of a continued fraction, by Euclid, and back. No conditions. -/
import Derived.Test.YtmadpelampanfaaA9
namespace Go.Proofs.Ytmadpelampanfaa.Pure
set_option linter.unusedVariables false
set_option linter.unusedSimpArgs false
open Go.RowKit Go.Proofs.Ytmadpelampanfaa.A Go.Proofs.YtmadpelampanfaaW.PrintWords Go.Proofs.YtmadpelampanfaaW.PrintLast Go.Proofs.YtmadpelampanfaaW.PrintMore
def cfl (n d : Nat) : List Nat := if _h : d = 0 then [] else (n / d) :: cfl d (n % d)
termination_by d
decreasing_by exact Nat.mod_lt _ (by omega)
def back (l : List Nat) : Nat × Nat := l.foldr (fun q ab => (q * ab.1 + ab.2, ab.1)) (1, 0)
theorem back_cfl (d : Nat) : ∀ n, 0 < Nat.gcd n d → (back (cfl n d)).1 * Nat.gcd n d = n ∧ (back (cfl n d)).2 * Nat.gcd n d = d := by
  induction d using Nat.strongRecOn with
  | _ d ih =>
    intro n hg
    unfold cfl
    by_cases h : d = 0
    · subst h
      rw [dif_pos rfl]
      simp [back]
    · rw [dif_neg h]
      have e : Nat.gcd n d = Nat.gcd d (n % d) := by rw [Nat.gcd_comm n d, Nat.gcd_rec d n, Nat.gcd_comm]
      rw [e] at hg ⊢
      obtain ⟨h1, h2⟩ := ih (n % d) (Nat.mod_lt _ (by omega)) d hg
      have hb : back ((n / d) :: cfl d (n % d)) = ((n / d) * (back (cfl d (n % d))).1 + (back (cfl d (n % d))).2, (back (cfl d (n % d))).1) := rfl
      rw [hb]
      refine ⟨?_, h1⟩
      show ((n / d) * (back (cfl d (n % d))).1 + (back (cfl d (n % d))).2) * Nat.gcd d (n % d) = n
      rw [Nat.add_mul, Nat.mul_assoc, h1, h2, Nat.mul_comm]
      exact Nat.div_add_mod n d
theorem cfl_pos (d : Nat) : ∀ n, n < d → ∀ q ∈ (cfl d n), 1 ≤ q := by
  intro n
  induction n using Nat.strongRecOn generalizing d with
  | _ n ih =>
    intro hn q hq
    unfold cfl at hq
    by_cases h : n = 0
    · rw [dif_pos h] at hq; simp at hq
    · rw [dif_neg h] at hq
      simp only [List.mem_cons] at hq
      rcases hq with rfl | hq
      · exact (Nat.one_le_div_iff (by omega)).2 (Nat.le_of_lt hn)
      · exact ih (d % n) (Nat.mod_lt _ (by omega)) n (Nat.mod_lt _ (by omega)) q hq
theorem cfl_le (d : Nat) : ∀ n, ∀ q ∈ (cfl n d), q ≤ max n d := by
  induction d using Nat.strongRecOn with
  | _ d ih =>
    intro n q hq
    unfold cfl at hq
    by_cases h : d = 0
    · rw [dif_pos h] at hq; simp at hq
    · rw [dif_neg h] at hq
      simp only [List.mem_cons] at hq
      have h1 := Nat.div_le_self n d
      rcases hq with rfl | hq
      · omega
      · have h2 := ih (n % d) (Nat.mod_lt _ (by omega)) d q hq
        have h3 := Nat.mod_lt n (show 0 < d by omega)
        omega
theorem w64' {x : Int} (h0 : -9223372036854775808 ≤ x) (h1 : x < 9223372036854775808) : wrap64 x = x := by unfold wrap64; omega
theorem ev_steps (d : Nat) : ∀ (n : Nat) (acc : List Int), n ≤ 1000000000 → d ≤ 1000000000 → acc.length + d ≤ 2000000000 → Ev (fun k => impl_RatioSteps.l0 k acc (n : Int) (d : Int)) (acc ++ (cfl n d).map (fun q : Nat => (q : Int)), true) := by
  induction d using Nat.strongRecOn with
  | _ d ih =>
    intro n acc hn hd ha
    unfold cfl
    by_cases h : d = 0
    · rw [dif_pos h, List.map_nil, List.append_nil]
      refine Ev.step (f := fun _ => some (acc, true)) (fun k => ?_) (Ev.now _)
      simp only [impl_RatioSteps.l0]
      rw [if_neg (by omega)]
    · rw [dif_neg h, List.map_cons]
      have hm := Nat.mod_lt n (show 0 < d by omega)
      have hq := Nat.div_le_self n d
      have i := ih (n % d) hm d (acc ++ [((n / d : Nat) : Int)]) hd (by omega) (by simp; omega)
      rw [List.append_assoc, List.singleton_append] at i
      obtain ⟨Q, hQ⟩ : ∃ Q, n / d = Q := ⟨_, rfl⟩
      rw [hQ] at hq i ⊢
      have hQi : (n : Int) / (d : Int) = (Q : Int) := by rw [← hQ]; rfl
      clear hQ
      refine Ev.step (f := fun k => impl_RatioSteps.l0 k (acc ++ [(Q : Int)]) (d : Int) ((n % d : Nat) : Int)) (fun k => ?_) i
      simp only [impl_RatioSteps.l0]
      rw [if_pos (by omega), if_neg (by omega), if_pos (by omega), Int.tdiv_eq_ediv_of_nonneg (by omega), Int.tmod_eq_emod_of_nonneg (by omega), hQi, show (n : Int) % (d : Int) = ((n % d : Nat) : Int) from rfl, w64' (by omega) (by omega)]
end Go.Proofs.Ytmadpelampanfaa.Pure
