/- The pure side of FnExactCommonPeriod: for all arguments the program's CommonPeriod and the reference's answer alike. No conditions. -/
import Derived.Test.YtfoedfigjcmjbaaAPureOfFnExactCommonPeriod
import Derived.Test.YtfoedfigjcmjbaaClocks
namespace Go.Proofs.Ytfoedfigjcmjbaa.Pure
set_option linter.unusedVariables false
set_option linter.unusedSimpArgs false
open Go.RowKit Go.Proofs.Ytfoedfigjcmjbaa.A Go.Proofs.Ytfoedfigjcmjbaa.L Go.Proofs.YtfoedfigjcmjbaaW.PrintWords Go.Proofs.YtfoedfigjcmjbaaW.PrintLast Go.Proofs.YtfoedfigjcmjbaaW.PrintMore
namespace CommonPeriod_
theorem ok_bd {c : IC} (h : impl_areClocks.ok c = true) : 1 ≤ c.f0 ∧ c.f0 ≤ 100000 ∧ 0 ≤ c.f1 ∧ c.f1 ≤ 100000 := by
  unfold impl_areClocks.ok at h
  have := of_decide_eq_true h
  exact ⟨this.1.1, this.1.2, this.2.1, this.2.2⟩
/-- The least common multiple, as far as both tell it. -/
def com : List IC → Nat → Int × Bool
  | [], m => ((m : Int), true)
  | c :: l, m => if ((m / Nat.gcd m c.f0.toNat * c.f0.toNat : Nat) : Int) > 1000000000000 then (0, false) else com l (m / Nat.gcd m c.f0.toNat * c.f0.toNat)
theorem part (m P : Nat) (hm : 1 ≤ m) (hm' : m ≤ 1000000000000) (hP : 1 ≤ P) (hP' : P ≤ 100000) : 1 ≤ Nat.gcd m P ∧ m / Nat.gcd m P ≤ m ∧ 1 ≤ m / Nat.gcd m P ∧ m / Nat.gcd m P * P ≤ 1000000000000 * 100000 ∧ 1 ≤ m / Nat.gcd m P * P := by
  have g0 : 0 < Nat.gcd m P := Nat.gcd_pos_of_pos_left _ (by omega)
  have g1 : Nat.gcd m P ≤ m := Nat.le_of_dvd (by omega) (Nat.gcd_dvd_left _ _)
  have q0 : m / Nat.gcd m P ≤ m := Nat.div_le_self _ _
  have q1 : 0 < m / Nat.gcd m P := Nat.div_pos g1 g0
  exact ⟨g0, q0, q1, Nat.mul_le_mul (by omega) hP', Nat.mul_pos q1 (by omega)⟩
theorem tdiv_cast (a b : Nat) : Int.tdiv (a : Int) (b : Int) = ((a / b : Nat) : Int) := by
  rw [Int.tdiv_eq_ediv_of_nonneg (by omega)]; exact (Int.natCast_ediv a b).symm
theorem spec_loop : ∀ (l p : List IC) (k m : Nat) (i : Int), i = p.length → (p ++ l).length ≤ 6 → l.all impl_areClocks.ok = true → 1 ≤ m → m ≤ 1000000000000 → 200000 + l.length < k → spec_l10Common.l0 k (p ++ l) (m : Int) i = some (com l m)
  | [], p, k, m, i, hi, hl, _, h1, h2, hk => by
    obtain ⟨k, rfl⟩ : ∃ m, k = m + 1 := ⟨k - 1, by omega⟩
    simp only [spec_l10Common.l0]; rw [if_neg (by simp [hi])]; rfl
  | c :: l, p, k, m, i, hi, hl, ho, h1, h2, hk => by
    obtain ⟨k, rfl⟩ : ∃ m, k = m + 1 := ⟨k - 1, by omega⟩
    simp only [List.length_append, List.length_cons] at hl hk
    simp only [List.all_cons, Bool.and_eq_true] at ho
    obtain ⟨b0, b1, _⟩ := ok_bd ho.1
    obtain ⟨P, hP⟩ := Int.eq_ofNat_of_zero_le (show 0 ≤ c.f0 by omega)
    obtain ⟨g0, g1, g2, g3, g4⟩ := part m P h1 h2 (by omega) (by omega)
    simp only [spec_l10Common.l0]
    rw [if_pos (by simp [hi]; omega), if_pos (by omega), rdi p c l i hi, hP]
    unfold spec_l01Gcd.f
    rw [spec_gcd_loop P m k (by omega)]; simp only [Option.bind_some]
    rw [if_neg (by omega), tdiv_cast, w64 (x := ((m / Nat.gcd m P : Nat) : Int)) (by omega) (by omega), ← Int.natCast_mul, w64 (by omega) (by omega), w64 (x := i + 1) (by omega) (by omega)]
    have e : com (c :: l) m = if ((m / Nat.gcd m P * P : Nat) : Int) > 1000000000000 then (0, false) else com l (m / Nat.gcd m P * P) := by simp only [com, hP, Int.toNat_natCast]
    rw [e]
    split
    · rfl
    · have h := spec_loop l (p ++ [c]) k (m / Nat.gcd m P * P) (i + 1) (by simp [hi]) (by simp; omega) ho.2 g4 (by omega) (by omega)
      simpa using h
theorem impl_loop : ∀ (l p : List IC) (k m : Nat) (i : Int), i = p.length → (p ++ l).length ≤ 6 → l.all impl_areClocks.ok = true → 1 ≤ m → m ≤ 1000000000000 → 200000 + l.length < k → impl_CommonPeriod.l0 k (m : Int) (p ++ l) (((p ++ l).length : Nat) : Int) i = some (com l m)
  | [], p, k, m, i, hi, hl, _, h1, h2, hk => by
    obtain ⟨k, rfl⟩ : ∃ m, k = m + 1 := ⟨k - 1, by omega⟩
    simp only [impl_CommonPeriod.l0]; rw [if_neg (by simp [hi])]; rfl
  | c :: l, p, k, m, i, hi, hl, ho, h1, h2, hk => by
    obtain ⟨k, rfl⟩ : ∃ m, k = m + 1 := ⟨k - 1, by omega⟩
    simp only [List.length_append, List.length_cons] at hl hk
    simp only [List.all_cons, Bool.and_eq_true] at ho
    obtain ⟨b0, b1, _⟩ := ok_bd ho.1
    obtain ⟨P, hP⟩ := Int.eq_ofNat_of_zero_le (show 0 ≤ c.f0 by omega)
    obtain ⟨g0, g1, g2, g3, g4⟩ := part m P h1 h2 (by omega) (by omega)
    have q : (10000000000000 : Int) ≤ 1000000000000000000 / (P : Int) := by
      rw [Int.le_ediv_iff_mul_le (by omega)]; omega
    have q' : 1000000000000000000 / (P : Int) ≤ 1000000000000000000 := Int.ediv_le_self _ (by omega)
    simp only [impl_CommonPeriod.l0]
    rw [if_pos (by simp [hi]; omega), if_pos (by omega), if_pos (by simp [hi]; omega), rdi p c l i hi, hP]
    unfold impl_lcm.f impl_gcd.f
    rw [impl_gcd_loop P m k (by omega) (by omega) (by omega)]; simp only [Option.bind_some]
    rw [if_neg (by omega), if_neg (by omega), tdiv_cast, Int.tdiv_eq_ediv_of_nonneg (by omega), w64 (x := ((m / Nat.gcd m P : Nat) : Int)) (by omega) (by omega), w64 (x := 1000000000000000000 / (P : Int)) (by omega) (by omega), if_neg (by omega), ← Int.natCast_mul, w64 (by omega) (by omega), w64 (x := i + 1) (by omega) (by omega)]
    simp only [Option.bind_some, if_true]
    have e : com (c :: l) m = if ((m / Nat.gcd m P * P : Nat) : Int) > 1000000000000 then (0, false) else com l (m / Nat.gcd m P * P) := by simp only [com, hP, Int.toNat_natCast]
    rw [e]
    split
    · rfl
    · have h := impl_loop l (p ++ [c]) k (m / Nat.gcd m P * P) (i + 1) (by simp [hi]) (by simp; omega) ho.2 g4 (by omega) (by omega)
      simpa using h
theorem spec_eq (l : List IC) (hl : l.length ≤ 2000000) (k : Nat) (hk : 300000 ≤ k) : spec_CommonPeriod.f k l = some (if all l = true then com l 1 else (0, false)) := by
  unfold spec_CommonPeriod.f
  rw [all_eq l hl k (by omega)]; simp only [Option.bind_some]
  cases h : all l with
  | false => simp
  | true =>
    simp only [if_true]
    have h' := h
    unfold all at h'
    simp only [Bool.and_eq_true, decide_eq_true_eq] at h'
    unfold spec_l10Common.f
    have := spec_loop l [] k 1 0 rfl (by simp; omega) h'.2 (by omega) (by omega) (by omega)
    rw [List.nil_append] at this
    rw [show ((1 : Nat) : Int) = 1 from rfl] at this
    rw [this]; rfl
theorem impl_eq (l : List IC) (hl : l.length ≤ 2000000) (k : Nat) (hk : 300000 ≤ k) : impl_CommonPeriod.f k l = some (if all l = true then com l 1 else (0, false)) := by
  unfold impl_CommonPeriod.f
  rw [are_eq]; simp only [Option.bind_some]
  cases h : all l with
  | false => simp
  | true =>
    simp only [if_true]
    have h' := h
    unfold all at h'
    simp only [Bool.and_eq_true, decide_eq_true_eq] at h'
    have := impl_loop l [] k 1 0 rfl (by simp; omega) h'.2 (by omega) (by omega) (by omega)
    rw [List.nil_append] at this
    rw [show ((1 : Nat) : Int) = 1 from rfl] at this
    exact this
end CommonPeriod_
open CommonPeriod_

theorem FnExactCommonPeriod : laws_FnExactCommonPeriod.Pure := by
  intro l hw
  obtain ⟨r, hr, h⟩ := sz_eq l hw.1
  refine ⟨2000001, ?_⟩
  unfold laws_FnExactCommonPeriod.f
  rw [hr]; simp only [Option.bind_some]
  by_cases hn : r < 0
  · rw [if_pos hn]
  · have hl : l.length ≤ 1048576 := by omega
    rw [if_neg hn, conv_eq l hl 2000001 (by omega)]; simp only [Option.bind_some]
    rw [spec_eq _ (by simp; omega) 2000001 (by omega), impl_eq _ (by simp; omega) 2000001 (by omega)]; simp only [Option.bind_some, if_true]
    simp only [laws_FnExactCommonPeriod.j0]
    rw [if_neg (by simp), conv_eq l hl 2000000 (by omega)]; simp only [Option.bind_some]
    rw [eqc_self _ (by simp; omega) 2000000 (by simp; omega)]; simp

end Go.Proofs.Ytfoedfigjcmjbaa.Pure
