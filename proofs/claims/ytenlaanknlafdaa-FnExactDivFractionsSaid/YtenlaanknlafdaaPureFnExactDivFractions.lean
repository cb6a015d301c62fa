import Derived.Test.YtenlaanknlafdaaA16
import Derived.Test.YtenlaanknlafdaaA17
import Derived.Test.YtenlaanknlafdaaA44
import Derived.Test.YtenlaanknlafdaaA45
import Derived.Test.YtenlaanknlafdaaA83
import Derived.Test.YtenlaanknlafdaaA84
import Derived.Test.YtenlaanknlafdaaA87
import Derived.Test.YtenlaanknlafdaaRats8
import Derived.Test.YtenlaanknlafdaaA53
import Derived.Test.YtenlaanknlafdaaA62
import Derived.Test.YtenlaanknlafdaaAPureOfFnExactDivFractions
/- The reference's fractions in lowest terms are the program's. Conditions: parts of at most MaxPart. -/
namespace Go.Proofs.Ytenlaanknlafdaa.A
set_option linter.unusedVariables false
set_option linter.unusedSimpArgs false
open Go.RowKit Go.Proofs.YtenlaanknlafdaaW.PrintWords Go.Proofs.YtenlaanknlafdaaW.PrintLast Go.Proofs.YtenlaanknlafdaaW.PrintMore
theorem specGcd_loop : ∀ (m a b : Nat), b ≤ m → ∀ K, spec_l01Gcd.l0 (K + (m + 1)) (a : Int) (b : Int) = some ((Nat.gcd a b : Nat) : Int) := by
  intro m
  induction m with
  | zero =>
    intro a b hb K
    have e : b = 0 := by omega
    subst e
    show spec_l01Gcd.l0 (K + 0 + 1) (a : Int) 0 = _
    unfold spec_l01Gcd.l0
    rw [if_neg (by omega)]
    simp
  | succ m ih =>
    intro a b hb K
    rw [show K + (m + 1 + 1) = K + (m + 1) + 1 by omega]
    unfold spec_l01Gcd.l0
    by_cases h : b = 0
    · subst h
      rw [if_neg (by omega)]; simp
    · have hlt : a % b < b := Nat.mod_lt _ (by omega)
      have e : Int.tmod (a : Int) (b : Int) = ((a % b : Nat) : Int) := by rw [Int.tmod_eq_emod_of_nonneg (by omega)]; exact (Int.natCast_emod a b).symm
      rw [if_pos (by omega), if_neg (by omega), e, ih b (a % b) (by omega) K, Nat.gcd_comm b, ← Nat.gcd_rec, Nat.gcd_comm]
theorem specMax (a : Int) (h : a.natAbs ≤ 9223372036854775807) : spec_l00Max.f a (wrap64 (-a)) = some (a.natAbs : Int) := by
  have hw : wrap64 (-a) = -a := w64 (by omega) (by omega)
  rw [hw]
  unfold spec_l00Max.f
  by_cases c : a > -a
  · rw [if_pos c]; congr 1; omega
  · rw [if_neg c]; congr 1; omega
theorem tdiv_sgn (a : Int) (g : Nat) : Int.tdiv a (g : Int) = sgn (decide (a < 0)) ((a.natAbs : Int) / (g : Int)) := by
  unfold sgn
  by_cases c : a < 0
  · rw [decide_eq_true c, if_pos rfl]
    have e : a = -(a.natAbs : Int) := by omega
    rw [show (Int.tdiv a (g : Int)) = Int.tdiv (-(a.natAbs : Int)) (g : Int) by rw [← e], Int.neg_tdiv, Int.tdiv_eq_ediv_of_nonneg (by omega)]
  · rw [decide_eq_false c, if_neg (by decide), Int.tdiv_eq_ediv_of_nonneg (by omega)]
    congr 1; omega
theorem gcdI_pos (a b : Int) (hb : b ≠ 0) : 0 < gcdI a b := by
  have := Nat.gcd_pos_of_pos_right a.natAbs (show 0 < b.natAbs by omega)
  unfold gcdI; omega
theorem specFMake (a b : Int) (hb : b ≠ 0) (ha : a.natAbs ≤ 9223372036854775807) (hb' : b.natAbs ≤ 9223372036854775807) : ∃ m, ∀ K, spec_l01FMake.f (K + m) a b = some (numI a b, denI a b) := by
  refine ⟨b.natAbs + 1, fun K => ?_⟩
  have hg := gcdI_pos a b hb
  have hn := numI_le a b
  have hd := denI_le a b
  have ew : wrap64 (numI a b) = numI a b := w64 (by omega) (by omega)
  have ew2 : wrap64 (denI a b) = denI a b := w64 (by omega) (by omega)
  have hg0 : ¬ ((Nat.gcd a.natAbs b.natAbs : Nat) : Int) = 0 := by unfold gcdI at hg; omega
  unfold spec_l01FMake.f spec_l01Gcd.f
  by_cases c : b < 0
  · have wa : wrap64 (-a) = -a := w64 (by omega) (by omega)
    have wb : wrap64 (-b) = -b := w64 (by omega) (by omega)
    have eb : -b = (b.natAbs : Int) := by omega
    rw [if_pos c, wa, specMax (-a) (by omega), Option.bind_some, wb, eb, Int.natAbs_neg, specGcd_loop b.natAbs a.natAbs b.natAbs (Nat.le_refl _) K, Option.bind_some, if_neg hg0]
    have e1 : Int.tdiv (-a) ((Nat.gcd a.natAbs b.natAbs : Nat) : Int) = numI a b := by
      rw [tdiv_sgn, Int.natAbs_neg]
      unfold numI gcdI
      rw [decide_eq_true c]
      by_cases h0 : a = 0
      · subst h0; simp [sgn]
      · congr 1
        by_cases h : a < 0 <;> simp [h] <;> omega
    have e2 : Int.tdiv (b.natAbs : Int) ((Nat.gcd a.natAbs b.natAbs : Nat) : Int) = denI a b := by rw [Int.tdiv_eq_ediv_of_nonneg (by omega)]; rfl
    rw [e1, e2, ew, ew2]
  · rw [if_neg c, specMax a ha, Option.bind_some]
    have eb : b = (b.natAbs : Int) := by omega
    have e1 : Int.tdiv a ((Nat.gcd a.natAbs b.natAbs : Nat) : Int) = numI a b := by
      rw [tdiv_sgn]
      unfold numI gcdI
      rw [decide_eq_false c]
      congr 1
      cases decide (a < 0) <;> rfl
    have e2 : Int.tdiv b ((Nat.gcd a.natAbs b.natAbs : Nat) : Int) = denI a b := by
      rw [Int.tdiv_eq_ediv_of_nonneg (by omega)]; unfold denI gcdI; congr 1
    have hgl := specGcd_loop b.natAbs a.natAbs b.natAbs (Nat.le_refl _) K
    rw [← eb] at hgl
    rw [hgl, Option.bind_some, if_neg hg0, e1, e2, ew, ew2]
theorem lowest (a b : Int) (hb : b ≠ 0) : 1 ≤ denI a b ∧ Nat.gcd (numI a b).natAbs (denI a b).natAbs = 1 := by
  have hg : 0 < Nat.gcd a.natAbs b.natAbs := Nat.gcd_pos_of_pos_right _ (by omega)
  have e1 : (denI a b).natAbs = b.natAbs / Nat.gcd a.natAbs b.natAbs := by
    unfold denI gcdI; rw [← Int.natCast_ediv, Int.natAbs_natCast]
  have e2 : (numI a b).natAbs = a.natAbs / Nat.gcd a.natAbs b.natAbs := by
    unfold numI gcdI sgn; rw [← Int.natCast_ediv]
    split
    · rw [Int.natAbs_neg, Int.natAbs_natCast]
    · rw [Int.natAbs_natCast]
  have h1 : 0 < b.natAbs / Nat.gcd a.natAbs b.natAbs := Nat.div_pos (Nat.le_of_dvd (by omega) (Nat.gcd_dvd_right _ _)) hg
  have h0 : 0 ≤ denI a b := by unfold denI gcdI; exact Int.ediv_nonneg (by omega) (by omega)
  exact ⟨by omega, by rw [e1, e2]; exact Nat.coprime_div_gcd_div_gcd hg⟩
theorem chkF_yes {n d : Int} (h1 : 1 ≤ d) (h2 : d ≤ 1000000000000000000) (h3 : -1000000000000000000 ≤ n) (h4 : n ≤ 1000000000000000000) (hg : Nat.gcd n.natAbs d.natAbs = 1) : chkF n d = (n, d, true) := by
  have c1 : in64 n = true := decide_eq_true ⟨by omega, by omega⟩
  have c2 : in64 d = true := decide_eq_true ⟨by omega, by omega⟩
  exact if_pos ⟨c1, c2, okF_iff.2 ⟨⟨h1, h2⟩, ⟨h3, h4⟩, hg⟩⟩
theorem eqF_self (a b : Int) : laws_eqFraction.f a b a b = some true := by unfold laws_eqFraction.f; rw [if_pos rfl, if_pos rfl]
theorem in_is (a b c : Int) : spec_l00In.f a b c = some (decide (b ≤ a ∧ a ≤ c)) := by
  unfold spec_l00In.f
  by_cases h : a ≥ b
  · rw [if_pos h]; have h' : b ≤ a := h; simp [h']
  · rw [if_neg h]; have h' : ¬ b ≤ a := h; simp [h']
end Go.Proofs.Ytenlaanknlafdaa.A

/- The reference's numbers of two words: products, order, what is small. Conditions: numbers of 63 bits. -/
namespace Go.Proofs.Ytenlaanknlafdaa.A
set_option linter.unusedVariables false
set_option linter.unusedSimpArgs false
open Go.RowKit Go.Proofs.YtenlaanknlafdaaW.PrintWords Go.Proofs.YtenlaanknlafdaaW.PrintLast Go.Proofs.YtenlaanknlafdaaW.PrintMore
/-- The number of two words. -/
def wide (r : Int × Int) : Int := r.1 * 18446744073709551616 + r.2
def IsWide (r : Int × Int) : Prop := 0 ≤ r.1 ∧ r.1 < 18446744073709551616 ∧ 0 ≤ r.2 ∧ r.2 < 18446744073709551616
theorem times_words (x1 x0 y1 y0 : Int) (a0 : 0 ≤ x1) (a1 : x1 < 2147483648) (b0 : 0 ≤ x0) (b1 : x0 < 4294967296) (c0 : 0 ≤ y1) (c1 : y1 < 2147483648) (d0 : 0 ≤ y0) (d1 : y0 < 4294967296) : ∀ p q r s M : Int, x1 * y1 = p → x1 * y0 = q → x0 * y1 = r → x0 * y0 = s → s / 4294967296 + q % 4294967296 + r % 4294967296 = M →
    (0 ≤ p ∧ p ≤ 2147483647 * 2147483647) ∧ (0 ≤ q ∧ q ≤ 2147483647 * 4294967295) ∧ (0 ≤ r ∧ r ≤ 4294967295 * 2147483647) ∧ (0 ≤ s ∧ s ≤ 4294967295 * 4294967295) ∧ 0 ≤ M ∧ M < 12884901888 ∧ (p + q / 4294967296 + r / 4294967296 + M / 4294967296) * 18446744073709551616 + (M % 4294967296 * 4294967296 + s % 4294967296) = (x1 * 4294967296 + x0) * (y1 * 4294967296 + y0) := by
  intro p q r s M hp hq hr hs hM
  have p0 : 0 ≤ p := by rw [← hp]; exact Int.mul_nonneg a0 c0
  have p1 : p ≤ 2147483647 * 2147483647 := by rw [← hp]; exact Int.mul_le_mul (by omega) (by omega) c0 (by omega)
  have q0 : 0 ≤ q := by rw [← hq]; exact Int.mul_nonneg a0 d0
  have q1 : q ≤ 2147483647 * 4294967295 := by rw [← hq]; exact Int.mul_le_mul (by omega) (by omega) d0 (by omega)
  have r0 : 0 ≤ r := by rw [← hr]; exact Int.mul_nonneg b0 c0
  have r1 : r ≤ 4294967295 * 2147483647 := by rw [← hr]; exact Int.mul_le_mul (by omega) (by omega) c0 (by omega)
  have s0 : 0 ≤ s := by rw [← hs]; exact Int.mul_nonneg b0 d0
  have s1 : s ≤ 4294967295 * 4294967295 := by rw [← hs]; exact Int.mul_le_mul (by omega) (by omega) d0 (by omega)
  have e : (x1 * 4294967296 + x0) * (y1 * 4294967296 + y0) = p * 18446744073709551616 + (q + r) * 4294967296 + s := by rw [← hp, ← hq, ← hr, ← hs]; grind
  refine ⟨⟨p0, p1⟩, ⟨q0, q1⟩, ⟨r0, r1⟩, ⟨s0, s1⟩, by omega, by omega, ?_⟩
  rw [e]
  omega
theorem times_eq (a b : Int) (a0 : 0 ≤ a) (a1 : a < 9223372036854775808) (b0 : 0 ≤ b) (b1 : b < 9223372036854775808) : ∃ r, spec_l01Times.f a b = some r ∧ IsWide r ∧ wide r = a * b := by
  obtain ⟨x1, hx1⟩ : ∃ x1, a / 4294967296 = x1 := ⟨_, rfl⟩
  obtain ⟨x0, hx0⟩ : ∃ x0, a % 4294967296 = x0 := ⟨_, rfl⟩
  obtain ⟨y1, hy1⟩ : ∃ y1, b / 4294967296 = y1 := ⟨_, rfl⟩
  obtain ⟨y0, hy0⟩ : ∃ y0, b % 4294967296 = y0 := ⟨_, rfl⟩
  have ea : x1 * 4294967296 + x0 = a := by omega
  have eb : y1 * 4294967296 + y0 = b := by omega
  have i1 : 0 ≤ x1 ∧ x1 < 2147483648 := by omega
  have i2 : 0 ≤ x0 ∧ x0 < 4294967296 := by omega
  have i3 : 0 ≤ y1 ∧ y1 < 2147483648 := by omega
  have i4 : 0 ≤ y0 ∧ y0 < 4294967296 := by omega
  obtain ⟨p, hp⟩ : ∃ p, x1 * y1 = p := ⟨_, rfl⟩
  obtain ⟨q, hq⟩ : ∃ q, x1 * y0 = q := ⟨_, rfl⟩
  obtain ⟨r, hr⟩ : ∃ r, x0 * y1 = r := ⟨_, rfl⟩
  obtain ⟨s, hs⟩ : ∃ s, x0 * y0 = s := ⟨_, rfl⟩
  obtain ⟨M, hM⟩ : ∃ M, s / 4294967296 + q % 4294967296 + r % 4294967296 = M := ⟨_, rfl⟩
  obtain ⟨⟨p0, p1⟩, ⟨q0, q1⟩, ⟨r0, r1⟩, ⟨s0, s1⟩, M0, M1, hv⟩ := times_words x1 x0 y1 y0 i1.1 i1.2 i2.1 i2.2 i3.1 i3.2 i4.1 i4.2 p q r s M hp hq hr hs hM
  rw [ea, eb] at hv
  have ta : Int.tdiv a 4294967296 = x1 := by rw [Int.tdiv_eq_ediv_of_nonneg a0]; exact hx1
  have tb : Int.tdiv b 4294967296 = y1 := by rw [Int.tdiv_eq_ediv_of_nonneg b0]; exact hy1
  have ma : Int.tmod a 4294967296 = x0 := by rw [Int.tmod_eq_emod_of_nonneg a0]; exact hx0
  have mb : Int.tmod b 4294967296 = y0 := by rw [Int.tmod_eq_emod_of_nonneg b0]; exact hy0
  have tq : Int.tdiv q 4294967296 = q / 4294967296 := Int.tdiv_eq_ediv_of_nonneg q0
  have tr : Int.tdiv r 4294967296 = r / 4294967296 := Int.tdiv_eq_ediv_of_nonneg r0
  have ts : Int.tdiv s 4294967296 = s / 4294967296 := Int.tdiv_eq_ediv_of_nonneg s0
  have tM : Int.tdiv M 4294967296 = M / 4294967296 := Int.tdiv_eq_ediv_of_nonneg M0
  have mq : Int.tmod q 4294967296 = q % 4294967296 := Int.tmod_eq_emod_of_nonneg q0
  have mr : Int.tmod r 4294967296 = r % 4294967296 := Int.tmod_eq_emod_of_nonneg r0
  have ms : Int.tmod s 4294967296 = s % 4294967296 := Int.tmod_eq_emod_of_nonneg s0
  have mm : M * 4294967296 % 18446744073709551616 = M % 4294967296 * 4294967296 := by omega
  refine ⟨(p + q / 4294967296 + r / 4294967296 + M / 4294967296, M % 4294967296 * 4294967296 + s % 4294967296), ?_, ⟨by show 0 ≤ p + q / 4294967296 + r / 4294967296 + M / 4294967296; omega, by show p + q / 4294967296 + r / 4294967296 + M / 4294967296 < _; omega, by show 0 ≤ M % 4294967296 * 4294967296 + s % 4294967296; omega, by show M % 4294967296 * 4294967296 + s % 4294967296 < _; omega⟩, hv⟩
  unfold spec_l01Times.f
  rw [u64_small a0 (by omega), u64_small b0 (by omega), ta, tb, ma, mb, u64_small i1.1 (by omega), u64_small i3.1 (by omega), hp, hq, hr, hs, u64_small p0 (by omega), u64_small q0 (by omega), u64_small r0 (by omega), u64_small s0 (by omega), tq, tr, ts, mq, mr, ms,
    u64_small (x := q / 4294967296) (by omega) (by omega), u64_small (x := r / 4294967296) (by omega) (by omega), u64_small (x := s / 4294967296) (by omega) (by omega), u64_small (x := s / 4294967296 + q % 4294967296) (by omega) (by omega), u64_small (x := s / 4294967296 + q % 4294967296 + r % 4294967296) (by omega) (by omega), hM, tM,
    u64_small (x := M / 4294967296) (by omega) (by omega), u64_small (x := p + q / 4294967296) (by omega) (by omega), u64_small (x := p + q / 4294967296 + r / 4294967296) (by omega) (by omega), u64_small (x := p + q / 4294967296 + r / 4294967296 + M / 4294967296) (by omega) (by omega), wu64, mm, or32 (M % 4294967296) (s % 4294967296) (by omega) (by omega) (by omega) (by omega)]
theorem less_eq {x y : Int × Int} (hx : IsWide x) (hy : IsWide y) : spec_l01Less.f x.1 x.2 y.1 y.2 = some (decide (wide x < wide y)) := by
  obtain ⟨x1, x2⟩ := x
  obtain ⟨y1, y2⟩ := y
  unfold IsWide at hx hy
  unfold spec_l01Less.f wide
  simp only at *
  by_cases h : x1 < y1
  · rw [if_pos h, decide_eq_true (by omega)]
  · rw [if_neg h]
    by_cases h2 : x1 = y1
    · rw [if_pos h2]
      by_cases h3 : x2 < y2
      · rw [decide_eq_true h3, decide_eq_true (by omega)]
      · rw [decide_eq_false h3, decide_eq_false (by omega)]
    · rw [if_neg h2, decide_eq_false (by omega)]
theorem small_eq {x : Int × Int} (hx : IsWide x) : spec_l01Small.f x.1 x.2 = some (if wide x ≤ 1000000000000000000 then (wide x, true) else (0, false)) := by
  obtain ⟨x1, x2⟩ := x
  unfold IsWide at hx
  unfold spec_l01Small.f wide
  simp only at *
  by_cases h : x1 > 0
  · rw [if_pos h, if_neg (by omega)]
  · rw [if_neg h]
    have e : x1 = 0 := by omega
    subst e
    by_cases h2 : x2 > 1000000000000000000
    · rw [if_pos h2, if_neg (by omega)]
    · rw [if_neg h2, if_pos (by omega), w64 (by omega) (by omega), Int.zero_mul, Int.zero_add]
end Go.Proofs.Ytenlaanknlafdaa.A

/- The reference's valid fractions, their order. Conditions: valid fractions. -/
namespace Go.Proofs.Ytenlaanknlafdaa.A
set_option linter.unusedVariables false
set_option linter.unusedSimpArgs false
open Go.RowKit Go.Proofs.YtenlaanknlafdaaW.PrintWords Go.Proofs.YtenlaanknlafdaaW.PrintLast Go.Proofs.YtenlaanknlafdaaW.PrintMore
theorem specFIs (n d : Int) : ∃ m, ∀ K, spec_l01FIs.f (K + m) n d = some (okF n d) := by
  by_cases h1 : 1 ≤ d ∧ d ≤ 1000000000000000000
  · by_cases h2 : -1000000000000000000 ≤ n ∧ n ≤ 1000000000000000000
    · refine ⟨d.natAbs + 1, fun K => ?_⟩
      have hg := specGcd_loop d.natAbs n.natAbs d.natAbs (Nat.le_refl _) K
      have ed : (d.natAbs : Int) = d := by omega
      rw [ed] at hg
      unfold spec_l01FIs.f spec_l01Gcd.f
      rw [in_is, in_is, decide_eq_true h1, decide_eq_true h2]
      simp only [Option.bind_some, if_pos]
      rw [specMax n (by omega), Option.bind_some, hg, Option.bind_some]
      congr 1
      unfold okF
      by_cases h3 : Nat.gcd n.natAbs d.natAbs = 1
      · rw [decide_eq_true (show _ ∧ _ ∧ _ from ⟨h1, h2, h3⟩), h3]; rfl
      · rw [decide_eq_false (fun h => h3 h.2.2), beq_eq_false_iff_ne]; omega
    · refine ⟨0, fun K => ?_⟩
      unfold spec_l01FIs.f okF
      rw [in_is, in_is, decide_eq_true h1, decide_eq_false h2, decide_eq_false (fun h => h2 h.2.1)]
      rfl
  · refine ⟨0, fun K => ?_⟩
    unfold spec_l01FIs.f okF
    rw [in_is, decide_eq_false h1, decide_eq_false (fun h => h1 h.1)]
    rfl
theorem part_abs {n : Int} (h : Part n) : (n.natAbs : Int) < 9223372036854775808 ∧ n.natAbs ≤ 9223372036854775807 := by unfold Part at h; omega
end Go.Proofs.Ytenlaanknlafdaa.A

/- Fractions in lowest terms. Conditions: valid fractions. -/
namespace Go.Proofs.Ytenlaanknlafdaa.A
set_option linter.unusedVariables false
set_option linter.unusedSimpArgs false
open Go.RowKit Go.Proofs.YtenlaanknlafdaaW.PrintWords Go.Proofs.YtenlaanknlafdaaW.PrintLast Go.Proofs.YtenlaanknlafdaaW.PrintMore
/-- A fraction in lowest terms that is as great is the one. -/
theorem low_unique (A B n d : Int) (k : Nat) (hk : 0 < k) (hd : 1 ≤ d) (hg : Nat.gcd n.natAbs d.natAbs = 1) (hA : A = k * n) (hB : B = k * d) : numI A B = n ∧ denI A B = d := by
  have hgcd : gcdI A B = (k : Int) := by
    unfold gcdI
    rw [hA, hB, Int.natAbs_mul, Int.natAbs_mul, Int.natAbs_natCast, Nat.gcd_mul_left, hg, Nat.mul_one]
  have hBp : ¬ B < 0 := by rw [hB]; have := Int.mul_nonneg (show (0 : Int) ≤ k by omega) (show 0 ≤ d by omega); omega
  have e1 : (A.natAbs : Int) / (k : Int) = (n.natAbs : Int) := by
    rw [hA, Int.natAbs_mul, Int.natAbs_natCast, Int.natCast_mul, Int.mul_ediv_cancel_left _ (by omega)]
  have e2 : (B.natAbs : Int) / (k : Int) = (d.natAbs : Int) := by
    rw [hB, Int.natAbs_mul, Int.natAbs_natCast, Int.natCast_mul, Int.mul_ediv_cancel_left _ (by omega)]
  unfold numI denI
  rw [hgcd, e1, e2, decide_eq_false hBp]
  have hs : (A < 0 ↔ n < 0) := by
    rw [hA]
    constructor
    · intro h
      rcases Int.lt_or_le n 0 with h2 | h2
      · exact h2
      · have := Int.mul_nonneg (show (0 : Int) ≤ k by omega) h2; omega
    · intro h; exact Int.mul_neg_of_pos_of_neg (by omega) h
  refine ⟨?_, by omega⟩
  unfold sgn
  by_cases c : n < 0
  · rw [decide_eq_true (hs.2 c)]; simp; omega
  · rw [decide_eq_false (fun z => c (hs.1 z))]; simp; omega
theorem cast_mul_abs (a b : Int) : ((a * b).natAbs : Int) = (a.natAbs : Int) * (b.natAbs : Int) := by rw [Int.natAbs_mul, Int.natCast_mul]
theorem chkF_no {n d : Int} (h : ¬ (d ≤ 1000000000000000000 ∧ (n.natAbs : Int) ≤ 1000000000000000000)) : chkF n d = (0, 0, false) := by
  refine if_neg (fun z => ?_)
  obtain ⟨⟨a0, a1⟩, ⟨a2, a3⟩, _⟩ := okF_iff.1 z.2.2
  exact h ⟨a1, by omega⟩
end Go.Proofs.Ytenlaanknlafdaa.A

/- The reference's products and quotients of fractions are the program's. Conditions: valid fractions. -/
namespace Go.Proofs.Ytenlaanknlafdaa.A
set_option linter.unusedVariables false
set_option linter.unusedSimpArgs false
open Go.RowKit Go.Proofs.YtenlaanknlafdaaW.PrintWords Go.Proofs.YtenlaanknlafdaaW.PrintLast Go.Proofs.YtenlaanknlafdaaW.PrintMore
/-- Numbers of a fraction in lowest terms, and their greatest common divisor. -/
theorem low_parts (a e : Int) (he : 1 ≤ e) : ∃ g : Nat, 0 < g ∧ a = g * numI a e ∧ e = g * denI a e ∧ 1 ≤ denI a e ∧ Nat.gcd (numI a e).natAbs (denI a e).natAbs = 1 := by
  have hl := lowest a e (by omega)
  refine ⟨Nat.gcd a.natAbs e.natAbs, Nat.gcd_pos_of_pos_right _ (by omega), ?_, ?_, hl.1, hl.2⟩
  · unfold numI gcdI sgn
    rw [decide_eq_false (show ¬ e < 0 by omega)]
    have h := Nat.mul_div_cancel' (Nat.gcd_dvd_left a.natAbs e.natAbs)
    have h' : ((Nat.gcd a.natAbs e.natAbs : Nat) : Int) * ((a.natAbs : Int) / ((Nat.gcd a.natAbs e.natAbs : Nat) : Int)) = (a.natAbs : Int) := by rw [← Int.natCast_ediv, ← Int.natCast_mul, h]
    by_cases c : a < 0
    · rw [decide_eq_true c]; simp; rw [Int.mul_neg, h']; omega
    · rw [decide_eq_false c]; simp; rw [h']; omega
  · unfold denI gcdI
    have h := Nat.mul_div_cancel' (Nat.gcd_dvd_right a.natAbs e.natAbs)
    rw [← Int.natCast_ediv, ← Int.natCast_mul, h]; omega
/-- The product of two fractions in lowest terms, as both reckon it. -/
theorem specFMul (a b c e : Int) (pa : Part a) (pb : Part b) (pc : Part c) (pe : Part e) (b1 : 1 ≤ b) (e1 : 1 ≤ e) (g1 : Nat.gcd a.natAbs b.natAbs = 1) (g2 : Nat.gcd c.natAbs e.natAbs = 1) : ∃ m, ∀ K, spec_l01FMul.f (K + m) a b c e = some (mkF (a * c) (b * e)) := by
  obtain ⟨m1, h1⟩ := specFMake a e (by omega) (part_abs pa).2 (part_abs pe).2
  obtain ⟨m2, h2⟩ := specFMake c b (by omega) (part_abs pc).2 (part_abs pb).2
  obtain ⟨u, u0, ua, ue, ud, ug⟩ := low_parts a e e1
  obtain ⟨v, v0, vc, vb, vd, vg⟩ := low_parts c b b1
  have na := numI_le a e
  have nc := numI_le c b
  have de := denI_le a e
  have db := denI_le c b
  have qa := part_abs pa
  have qc := part_abs pc
  have qe := part_abs pe
  have qb := part_abs pb
  obtain ⟨x, hx⟩ : ∃ x, numI a e = x := ⟨_, rfl⟩
  obtain ⟨y, hy⟩ : ∃ y, numI c b = y := ⟨_, rfl⟩
  obtain ⟨z, hz⟩ : ∃ z, denI a e = z := ⟨_, rfl⟩
  obtain ⟨t, ht⟩ : ∃ t, denI c b = t := ⟨_, rfl⟩
  rw [hx, hz] at h1; rw [hy, ht] at h2
  rw [hx] at ua ug na; rw [hz] at ue ud ug de; rw [hy] at vc vg nc; rw [ht] at vb vd vg db
  -- what is left has no common divisor
  have cxz : Nat.Coprime x.natAbs z.natAbs := ug
  have cyt : Nat.Coprime y.natAbs t.natAbs := vg
  have ea : a.natAbs = u * x.natAbs := by rw [ua, Int.natAbs_mul, Int.natAbs_natCast]
  have ee : e.natAbs = u * z.natAbs := by rw [ue, Int.natAbs_mul, Int.natAbs_natCast]
  have ec : c.natAbs = v * y.natAbs := by rw [vc, Int.natAbs_mul, Int.natAbs_natCast]
  have eb : b.natAbs = v * t.natAbs := by rw [vb, Int.natAbs_mul, Int.natAbs_natCast]
  have cxt : Nat.Coprime x.natAbs t.natAbs := by
    have h : Nat.Coprime a.natAbs b.natAbs := g1
    exact Nat.Coprime.coprime_dvd_left ⟨u, by rw [ea, Nat.mul_comm]⟩ (Nat.Coprime.coprime_dvd_right ⟨v, by rw [eb, Nat.mul_comm]⟩ h)
  have cyz : Nat.Coprime y.natAbs z.natAbs := by
    have h : Nat.Coprime c.natAbs e.natAbs := g2
    exact Nat.Coprime.coprime_dvd_left ⟨v, by rw [ec, Nat.mul_comm]⟩ (Nat.Coprime.coprime_dvd_right ⟨u, by rw [ee, Nat.mul_comm]⟩ h)
  have call : Nat.gcd (x * y).natAbs (t * z).natAbs = 1 := by
    rw [Int.natAbs_mul, Int.natAbs_mul]
    exact Nat.Coprime.mul_left (Nat.Coprime.mul_right cxt cxz) (Nat.Coprime.mul_right cyt cyz)
  have tz1 : 1 ≤ t * z := by have := Int.mul_le_mul vd ud (by omega) (by omega); omega
  obtain ⟨n1, n2⟩ := low_unique (a * c) (b * e) (x * y) (t * z) (u * v) (Nat.mul_pos u0 v0) tz1 call (by rw [ua, vc, Int.natCast_mul]; grind) (by rw [ue, vb, Int.natCast_mul]; grind)
  obtain ⟨p, hp, wp, vp⟩ := times_eq (x.natAbs : Int) (y.natAbs : Int) (by omega) (by omega) (by omega) (by omega)
  obtain ⟨q, hq, wq, vq⟩ := times_eq z t (by omega) (by omega) (by omega) (by omega)
  have vp' : wide p = ((x * y).natAbs : Int) := by rw [vp, cast_mul_abs]
  have vq' : wide q = t * z := by rw [vq, Int.mul_comm]
  refine ⟨m1 + m2 + 1, fun K => ?_⟩
  have h1' := h1 (K + m2 + 1)
  have h2' := h2 (K + m1 + 1)
  rw [show K + m2 + 1 + m1 = K + (m1 + m2 + 1) by omega] at h1'
  rw [show K + m1 + 1 + m2 = K + (m1 + m2 + 1) by omega] at h2'
  unfold spec_l01FMul.f
  rw [h1']
  simp only [Option.bind_some]
  rw [h2']
  simp only [Option.bind_some]
  rw [specMax x (by omega), Option.bind_some, specMax y (by omega), Option.bind_some, hp]
  simp only [Option.bind_some]
  rw [small_eq wp, Option.bind_some, hq]
  simp only [Option.bind_some]
  rw [small_eq wq]
  simp only [Option.bind_some]
  rw [show K + (m1 + m2 + 1) = (K + m1 + m2) + 1 by omega]
  unfold mkF
  rw [n1, n2]
  have hsg : (decide (x < 0) != decide (y < 0)) = true → x * y ≤ 0 := by
    intro h
    by_cases s : x < 0 <;> by_cases s' : y < 0 <;> simp [s, s'] at h
    · exact Int.mul_nonpos_of_nonpos_of_nonneg (by omega) (by omega)
    · exact Int.mul_nonpos_of_nonneg_of_nonpos (by omega) (by omega)
  have hsg' : ¬ (decide (x < 0) != decide (y < 0)) = true → 0 ≤ x * y := by
    intro h
    by_cases s : x < 0 <;> by_cases s' : y < 0 <;> simp [s, s'] at h
    · exact Int.mul_nonneg_of_nonpos_of_nonpos (by omega) (by omega)
    · exact Int.mul_nonneg (by omega) (by omega)
  by_cases l1 : wide p ≤ 1000000000000000000
  · rw [if_pos l1]
    by_cases l2 : wide q ≤ 1000000000000000000
    · rw [if_pos l2]
      simp only [if_pos, Bool.not_true, spec_l01FMul.j0, Bool.false_eq_true, if_false]
      rw [vp'] at l1; rw [vq'] at l2
      rw [chkF_yes tz1 l2 (by omega) (by omega) call, vp', vq']
      by_cases s : (decide (x < 0) != decide (y < 0)) = true
      · have h0 := hsg s
        rw [if_pos s, w64 (by omega) (by omega)]
        congr 2; omega
      · have h0 := hsg' s
        rw [if_neg s]
        congr 2; omega
    · rw [if_neg l2]
      simp only [if_pos, Bool.not_false, spec_l01FMul.j0]
      rw [vq'] at l2
      rw [chkF_no (fun h => l2 h.1)]
  · rw [if_neg l1]
    rw [vp'] at l1
    rw [chkF_no (fun h => l1 h.2)]
    simp [spec_l01FMul.j0]
theorem numI_neg (A B : Int) (hB : B ≠ 0) : numI (-A) (-B) = numI A B ∧ denI (-A) (-B) = denI A B := by
  unfold numI denI gcdI
  rw [Int.natAbs_neg, Int.natAbs_neg]
  refine ⟨?_, rfl⟩
  by_cases h0 : A = 0
  · subst h0; simp [sgn]
  · congr 1
    by_cases s : A < 0 <;> by_cases s' : B < 0 <;> simp [s, s'] <;> omega
theorem inv_parts {n d : Int} (h : okF n d = true) (h0 : n ≠ 0) : (numI d n = if n < 0 then -d else d) ∧ denI d n = (n.natAbs : Int) := by
  obtain ⟨⟨a0, a1⟩, ⟨a2, a3⟩, a4⟩ := okF_iff.1 h
  have hg : gcdI d n = 1 := by unfold gcdI; rw [Nat.gcd_comm, a4]; rfl
  unfold numI denI sgn
  rw [hg, decide_eq_false (show ¬ d < 0 by omega)]
  by_cases c : n < 0
  · rw [decide_eq_true c, if_pos c]; simp; omega
  · rw [decide_eq_false c, if_neg c]; simp; omega
theorem specDiv {n d n' d' : Int} (h : okF n d = true) (h' : okF n' d' = true) (h0 : n' ≠ 0) : ∃ m, ∀ K, (spec_l01FMake.f (K + m) d' n').bind (fun r => (spec_l01FMul.f (K + m) n d r.1 r.2)) = some (mkF (n * d') (d * n')) := by
  obtain ⟨pn, pd, d1⟩ := okF_parts h
  obtain ⟨pn', pd', d1'⟩ := okF_parts h'
  obtain ⟨_, _, g1⟩ := okF_iff.1 h
  obtain ⟨_, _, g2⟩ := okF_iff.1 h'
  obtain ⟨m1, h1⟩ := specFMake d' n' h0 (part_abs pd').2 (part_abs pn').2
  obtain ⟨i1, i2⟩ := inv_parts h' h0
  have pj : Part (n'.natAbs : Int) := by unfold Part at *; omega
  have pi : Part (if n' < 0 then -d' else d') := by unfold Part at *; split <;> omega
  have gi : Nat.gcd (if n' < 0 then -d' else d').natAbs ((n'.natAbs : Int)).natAbs = 1 := by
    rw [Int.natAbs_natCast, Nat.gcd_comm]
    split
    · rw [Int.natAbs_neg]; exact g2
    · exact g2
  obtain ⟨m2, h2⟩ := specFMul n d (if n' < 0 then -d' else d') (n'.natAbs : Int) pn pd pi pj d1 (by omega) g1 gi
  refine ⟨m1 + m2, fun K => ?_⟩
  have h1' := h1 (K + m2)
  have h2' := h2 (K + m1)
  rw [show K + m2 + m1 = K + (m1 + m2) by omega] at h1'
  rw [show K + m1 + m2 = K + (m1 + m2) by omega] at h2'
  rw [h1', i1, i2]
  simp only [Option.bind_some]
  rw [h2']
  congr 1
  by_cases c : n' < 0
  · rw [if_pos c]
    have e1 : n * -d' = -(n * d') := Int.mul_neg ..
    have e2 : d * (n'.natAbs : Int) = -(d * n') := by rw [← Int.mul_neg]; congr 1; omega
    have hne : d * n' ≠ 0 := Int.mul_ne_zero (by omega) h0
    unfold mkF
    rw [e1, e2, (numI_neg _ _ hne).1, (numI_neg _ _ hne).2]
  · rw [if_neg c]
    have e2 : (n'.natAbs : Int) = n' := by omega
    rw [e2]
end Go.Proofs.Ytenlaanknlafdaa.A

/- The pure side of FnExactDivFractions: for all arguments the program's DivFractions and the reference's answer alike. No conditions. -/
namespace Go.Proofs.Ytenlaanknlafdaa.Pure
set_option linter.unusedVariables false
set_option linter.unusedSimpArgs false
open Go.RowKit Go.Proofs.Ytenlaanknlafdaa.A Go.Proofs.YtenlaanknlafdaaW.PrintWords Go.Proofs.YtenlaanknlafdaaW.PrintLast Go.Proofs.YtenlaanknlafdaaW.PrintMore
theorem FnExactDivFractions : laws_FnExactDivFractions.Pure := by
  rintro ⟨n, d⟩ ⟨n', d'⟩ _ _
  show ∃ k, laws_FnExactDivFractions.f k n d n' d' = some true
  have fin : ∀ r : Int × Int × Bool, (laws_eqFraction.f r.1 r.2.1 r.1 r.2.1).bind (fun t210 => (if t210 = true then (if (r.2.2 != r.2.2) = true then (none) else (some true)) else (none))) = some true := by
    intro r
    rw [eqF_self]
    simp
  obtain ⟨m1, h1⟩ := specFIs n d
  obtain ⟨m2, h2⟩ := specFIs n' d'
  by_cases c : okF n d = true ∧ okF n' d' = true ∧ n' ≠ 0
  · obtain ⟨c1, c2, c3⟩ := c
    obtain ⟨m3, h3⟩ := specDiv c1 c2 c3
    have g1 := h1 (m2 + m3 + 1)
    have g2 := h2 (m1 + m3 + 1)
    have g3 := h3 (m1 + m2)
    rw [show m2 + m3 + 1 + m1 = m1 + m2 + m3 + 1 by omega] at g1
    rw [show m1 + m3 + 1 + m2 = m1 + m2 + m3 + 1 by omega] at g2
    refine ⟨m1 + m2 + m3 + 1, ?_⟩
    unfold laws_FnExactDivFractions.f laws_toFraction.f spec_DivFractions.f impl_DivFractions.f
    simp only [Option.bind_some]
    rw [g1, Option.bind_some, c1, if_pos rfl, g2, Option.bind_some, c2, if_pos rfl, if_pos ⟨rfl, rfl, c3⟩]
    simp only [spec_DivFractions.j0]
    rw [beq_eq_false_iff_ne.2 c3, if_neg (by decide)]
    obtain ⟨r, hr⟩ : ∃ r, spec_l01FMake.f (m1 + m2 + m3) d' n' = some r := by
      cases hq : spec_l01FMake.f (m1 + m2 + m3) d' n' with
      | none => rw [hq] at g3; exact absurd g3 (by simp)
      | some r => exact ⟨r, rfl⟩
    rw [hr] at g3 ⊢
    simp only [Option.bind_some] at g3 ⊢
    rw [g3]
    exact fin (mkF (n * d') (d * n'))
  · have g1 := h1 (m2 + 1)
    have g2 := h2 (m1 + 1)
    rw [show m2 + 1 + m1 = m1 + m2 + 1 by omega] at g1
    rw [show m1 + 1 + m2 = m1 + m2 + 1 by omega] at g2
    refine ⟨m1 + m2 + 1, ?_⟩
    unfold laws_FnExactDivFractions.f laws_toFraction.f spec_DivFractions.f impl_DivFractions.f
    simp only [Option.bind_some]
    rw [g1, Option.bind_some, if_neg c]
    cases c1 : okF n d
    · exact fin (0, 0, false)
    · rw [if_pos rfl, g2, Option.bind_some]
      cases c2 : okF n' d'
      · exact fin (0, 0, false)
      · by_cases c3 : n' = 0
        · rw [if_pos rfl]
          simp only [spec_DivFractions.j0]
          rw [beq_iff_eq.2 c3, if_pos rfl]
          exact fin (0, 0, false)
        · exact absurd ⟨c1, c2, c3⟩ c
end Go.Proofs.Ytenlaanknlafdaa.Pure
