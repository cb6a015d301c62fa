import Derived.Test.YtenlaanknlafdaaA16
import Derived.Test.YtenlaanknlafdaaA17
import Derived.Test.YtenlaanknlafdaaA44
import Derived.Test.YtenlaanknlafdaaA45
import Derived.Test.YtenlaanknlafdaaA83
import Derived.Test.YtenlaanknlafdaaA84
import Derived.Test.YtenlaanknlafdaaA87
import Derived.Test.YtenlaanknlafdaaRats8
import Derived.Test.YtenlaanknlafdaaA53
import Derived.Test.YtenlaanknlafdaaA54
import Derived.Test.YtenlaanknlafdaaAPureOfFnExactCompareFractions
/- The reference's fractions in lowest terms are the program's. Conditions: parts of at most MaxPart. -/
namespace Go.Proofs.Ytenlaanknlafdaa.A
set_option linter.unusedVariables false
set_option linter.unusedSimpArgs false
open Go.RowKit Go.Proofs.YtenlaanknlafdaaW.PrintWords Go.Proofs.YtenlaanknlafdaaW.PrintLast Go.Proofs.YtenlaanknlafdaaW.PrintMore
theorem specGcd_loop : ∀ (m a b : Nat), b ≤ m → ∀ K, spec_l01Gcd.l0 (K + (m + 1)) (a : Int) (b : Int) = some ((Nat.gcd a b : Nat) : Int) := by
  intro m
  induction m with
  | zero =>
    intro a b hb K
    have e : b = 0 := by omega
    subst e
    show spec_l01Gcd.l0 (K + 0 + 1) (a : Int) 0 = _
    unfold spec_l01Gcd.l0
    rw [if_neg (by omega)]
    simp
  | succ m ih =>
    intro a b hb K
    rw [show K + (m + 1 + 1) = K + (m + 1) + 1 by omega]
    unfold spec_l01Gcd.l0
    by_cases h : b = 0
    · subst h
      rw [if_neg (by omega)]; simp
    · have hlt : a % b < b := Nat.mod_lt _ (by omega)
      have e : Int.tmod (a : Int) (b : Int) = ((a % b : Nat) : Int) := by rw [Int.tmod_eq_emod_of_nonneg (by omega)]; exact (Int.natCast_emod a b).symm
      rw [if_pos (by omega), if_neg (by omega), e, ih b (a % b) (by omega) K, Nat.gcd_comm b, ← Nat.gcd_rec, Nat.gcd_comm]
theorem specMax (a : Int) (h : a.natAbs ≤ 9223372036854775807) : spec_l00Max.f a (wrap64 (-a)) = some (a.natAbs : Int) := by
  have hw : wrap64 (-a) = -a := w64 (by omega) (by omega)
  rw [hw]
  unfold spec_l00Max.f
  by_cases c : a > -a
  · rw [if_pos c]; congr 1; omega
  · rw [if_neg c]; congr 1; omega
theorem tdiv_sgn (a : Int) (g : Nat) : Int.tdiv a (g : Int) = sgn (decide (a < 0)) ((a.natAbs : Int) / (g : Int)) := by
  unfold sgn
  by_cases c : a < 0
  · rw [decide_eq_true c, if_pos rfl]
    have e : a = -(a.natAbs : Int) := by omega
    rw [show (Int.tdiv a (g : Int)) = Int.tdiv (-(a.natAbs : Int)) (g : Int) by rw [← e], Int.neg_tdiv, Int.tdiv_eq_ediv_of_nonneg (by omega)]
  · rw [decide_eq_false c, if_neg (by decide), Int.tdiv_eq_ediv_of_nonneg (by omega)]
    congr 1; omega
theorem gcdI_pos (a b : Int) (hb : b ≠ 0) : 0 < gcdI a b := by
  have := Nat.gcd_pos_of_pos_right a.natAbs (show 0 < b.natAbs by omega)
  unfold gcdI; omega
theorem specFMake (a b : Int) (hb : b ≠ 0) (ha : a.natAbs ≤ 9223372036854775807) (hb' : b.natAbs ≤ 9223372036854775807) : ∃ m, ∀ K, spec_l01FMake.f (K + m) a b = some (numI a b, denI a b) := by
  refine ⟨b.natAbs + 1, fun K => ?_⟩
  have hg := gcdI_pos a b hb
  have hn := numI_le a b
  have hd := denI_le a b
  have ew : wrap64 (numI a b) = numI a b := w64 (by omega) (by omega)
  have ew2 : wrap64 (denI a b) = denI a b := w64 (by omega) (by omega)
  have hg0 : ¬ ((Nat.gcd a.natAbs b.natAbs : Nat) : Int) = 0 := by unfold gcdI at hg; omega
  unfold spec_l01FMake.f spec_l01Gcd.f
  by_cases c : b < 0
  · have wa : wrap64 (-a) = -a := w64 (by omega) (by omega)
    have wb : wrap64 (-b) = -b := w64 (by omega) (by omega)
    have eb : -b = (b.natAbs : Int) := by omega
    rw [if_pos c, wa, specMax (-a) (by omega), Option.bind_some, wb, eb, Int.natAbs_neg, specGcd_loop b.natAbs a.natAbs b.natAbs (Nat.le_refl _) K, Option.bind_some, if_neg hg0]
    have e1 : Int.tdiv (-a) ((Nat.gcd a.natAbs b.natAbs : Nat) : Int) = numI a b := by
      rw [tdiv_sgn, Int.natAbs_neg]
      unfold numI gcdI
      rw [decide_eq_true c]
      by_cases h0 : a = 0
      · subst h0; simp [sgn]
      · congr 1
        by_cases h : a < 0 <;> simp [h] <;> omega
    have e2 : Int.tdiv (b.natAbs : Int) ((Nat.gcd a.natAbs b.natAbs : Nat) : Int) = denI a b := by rw [Int.tdiv_eq_ediv_of_nonneg (by omega)]; rfl
    rw [e1, e2, ew, ew2]
  · rw [if_neg c, specMax a ha, Option.bind_some]
    have eb : b = (b.natAbs : Int) := by omega
    have e1 : Int.tdiv a ((Nat.gcd a.natAbs b.natAbs : Nat) : Int) = numI a b := by
      rw [tdiv_sgn]
      unfold numI gcdI
      rw [decide_eq_false c]
      congr 1
      cases decide (a < 0) <;> rfl
    have e2 : Int.tdiv b ((Nat.gcd a.natAbs b.natAbs : Nat) : Int) = denI a b := by
      rw [Int.tdiv_eq_ediv_of_nonneg (by omega)]; unfold denI gcdI; congr 1
    have hgl := specGcd_loop b.natAbs a.natAbs b.natAbs (Nat.le_refl _) K
    rw [← eb] at hgl
    rw [hgl, Option.bind_some, if_neg hg0, e1, e2, ew, ew2]
theorem lowest (a b : Int) (hb : b ≠ 0) : 1 ≤ denI a b ∧ Nat.gcd (numI a b).natAbs (denI a b).natAbs = 1 := by
  have hg : 0 < Nat.gcd a.natAbs b.natAbs := Nat.gcd_pos_of_pos_right _ (by omega)
  have e1 : (denI a b).natAbs = b.natAbs / Nat.gcd a.natAbs b.natAbs := by
    unfold denI gcdI; rw [← Int.natCast_ediv, Int.natAbs_natCast]
  have e2 : (numI a b).natAbs = a.natAbs / Nat.gcd a.natAbs b.natAbs := by
    unfold numI gcdI sgn; rw [← Int.natCast_ediv]
    split
    · rw [Int.natAbs_neg, Int.natAbs_natCast]
    · rw [Int.natAbs_natCast]
  have h1 : 0 < b.natAbs / Nat.gcd a.natAbs b.natAbs := Nat.div_pos (Nat.le_of_dvd (by omega) (Nat.gcd_dvd_right _ _)) hg
  have h0 : 0 ≤ denI a b := by unfold denI gcdI; exact Int.ediv_nonneg (by omega) (by omega)
  exact ⟨by omega, by rw [e1, e2]; exact Nat.coprime_div_gcd_div_gcd hg⟩
theorem chkF_yes {n d : Int} (h1 : 1 ≤ d) (h2 : d ≤ 1000000000000000000) (h3 : -1000000000000000000 ≤ n) (h4 : n ≤ 1000000000000000000) (hg : Nat.gcd n.natAbs d.natAbs = 1) : chkF n d = (n, d, true) := by
  have c1 : in64 n = true := decide_eq_true ⟨by omega, by omega⟩
  have c2 : in64 d = true := decide_eq_true ⟨by omega, by omega⟩
  exact if_pos ⟨c1, c2, okF_iff.2 ⟨⟨h1, h2⟩, ⟨h3, h4⟩, hg⟩⟩
theorem eqF_self (a b : Int) : laws_eqFraction.f a b a b = some true := by unfold laws_eqFraction.f; rw [if_pos rfl, if_pos rfl]
theorem in_is (a b c : Int) : spec_l00In.f a b c = some (decide (b ≤ a ∧ a ≤ c)) := by
  unfold spec_l00In.f
  by_cases h : a ≥ b
  · rw [if_pos h]; have h' : b ≤ a := h; simp [h']
  · rw [if_neg h]; have h' : ¬ b ≤ a := h; simp [h']
end Go.Proofs.Ytenlaanknlafdaa.A

/- The reference's numbers of two words: products, order, what is small. Conditions: numbers of 63 bits. -/
namespace Go.Proofs.Ytenlaanknlafdaa.A
set_option linter.unusedVariables false
set_option linter.unusedSimpArgs false
open Go.RowKit Go.Proofs.YtenlaanknlafdaaW.PrintWords Go.Proofs.YtenlaanknlafdaaW.PrintLast Go.Proofs.YtenlaanknlafdaaW.PrintMore
/-- The number of two words. -/
def wide (r : Int × Int) : Int := r.1 * 18446744073709551616 + r.2
def IsWide (r : Int × Int) : Prop := 0 ≤ r.1 ∧ r.1 < 18446744073709551616 ∧ 0 ≤ r.2 ∧ r.2 < 18446744073709551616
theorem times_words (x1 x0 y1 y0 : Int) (a0 : 0 ≤ x1) (a1 : x1 < 2147483648) (b0 : 0 ≤ x0) (b1 : x0 < 4294967296) (c0 : 0 ≤ y1) (c1 : y1 < 2147483648) (d0 : 0 ≤ y0) (d1 : y0 < 4294967296) : ∀ p q r s M : Int, x1 * y1 = p → x1 * y0 = q → x0 * y1 = r → x0 * y0 = s → s / 4294967296 + q % 4294967296 + r % 4294967296 = M →
    (0 ≤ p ∧ p ≤ 2147483647 * 2147483647) ∧ (0 ≤ q ∧ q ≤ 2147483647 * 4294967295) ∧ (0 ≤ r ∧ r ≤ 4294967295 * 2147483647) ∧ (0 ≤ s ∧ s ≤ 4294967295 * 4294967295) ∧ 0 ≤ M ∧ M < 12884901888 ∧ (p + q / 4294967296 + r / 4294967296 + M / 4294967296) * 18446744073709551616 + (M % 4294967296 * 4294967296 + s % 4294967296) = (x1 * 4294967296 + x0) * (y1 * 4294967296 + y0) := by
  intro p q r s M hp hq hr hs hM
  have p0 : 0 ≤ p := by rw [← hp]; exact Int.mul_nonneg a0 c0
  have p1 : p ≤ 2147483647 * 2147483647 := by rw [← hp]; exact Int.mul_le_mul (by omega) (by omega) c0 (by omega)
  have q0 : 0 ≤ q := by rw [← hq]; exact Int.mul_nonneg a0 d0
  have q1 : q ≤ 2147483647 * 4294967295 := by rw [← hq]; exact Int.mul_le_mul (by omega) (by omega) d0 (by omega)
  have r0 : 0 ≤ r := by rw [← hr]; exact Int.mul_nonneg b0 c0
  have r1 : r ≤ 4294967295 * 2147483647 := by rw [← hr]; exact Int.mul_le_mul (by omega) (by omega) c0 (by omega)
  have s0 : 0 ≤ s := by rw [← hs]; exact Int.mul_nonneg b0 d0
  have s1 : s ≤ 4294967295 * 4294967295 := by rw [← hs]; exact Int.mul_le_mul (by omega) (by omega) d0 (by omega)
  have e : (x1 * 4294967296 + x0) * (y1 * 4294967296 + y0) = p * 18446744073709551616 + (q + r) * 4294967296 + s := by rw [← hp, ← hq, ← hr, ← hs]; grind
  refine ⟨⟨p0, p1⟩, ⟨q0, q1⟩, ⟨r0, r1⟩, ⟨s0, s1⟩, by omega, by omega, ?_⟩
  rw [e]
  omega
theorem times_eq (a b : Int) (a0 : 0 ≤ a) (a1 : a < 9223372036854775808) (b0 : 0 ≤ b) (b1 : b < 9223372036854775808) : ∃ r, spec_l01Times.f a b = some r ∧ IsWide r ∧ wide r = a * b := by
  obtain ⟨x1, hx1⟩ : ∃ x1, a / 4294967296 = x1 := ⟨_, rfl⟩
  obtain ⟨x0, hx0⟩ : ∃ x0, a % 4294967296 = x0 := ⟨_, rfl⟩
  obtain ⟨y1, hy1⟩ : ∃ y1, b / 4294967296 = y1 := ⟨_, rfl⟩
  obtain ⟨y0, hy0⟩ : ∃ y0, b % 4294967296 = y0 := ⟨_, rfl⟩
  have ea : x1 * 4294967296 + x0 = a := by omega
  have eb : y1 * 4294967296 + y0 = b := by omega
  have i1 : 0 ≤ x1 ∧ x1 < 2147483648 := by omega
  have i2 : 0 ≤ x0 ∧ x0 < 4294967296 := by omega
  have i3 : 0 ≤ y1 ∧ y1 < 2147483648 := by omega
  have i4 : 0 ≤ y0 ∧ y0 < 4294967296 := by omega
  obtain ⟨p, hp⟩ : ∃ p, x1 * y1 = p := ⟨_, rfl⟩
  obtain ⟨q, hq⟩ : ∃ q, x1 * y0 = q := ⟨_, rfl⟩
  obtain ⟨r, hr⟩ : ∃ r, x0 * y1 = r := ⟨_, rfl⟩
  obtain ⟨s, hs⟩ : ∃ s, x0 * y0 = s := ⟨_, rfl⟩
  obtain ⟨M, hM⟩ : ∃ M, s / 4294967296 + q % 4294967296 + r % 4294967296 = M := ⟨_, rfl⟩
  obtain ⟨⟨p0, p1⟩, ⟨q0, q1⟩, ⟨r0, r1⟩, ⟨s0, s1⟩, M0, M1, hv⟩ := times_words x1 x0 y1 y0 i1.1 i1.2 i2.1 i2.2 i3.1 i3.2 i4.1 i4.2 p q r s M hp hq hr hs hM
  rw [ea, eb] at hv
  have ta : Int.tdiv a 4294967296 = x1 := by rw [Int.tdiv_eq_ediv_of_nonneg a0]; exact hx1
  have tb : Int.tdiv b 4294967296 = y1 := by rw [Int.tdiv_eq_ediv_of_nonneg b0]; exact hy1
  have ma : Int.tmod a 4294967296 = x0 := by rw [Int.tmod_eq_emod_of_nonneg a0]; exact hx0
  have mb : Int.tmod b 4294967296 = y0 := by rw [Int.tmod_eq_emod_of_nonneg b0]; exact hy0
  have tq : Int.tdiv q 4294967296 = q / 4294967296 := Int.tdiv_eq_ediv_of_nonneg q0
  have tr : Int.tdiv r 4294967296 = r / 4294967296 := Int.tdiv_eq_ediv_of_nonneg r0
  have ts : Int.tdiv s 4294967296 = s / 4294967296 := Int.tdiv_eq_ediv_of_nonneg s0
  have tM : Int.tdiv M 4294967296 = M / 4294967296 := Int.tdiv_eq_ediv_of_nonneg M0
  have mq : Int.tmod q 4294967296 = q % 4294967296 := Int.tmod_eq_emod_of_nonneg q0
  have mr : Int.tmod r 4294967296 = r % 4294967296 := Int.tmod_eq_emod_of_nonneg r0
  have ms : Int.tmod s 4294967296 = s % 4294967296 := Int.tmod_eq_emod_of_nonneg s0
  have mm : M * 4294967296 % 18446744073709551616 = M % 4294967296 * 4294967296 := by omega
  refine ⟨(p + q / 4294967296 + r / 4294967296 + M / 4294967296, M % 4294967296 * 4294967296 + s % 4294967296), ?_, ⟨by show 0 ≤ p + q / 4294967296 + r / 4294967296 + M / 4294967296; omega, by show p + q / 4294967296 + r / 4294967296 + M / 4294967296 < _; omega, by show 0 ≤ M % 4294967296 * 4294967296 + s % 4294967296; omega, by show M % 4294967296 * 4294967296 + s % 4294967296 < _; omega⟩, hv⟩
  unfold spec_l01Times.f
  rw [u64_small a0 (by omega), u64_small b0 (by omega), ta, tb, ma, mb, u64_small i1.1 (by omega), u64_small i3.1 (by omega), hp, hq, hr, hs, u64_small p0 (by omega), u64_small q0 (by omega), u64_small r0 (by omega), u64_small s0 (by omega), tq, tr, ts, mq, mr, ms,
    u64_small (x := q / 4294967296) (by omega) (by omega), u64_small (x := r / 4294967296) (by omega) (by omega), u64_small (x := s / 4294967296) (by omega) (by omega), u64_small (x := s / 4294967296 + q % 4294967296) (by omega) (by omega), u64_small (x := s / 4294967296 + q % 4294967296 + r % 4294967296) (by omega) (by omega), hM, tM,
    u64_small (x := M / 4294967296) (by omega) (by omega), u64_small (x := p + q / 4294967296) (by omega) (by omega), u64_small (x := p + q / 4294967296 + r / 4294967296) (by omega) (by omega), u64_small (x := p + q / 4294967296 + r / 4294967296 + M / 4294967296) (by omega) (by omega), wu64, mm, or32 (M % 4294967296) (s % 4294967296) (by omega) (by omega) (by omega) (by omega)]
theorem less_eq {x y : Int × Int} (hx : IsWide x) (hy : IsWide y) : spec_l01Less.f x.1 x.2 y.1 y.2 = some (decide (wide x < wide y)) := by
  obtain ⟨x1, x2⟩ := x
  obtain ⟨y1, y2⟩ := y
  unfold IsWide at hx hy
  unfold spec_l01Less.f wide
  simp only at *
  by_cases h : x1 < y1
  · rw [if_pos h, decide_eq_true (by omega)]
  · rw [if_neg h]
    by_cases h2 : x1 = y1
    · rw [if_pos h2]
      by_cases h3 : x2 < y2
      · rw [decide_eq_true h3, decide_eq_true (by omega)]
      · rw [decide_eq_false h3, decide_eq_false (by omega)]
    · rw [if_neg h2, decide_eq_false (by omega)]
theorem small_eq {x : Int × Int} (hx : IsWide x) : spec_l01Small.f x.1 x.2 = some (if wide x ≤ 1000000000000000000 then (wide x, true) else (0, false)) := by
  obtain ⟨x1, x2⟩ := x
  unfold IsWide at hx
  unfold spec_l01Small.f wide
  simp only at *
  by_cases h : x1 > 0
  · rw [if_pos h, if_neg (by omega)]
  · rw [if_neg h]
    have e : x1 = 0 := by omega
    subst e
    by_cases h2 : x2 > 1000000000000000000
    · rw [if_pos h2, if_neg (by omega)]
    · rw [if_neg h2, if_pos (by omega), w64 (by omega) (by omega), Int.zero_mul, Int.zero_add]
end Go.Proofs.Ytenlaanknlafdaa.A

/- The reference's valid fractions, their order. Conditions: valid fractions. -/
namespace Go.Proofs.Ytenlaanknlafdaa.A
set_option linter.unusedVariables false
set_option linter.unusedSimpArgs false
open Go.RowKit Go.Proofs.YtenlaanknlafdaaW.PrintWords Go.Proofs.YtenlaanknlafdaaW.PrintLast Go.Proofs.YtenlaanknlafdaaW.PrintMore
theorem specFIs (n d : Int) : ∃ m, ∀ K, spec_l01FIs.f (K + m) n d = some (okF n d) := by
  by_cases h1 : 1 ≤ d ∧ d ≤ 1000000000000000000
  · by_cases h2 : -1000000000000000000 ≤ n ∧ n ≤ 1000000000000000000
    · refine ⟨d.natAbs + 1, fun K => ?_⟩
      have hg := specGcd_loop d.natAbs n.natAbs d.natAbs (Nat.le_refl _) K
      have ed : (d.natAbs : Int) = d := by omega
      rw [ed] at hg
      unfold spec_l01FIs.f spec_l01Gcd.f
      rw [in_is, in_is, decide_eq_true h1, decide_eq_true h2]
      simp only [Option.bind_some, if_pos]
      rw [specMax n (by omega), Option.bind_some, hg, Option.bind_some]
      congr 1
      unfold okF
      by_cases h3 : Nat.gcd n.natAbs d.natAbs = 1
      · rw [decide_eq_true (show _ ∧ _ ∧ _ from ⟨h1, h2, h3⟩), h3]; rfl
      · rw [decide_eq_false (fun h => h3 h.2.2), beq_eq_false_iff_ne]; omega
    · refine ⟨0, fun K => ?_⟩
      unfold spec_l01FIs.f okF
      rw [in_is, in_is, decide_eq_true h1, decide_eq_false h2, decide_eq_false (fun h => h2 h.2.1)]
      rfl
  · refine ⟨0, fun K => ?_⟩
    unfold spec_l01FIs.f okF
    rw [in_is, decide_eq_false h1, decide_eq_false (fun h => h1 h.1)]
    rfl
theorem part_abs {n : Int} (h : Part n) : (n.natAbs : Int) < 9223372036854775808 ∧ n.natAbs ≤ 9223372036854775807 := by unfold Part at h; omega
end Go.Proofs.Ytenlaanknlafdaa.A

/- The reference's valid fractions, their order. Conditions: valid fractions. -/
namespace Go.Proofs.Ytenlaanknlafdaa.A
set_option linter.unusedVariables false
set_option linter.unusedSimpArgs false
open Go.RowKit Go.Proofs.YtenlaanknlafdaaW.PrintWords Go.Proofs.YtenlaanknlafdaaW.PrintLast Go.Proofs.YtenlaanknlafdaaW.PrintMore
/-- The order of two fractions, as the reference tells it. -/
theorem specFCmp (n d n' d' : Int) (h : okF n d = true) (h' : okF n' d' = true) : ∀ K, spec_l01FCmp.f (K + 1) n d n' d' = some (sign (n * d' - n' * d)) := by
  intro K
  obtain ⟨pn, pd, d1⟩ := okF_parts h
  obtain ⟨pn', pd', d1'⟩ := okF_parts h'
  have an := part_abs pn
  have an' := part_abs pn'
  have b1 : d < 9223372036854775808 := by unfold Part at pd; omega
  have b1' : d' < 9223372036854775808 := by unfold Part at pd'; omega
  unfold spec_l01FCmp.f
  by_cases c : (decide (n < 0) != decide (n' < 0)) = true
  · rw [if_pos c]
    by_cases s : n < 0
    · have s' : ¬ n' < 0 := by intro s'; rw [decide_eq_true s, decide_eq_true s'] at c; exact absurd c (by decide)
      have e1 : n * d' < 0 := Int.mul_neg_of_neg_of_pos s (by omega)
      have e2 : 0 ≤ n' * d := Int.mul_nonneg (by omega) (by omega)
      generalize n * d' = x at *
      generalize n' * d = y at *
      rw [if_pos s]; unfold sign; rw [if_pos (by omega)]
    · have s' : n' < 0 := by
        rcases Int.lt_or_le n' 0 with h2 | h2
        · exact h2
        · rw [decide_eq_false s, decide_eq_false (by omega)] at c; exact absurd c (by decide)
      have e1 : 0 ≤ n * d' := Int.mul_nonneg (by omega) (by omega)
      have e2 : n' * d < 0 := Int.mul_neg_of_neg_of_pos s' (by omega)
      generalize n * d' = x at *
      generalize n' * d = y at *
      rw [if_neg s]; unfold sign; rw [if_neg (by omega), if_pos (by omega)]
  · rw [if_neg c, specMax n an.2, specMax n' an'.2]
    simp only [Option.bind_some]
    obtain ⟨x, hx, wx, vx⟩ := times_eq (n.natAbs : Int) d' (by omega) an.1 (by omega) b1'
    obtain ⟨y, hy, wy, vy⟩ := times_eq (n'.natAbs : Int) d (by omega) an'.1 (by omega) b1
    rw [hx, hy]
    simp only [Option.bind_some]
    rw [less_eq wx wy]
    simp only [Option.bind_some]
    have hs : (n < 0 ↔ n' < 0) := by
      by_cases s : n < 0 <;> by_cases s' : n' < 0 <;> simp [s, s'] at c ⊢
    have w0 : wrap64 (-(0 : Int)) = 0 := by rw [Int.neg_zero]; exact w64 (by omega) (by omega)
    have w1 : wrap64 (-(-1 : Int)) = 1 := by rw [w64 (by omega) (by omega)]; rfl
    have fin : ∀ q : Int, (q = if wide x < wide y then -1 else 0) → spec_l01FCmp.j0 (K + 1) q n d x.1 x.2 y.1 y.2 = some (sign (n * d' - n' * d)) := by
      intro q hq
      simp only [spec_l01FCmp.j0]
      rw [less_eq wy wx]
      simp only [Option.bind_some]
      by_cases s : n < 0
      · have e1 : n * d' = -(wide x) := by rw [vx, ← Int.neg_mul]; congr 1; omega
        have e2 : n' * d = -(wide y) := by rw [vy, ← Int.neg_mul]; congr 1; have := hs.1 s; omega
        rw [e1, e2]
        by_cases l1 : wide y < wide x
        · rw [decide_eq_true l1, if_pos rfl, if_pos s]; unfold sign; rw [if_pos (by omega)]
        · rw [decide_eq_false l1, if_neg (by decide), if_pos s]
          by_cases l2 : wide x < wide y
          · rw [if_pos l2] at hq; subst hq; rw [w1]; unfold sign; rw [if_neg (by omega), if_pos (by omega)]
          · rw [if_neg l2] at hq; subst hq; rw [w0]; unfold sign; rw [if_neg (by omega), if_neg (by omega)]
      · have e1 : n * d' = wide x := by rw [vx]; congr 1; omega
        have e2 : n' * d = wide y := by rw [vy]; congr 1; have := fun z => s (hs.2 z); omega
        rw [e1, e2]
        by_cases l1 : wide y < wide x
        · rw [decide_eq_true l1, if_pos rfl, if_neg s]; unfold sign; rw [if_neg (by omega), if_pos (by omega)]
        · rw [decide_eq_false l1, if_neg (by decide), if_neg s]
          by_cases l2 : wide x < wide y
          · rw [if_pos l2] at hq; subst hq; unfold sign; rw [if_pos (by omega)]
          · rw [if_neg l2] at hq; subst hq; unfold sign; rw [if_neg (by omega), if_neg (by omega)]
    by_cases l2 : wide x < wide y
    · rw [decide_eq_true l2, if_pos rfl]; exact fin (-1) (by rw [if_pos l2])
    · rw [decide_eq_false l2, if_neg (by decide)]; exact fin 0 (by rw [if_neg l2])
end Go.Proofs.Ytenlaanknlafdaa.A

/- The pure side of FnExactCompareFractions: for all arguments the program's CompareFractions and the reference's answer alike. No conditions. -/
namespace Go.Proofs.Ytenlaanknlafdaa.Pure
set_option linter.unusedVariables false
set_option linter.unusedSimpArgs false
open Go.RowKit Go.Proofs.Ytenlaanknlafdaa.A Go.Proofs.YtenlaanknlafdaaW.PrintWords Go.Proofs.YtenlaanknlafdaaW.PrintLast Go.Proofs.YtenlaanknlafdaaW.PrintMore
theorem FnExactCompareFractions : laws_FnExactCompareFractions.Pure := by
  rintro ⟨n, d⟩ ⟨n', d'⟩ _ _
  show ∃ k, laws_FnExactCompareFractions.f k n d n' d' = some true
  obtain ⟨m1, h1⟩ := specFIs n d
  obtain ⟨m2, h2⟩ := specFIs n' d'
  have g1 := h1 (m2 + 1)
  have g2 := h2 (m1 + 1)
  rw [show m2 + 1 + m1 = m1 + m2 + 1 by omega] at g1
  rw [show m1 + 1 + m2 = m1 + m2 + 1 by omega] at g2
  refine ⟨m1 + m2 + 1, ?_⟩
  unfold laws_FnExactCompareFractions.f laws_toFraction.f spec_CompareFractions.f impl_CompareFractions.f
  simp only [Option.bind_some]
  rw [g1]
  simp only [Option.bind_some]
  cases c1 : okF n d
  · simp
  · rw [if_pos rfl, g2]
    simp only [Option.bind_some]
    cases c2 : okF n' d'
    · simp
    · rw [if_pos rfl, specFCmp n d n' d' c1 c2 (m1 + m2)]
      simp
end Go.Proofs.Ytenlaanknlafdaa.Pure
