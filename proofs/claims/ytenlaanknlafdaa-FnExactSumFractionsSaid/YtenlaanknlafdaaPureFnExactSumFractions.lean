import Derived.Test.YtenlaanknlafdaaA16
import Derived.Test.YtenlaanknlafdaaA43
import Derived.Test.YtenlaanknlafdaaA45
import Derived.Test.YtenlaanknlafdaaRats8
import Derived.Test.YtenlaanknlafdaaA65
import Derived.Test.YtenlaanknlafdaaA42
import Derived.Test.YtenlaanknlafdaaA71
import Derived.Test.YtenlaanknlafdaaAPureOfFnExactSumFractions
/- The reference's fractions in lowest terms are the program's. Conditions: parts of at most MaxPart. -/
namespace Go.Proofs.Ytenlaanknlafdaa.A
set_option linter.unusedVariables false
set_option linter.unusedSimpArgs false
open Go.RowKit Go.Proofs.YtenlaanknlafdaaW.PrintWords Go.Proofs.YtenlaanknlafdaaW.PrintLast Go.Proofs.YtenlaanknlafdaaW.PrintMore
theorem specGcd_loop : ∀ (m a b : Nat), b ≤ m → ∀ K, spec_l01Gcd.l0 (K + (m + 1)) (a : Int) (b : Int) = some ((Nat.gcd a b : Nat) : Int) := by
  intro m
  induction m with
  | zero =>
    intro a b hb K
    have e : b = 0 := by omega
    subst e
    show spec_l01Gcd.l0 (K + 0 + 1) (a : Int) 0 = _
    unfold spec_l01Gcd.l0
    rw [if_neg (by omega)]
    simp
  | succ m ih =>
    intro a b hb K
    rw [show K + (m + 1 + 1) = K + (m + 1) + 1 by omega]
    unfold spec_l01Gcd.l0
    by_cases h : b = 0
    · subst h
      rw [if_neg (by omega)]; simp
    · have hlt : a % b < b := Nat.mod_lt _ (by omega)
      have e : Int.tmod (a : Int) (b : Int) = ((a % b : Nat) : Int) := by rw [Int.tmod_eq_emod_of_nonneg (by omega)]; exact (Int.natCast_emod a b).symm
      rw [if_pos (by omega), if_neg (by omega), e, ih b (a % b) (by omega) K, Nat.gcd_comm b, ← Nat.gcd_rec, Nat.gcd_comm]
theorem specMax (a : Int) (h : a.natAbs ≤ 9223372036854775807) : spec_l00Max.f a (wrap64 (-a)) = some (a.natAbs : Int) := by
  have hw : wrap64 (-a) = -a := w64 (by omega) (by omega)
  rw [hw]
  unfold spec_l00Max.f
  by_cases c : a > -a
  · rw [if_pos c]; congr 1; omega
  · rw [if_neg c]; congr 1; omega
theorem gcdI_pos (a b : Int) (hb : b ≠ 0) : 0 < gcdI a b := by
  have := Nat.gcd_pos_of_pos_right a.natAbs (show 0 < b.natAbs by omega)
  unfold gcdI; omega
theorem lowest (a b : Int) (hb : b ≠ 0) : 1 ≤ denI a b ∧ Nat.gcd (numI a b).natAbs (denI a b).natAbs = 1 := by
  have hg : 0 < Nat.gcd a.natAbs b.natAbs := Nat.gcd_pos_of_pos_right _ (by omega)
  have e1 : (denI a b).natAbs = b.natAbs / Nat.gcd a.natAbs b.natAbs := by
    unfold denI gcdI; rw [← Int.natCast_ediv, Int.natAbs_natCast]
  have e2 : (numI a b).natAbs = a.natAbs / Nat.gcd a.natAbs b.natAbs := by
    unfold numI gcdI sgn; rw [← Int.natCast_ediv]
    split
    · rw [Int.natAbs_neg, Int.natAbs_natCast]
    · rw [Int.natAbs_natCast]
  have h1 : 0 < b.natAbs / Nat.gcd a.natAbs b.natAbs := Nat.div_pos (Nat.le_of_dvd (by omega) (Nat.gcd_dvd_right _ _)) hg
  have h0 : 0 ≤ denI a b := by unfold denI gcdI; exact Int.ediv_nonneg (by omega) (by omega)
  exact ⟨by omega, by rw [e1, e2]; exact Nat.coprime_div_gcd_div_gcd hg⟩
theorem chkF_yes {n d : Int} (h1 : 1 ≤ d) (h2 : d ≤ 1000000000000000000) (h3 : -1000000000000000000 ≤ n) (h4 : n ≤ 1000000000000000000) (hg : Nat.gcd n.natAbs d.natAbs = 1) : chkF n d = (n, d, true) := by
  have c1 : in64 n = true := decide_eq_true ⟨by omega, by omega⟩
  have c2 : in64 d = true := decide_eq_true ⟨by omega, by omega⟩
  exact if_pos ⟨c1, c2, okF_iff.2 ⟨⟨h1, h2⟩, ⟨h3, h4⟩, hg⟩⟩
theorem eqF_self (a b : Int) : laws_eqFraction.f a b a b = some true := by unfold laws_eqFraction.f; rw [if_pos rfl, if_pos rfl]
theorem in_is (a b c : Int) : spec_l00In.f a b c = some (decide (b ≤ a ∧ a ≤ c)) := by
  unfold spec_l00In.f
  by_cases h : a ≥ b
  · rw [if_pos h]; have h' : b ≤ a := h; simp [h']
  · rw [if_neg h]; have h' : ¬ b ≤ a := h; simp [h']
def wide (r : Int × Int) : Int := r.1 * 18446744073709551616 + r.2
def IsWide (r : Int × Int) : Prop := 0 ≤ r.1 ∧ r.1 < 18446744073709551616 ∧ 0 ≤ r.2 ∧ r.2 < 18446744073709551616
theorem times_words (x1 x0 y1 y0 : Int) (a0 : 0 ≤ x1) (a1 : x1 < 2147483648) (b0 : 0 ≤ x0) (b1 : x0 < 4294967296) (c0 : 0 ≤ y1) (c1 : y1 < 2147483648) (d0 : 0 ≤ y0) (d1 : y0 < 4294967296) : ∀ p q r s M : Int, x1 * y1 = p → x1 * y0 = q → x0 * y1 = r → x0 * y0 = s → s / 4294967296 + q % 4294967296 + r % 4294967296 = M →
    (0 ≤ p ∧ p ≤ 2147483647 * 2147483647) ∧ (0 ≤ q ∧ q ≤ 2147483647 * 4294967295) ∧ (0 ≤ r ∧ r ≤ 4294967295 * 2147483647) ∧ (0 ≤ s ∧ s ≤ 4294967295 * 4294967295) ∧ 0 ≤ M ∧ M < 12884901888 ∧ (p + q / 4294967296 + r / 4294967296 + M / 4294967296) * 18446744073709551616 + (M % 4294967296 * 4294967296 + s % 4294967296) = (x1 * 4294967296 + x0) * (y1 * 4294967296 + y0) := by
  intro p q r s M hp hq hr hs hM
  have p0 : 0 ≤ p := by rw [← hp]; exact Int.mul_nonneg a0 c0
  have p1 : p ≤ 2147483647 * 2147483647 := by rw [← hp]; exact Int.mul_le_mul (by omega) (by omega) c0 (by omega)
  have q0 : 0 ≤ q := by rw [← hq]; exact Int.mul_nonneg a0 d0
  have q1 : q ≤ 2147483647 * 4294967295 := by rw [← hq]; exact Int.mul_le_mul (by omega) (by omega) d0 (by omega)
  have r0 : 0 ≤ r := by rw [← hr]; exact Int.mul_nonneg b0 c0
  have r1 : r ≤ 4294967295 * 2147483647 := by rw [← hr]; exact Int.mul_le_mul (by omega) (by omega) c0 (by omega)
  have s0 : 0 ≤ s := by rw [← hs]; exact Int.mul_nonneg b0 d0
  have s1 : s ≤ 4294967295 * 4294967295 := by rw [← hs]; exact Int.mul_le_mul (by omega) (by omega) d0 (by omega)
  have e : (x1 * 4294967296 + x0) * (y1 * 4294967296 + y0) = p * 18446744073709551616 + (q + r) * 4294967296 + s := by rw [← hp, ← hq, ← hr, ← hs]; grind
  refine ⟨⟨p0, p1⟩, ⟨q0, q1⟩, ⟨r0, r1⟩, ⟨s0, s1⟩, by omega, by omega, ?_⟩; rw [e]
  omega
theorem times_eq (a b : Int) (a0 : 0 ≤ a) (a1 : a < 9223372036854775808) (b0 : 0 ≤ b) (b1 : b < 9223372036854775808) : ∃ r, spec_l01Times.f a b = some r ∧ IsWide r ∧ wide r = a * b := by
  obtain ⟨x1, hx1⟩ : ∃ x1, a / 4294967296 = x1 := ⟨_, rfl⟩; obtain ⟨x0, hx0⟩ : ∃ x0, a % 4294967296 = x0 := ⟨_, rfl⟩; obtain ⟨y1, hy1⟩ : ∃ y1, b / 4294967296 = y1 := ⟨_, rfl⟩; obtain ⟨y0, hy0⟩ : ∃ y0, b % 4294967296 = y0 := ⟨_, rfl⟩
  have ea : x1 * 4294967296 + x0 = a := by omega
  have eb : y1 * 4294967296 + y0 = b := by omega
  have i1 : 0 ≤ x1 ∧ x1 < 2147483648 := by omega
  have i2 : 0 ≤ x0 ∧ x0 < 4294967296 := by omega
  have i3 : 0 ≤ y1 ∧ y1 < 2147483648 := by omega
  have i4 : 0 ≤ y0 ∧ y0 < 4294967296 := by omega
  obtain ⟨p, hp⟩ : ∃ p, x1 * y1 = p := ⟨_, rfl⟩; obtain ⟨q, hq⟩ : ∃ q, x1 * y0 = q := ⟨_, rfl⟩; obtain ⟨r, hr⟩ : ∃ r, x0 * y1 = r := ⟨_, rfl⟩; obtain ⟨s, hs⟩ : ∃ s, x0 * y0 = s := ⟨_, rfl⟩; obtain ⟨M, hM⟩ : ∃ M, s / 4294967296 + q % 4294967296 + r % 4294967296 = M := ⟨_, rfl⟩; obtain ⟨⟨p0, p1⟩, ⟨q0, q1⟩, ⟨r0, r1⟩, ⟨s0, s1⟩, M0, M1, hv⟩ := times_words x1 x0 y1 y0 i1.1 i1.2 i2.1 i2.2 i3.1 i3.2 i4.1 i4.2 p q r s M hp hq hr hs hM; rw [ea, eb] at hv
  have ta : Int.tdiv a 4294967296 = x1 := by rw [Int.tdiv_eq_ediv_of_nonneg a0]; exact hx1
  have tb : Int.tdiv b 4294967296 = y1 := by rw [Int.tdiv_eq_ediv_of_nonneg b0]; exact hy1
  have ma : Int.tmod a 4294967296 = x0 := by rw [Int.tmod_eq_emod_of_nonneg a0]; exact hx0
  have mb : Int.tmod b 4294967296 = y0 := by rw [Int.tmod_eq_emod_of_nonneg b0]; exact hy0
  have tq : Int.tdiv q 4294967296 = q / 4294967296 := Int.tdiv_eq_ediv_of_nonneg q0; have tr : Int.tdiv r 4294967296 = r / 4294967296 := Int.tdiv_eq_ediv_of_nonneg r0; have ts : Int.tdiv s 4294967296 = s / 4294967296 := Int.tdiv_eq_ediv_of_nonneg s0; have tM : Int.tdiv M 4294967296 = M / 4294967296 := Int.tdiv_eq_ediv_of_nonneg M0; have mq : Int.tmod q 4294967296 = q % 4294967296 := Int.tmod_eq_emod_of_nonneg q0; have mr : Int.tmod r 4294967296 = r % 4294967296 := Int.tmod_eq_emod_of_nonneg r0; have ms : Int.tmod s 4294967296 = s % 4294967296 := Int.tmod_eq_emod_of_nonneg s0
  have mm : M * 4294967296 % 18446744073709551616 = M % 4294967296 * 4294967296 := by omega
  refine ⟨(p + q / 4294967296 + r / 4294967296 + M / 4294967296, M % 4294967296 * 4294967296 + s % 4294967296), ?_, ⟨by show 0 ≤ p + q / 4294967296 + r / 4294967296 + M / 4294967296; omega, by show p + q / 4294967296 + r / 4294967296 + M / 4294967296 < _; omega, by show 0 ≤ M % 4294967296 * 4294967296 + s % 4294967296; omega, by show M % 4294967296 * 4294967296 + s % 4294967296 < _; omega⟩, hv⟩
  unfold spec_l01Times.f
  rw [u64_small a0 (by omega), u64_small b0 (by omega), ta, tb, ma, mb, u64_small i1.1 (by omega), u64_small i3.1 (by omega), hp, hq, hr, hs, u64_small p0 (by omega), u64_small q0 (by omega), u64_small r0 (by omega), u64_small s0 (by omega), tq, tr, ts, mq, mr, ms,
    u64_small (x := q / 4294967296) (by omega) (by omega), u64_small (x := r / 4294967296) (by omega) (by omega), u64_small (x := s / 4294967296) (by omega) (by omega), u64_small (x := s / 4294967296 + q % 4294967296) (by omega) (by omega), u64_small (x := s / 4294967296 + q % 4294967296 + r % 4294967296) (by omega) (by omega), hM, tM,
    u64_small (x := M / 4294967296) (by omega) (by omega), u64_small (x := p + q / 4294967296) (by omega) (by omega), u64_small (x := p + q / 4294967296 + r / 4294967296) (by omega) (by omega), u64_small (x := p + q / 4294967296 + r / 4294967296 + M / 4294967296) (by omega) (by omega), wu64, mm, or32 (M % 4294967296) (s % 4294967296) (by omega) (by omega) (by omega) (by omega)]
theorem less_eq {x y : Int × Int} (hx : IsWide x) (hy : IsWide y) : spec_l01Less.f x.1 x.2 y.1 y.2 = some (decide (wide x < wide y)) := by
  obtain ⟨x1, x2⟩ := x; obtain ⟨y1, y2⟩ := y
  unfold IsWide at hx hy
  unfold spec_l01Less.f wide
  simp only at *
  by_cases h : x1 < y1
  · rw [if_pos h, decide_eq_true (by omega)]
  · rw [if_neg h]
    by_cases h2 : x1 = y1
    · rw [if_pos h2]
      by_cases h3 : x2 < y2
      · rw [decide_eq_true h3, decide_eq_true (by omega)]
      · rw [decide_eq_false h3, decide_eq_false (by omega)]
    · rw [if_neg h2, decide_eq_false (by omega)]
theorem small_eq {x : Int × Int} (hx : IsWide x) : spec_l01Small.f x.1 x.2 = some (if wide x ≤ 1000000000000000000 then (wide x, true) else (0, false)) := by
  obtain ⟨x1, x2⟩ := x
  unfold IsWide at hx
  unfold spec_l01Small.f wide
  simp only at *
  by_cases h : x1 > 0
  · rw [if_pos h, if_neg (by omega)]
  · rw [if_neg h]
    have e : x1 = 0 := by omega
    subst e
    by_cases h2 : x2 > 1000000000000000000
    · rw [if_pos h2, if_neg (by omega)]
    · rw [if_neg h2, if_pos (by omega), w64 (by omega) (by omega), Int.zero_mul, Int.zero_add]
theorem specFIs (n d : Int) : ∃ m, ∀ K, spec_l01FIs.f (K + m) n d = some (okF n d) := by
  by_cases h1 : 1 ≤ d ∧ d ≤ 1000000000000000000
  · by_cases h2 : -1000000000000000000 ≤ n ∧ n ≤ 1000000000000000000
    · refine ⟨d.natAbs + 1, fun K => ?_⟩; have hg := specGcd_loop d.natAbs n.natAbs d.natAbs (Nat.le_refl _) K
      have ed : (d.natAbs : Int) = d := by omega
      rw [ed] at hg
      unfold spec_l01FIs.f spec_l01Gcd.f
      rw [in_is, in_is, decide_eq_true h1, decide_eq_true h2]; simp only [Option.bind_some, if_pos]; rw [specMax n (by omega), Option.bind_some, hg, Option.bind_some]
      congr 1
      unfold okF
      by_cases h3 : Nat.gcd n.natAbs d.natAbs = 1
      · rw [decide_eq_true (show _ ∧ _ ∧ _ from ⟨h1, h2, h3⟩), h3]; rfl
      · rw [decide_eq_false (fun h => h3 h.2.2), beq_eq_false_iff_ne]; omega
    · refine ⟨0, fun K => ?_⟩
      unfold spec_l01FIs.f okF
      rw [in_is, in_is, decide_eq_true h1, decide_eq_false h2, decide_eq_false (fun h => h2 h.2.1)]
      rfl
  · refine ⟨0, fun K => ?_⟩
    unfold spec_l01FIs.f okF
    rw [in_is, decide_eq_false h1, decide_eq_false (fun h => h1 h.1)]
    rfl
theorem part_abs {n : Int} (h : Part n) : (n.natAbs : Int) < 9223372036854775808 ∧ n.natAbs ≤ 9223372036854775807 := by unfold Part at h; omega
theorem and_one (x : Int) (h0 : 0 ≤ x) (h1 : x < 18446744073709551616) : bits .and .u64 x 1 = x % 2 := by
  obtain ⟨n, rfl⟩ := Int.eq_ofNat_of_zero_le h0; have := bits_and_u64_nat n 1 (by omega) (by decide); rw [show ((1 : Nat) : Int) = 1 from rfl] at this; rw [this, show (1 : Nat) = 2 ^ 1 - 1 from rfl, Nat.and_two_pow_sub_one_eq_mod]
  omega
theorem or_bit (x b : Int) (h0 : 0 ≤ x) (h1 : 2 * x < 18446744073709551616) (hb : 0 ≤ b) (hb1 : b ≤ 1) : bits .or .u64 (x * 2) b = x * 2 + b := by
  have h := or_high b x 1 hb (by show b < 2; omega) h0 (by show x * 2 < _; omega) (by omega); exact h
theorem wide_bit_low (h l : Int) (i : Nat) (hi : i < 64) (l0 : 0 ≤ l) : (h * 18446744073709551616 + l) / 2 ^ i % 2 = l / 2 ^ i % 2 := by
  obtain ⟨d, hd⟩ : ∃ d, 64 = i + d + 1 := ⟨63 - i, by omega⟩
  have e : (18446744073709551616 : Int) = 2 ^ i * (2 ^ d * 2) := by
    have h64 : (18446744073709551616 : Int) = 2 ^ (i + d + 1) := by rw [← hd]; rfl
    rw [h64, Int.pow_succ, Int.pow_add, Int.mul_assoc]
  have p : (2 : Int) ^ i ≠ 0 := by have := two_pos i; omega
  have e2 : h * 18446744073709551616 + l = l + 2 ^ i * (h * 2 ^ d * 2) := by rw [e]; grind
  rw [e2, Int.add_mul_ediv_left _ _ p]
  omega
theorem wide_bit_high (h l : Int) (i : Nat) (hi : 64 ≤ i) (l0 : 0 ≤ l) (l1 : l < 18446744073709551616) : (h * 18446744073709551616 + l) / 2 ^ i = h / 2 ^ (i - 64) := by
  have e : (2 : Int) ^ i = 18446744073709551616 * 2 ^ (i - 64) := by
    have : (18446744073709551616 : Int) = 2 ^ 64 := rfl; rw [this, ← Int.pow_add]; congr 1; omega
  rw [e, ← Int.ediv_ediv_of_nonneg (by omega)]
  congr 1
  omega
theorem div_step (V : Int) (i : Nat) : V / 2 ^ i = 2 * (V / 2 ^ (i + 1)) + V / 2 ^ i % 2 := by
  rw [Int.pow_succ, ← Int.ediv_ediv_of_nonneg (by have := two_pos i; omega)]
  omega
theorem shr64 (x : Int) (i : Nat) (h : i < 64) : shr .u64 x (i : Int) = x / 2 ^ i := by
  unfold shr
  rw [Int.toNat_natCast, Nat.min_eq_left (by show i ≤ 64; omega)]
theorem split_step (K j : Nat) (d rest hi lo qh ql bit : Int) (hj : j < 128) (d1 : 1 ≤ d) (d2 : d < 9223372036854775808) (r0 : 0 ≤ rest) (r1 : rest < d) (h0 : 0 ≤ hi) (h1 : hi < 18446744073709551616) (l0 : 0 ≤ lo) (l1 : lo < 18446744073709551616) (q0 : 0 ≤ qh) (q1 : qh < 9223372036854775808) (p0 : 0 ≤ ql) (p1 : ql < 18446744073709551616)
    (hbit : (if 64 ≤ j then hi / 2 ^ (j - 64) % 2 else lo / 2 ^ j % 2) = bit) :
    spec_l01Split.l0 (K + 1) d rest (j : Int) hi lo qh ql = if d ≤ 2 * rest + bit then spec_l01Split.l0 K d (2 * rest + bit - d) ((j : Int) - 1) hi lo (qh * 2 + ql / 9223372036854775808) (ql % 9223372036854775808 * 2 + 1) else spec_l01Split.l0 K d (2 * rest + bit) ((j : Int) - 1) hi lo (qh * 2 + ql / 9223372036854775808) (ql % 9223372036854775808 * 2) := by
  have b01 : 0 ≤ bit ∧ bit ≤ 1 := by rw [← hbit]; split <;> omega
  have g0 : (j : Int) ≥ 0 := by omega
  have tm : Int.tmod (j : Int) 64 = ((j % 64 : Nat) : Int) := by rw [Int.tmod_eq_emod_of_nonneg (by omega)]; omega
  have wm : IntKind.u64.wrap ((j % 64 : Nat) : Int) = ((j % 64 : Nat) : Int) := u64_small (by omega) (by omega)
  have gm : (0 : Int) ≤ ((j % 64 : Nat) : Int) := by omega
  have wd : IntKind.u64.wrap d = d := u64_small (by omega) (by omega); have w2 : IntKind.u64.wrap (2 * rest) = 2 * rest := u64_small (by omega) (by omega); have w3 : IntKind.u64.wrap (2 * rest + bit) = 2 * rest + bit := u64_small (by omega) (by omega); have w5 : IntKind.u64.wrap (qh * 2) = qh * 2 := u64_small (by omega) (by omega)
  have w6 : IntKind.u64.wrap (ql * 2) = ql % 9223372036854775808 * 2 := by rw [wu64]; omega
  have w7 : bits .or .u64 (qh * 2) (ql / 9223372036854775808) = qh * 2 + ql / 9223372036854775808 := or_bit qh (ql / 9223372036854775808) q0 (by omega) (by omega) (by omega); have w8 : bits .or .u64 (ql % 9223372036854775808 * 2) 1 = ql % 9223372036854775808 * 2 + 1 := or_bit (ql % 9223372036854775808) 1 (by omega) (by omega) (by omega) (by omega); have wj : wrap64 ((j : Int) - 1) = (j : Int) - 1 := w64 (by omega) (by omega)
  conv => lhs; unfold spec_l01Split.l0
  rw [if_pos g0, tm, wm, if_pos gm]
  by_cases c : 64 ≤ j
  · have c' : (j : Int) ≥ 64 := by omega
    rw [if_pos c] at hbit
    have wk : wrap64 ((j : Int) - 64) = ((j - 64 : Nat) : Int) := by rw [w64 (by omega) (by omega)]; omega
    have wk2 : IntKind.u64.wrap ((j - 64 : Nat) : Int) = ((j - 64 : Nat) : Int) := u64_small (by omega) (by omega)
    have gk : (0 : Int) ≤ ((j - 64 : Nat) : Int) := by omega
    have hq0 : 0 ≤ hi / 2 ^ (j - 64) := Int.ediv_nonneg h0 (by have := two_pos (j - 64); omega); have hq1 : hi / 2 ^ (j - 64) < 18446744073709551616 := Int.lt_of_le_of_lt (Int.ediv_le_self _ h0) h1; rw [if_pos c', wk, wk2, if_pos gk, shr64 hi (j - 64) (by omega), and_one _ hq0 hq1, hbit, wd, w2, w3, w5, w6, w7, w8, wj]
    by_cases l : d ≤ 2 * rest + bit
    · have w4 : IntKind.u64.wrap (2 * rest + bit - d) = 2 * rest + bit - d := u64_small (by omega) (by omega); rw [if_pos l, if_pos l, w4]
    · rw [if_neg l, if_neg l]
  · have c' : ¬ (j : Int) ≥ 64 := by omega
    rw [if_neg c] at hbit; have ej : j % 64 = j := Nat.mod_eq_of_lt (by omega); have hq0 : 0 ≤ lo / 2 ^ j := Int.ediv_nonneg l0 (by have := two_pos j; omega); have hq1 : lo / 2 ^ j < 18446744073709551616 := Int.lt_of_le_of_lt (Int.ediv_le_self _ l0) l1; rw [if_neg c', ej, shr64 lo j (by omega), and_one _ hq0 hq1, hbit, wd, w2, w3, w5, w6, w7, w8, wj]
    by_cases l : d ≤ 2 * rest + bit
    · have w4 : IntKind.u64.wrap (2 * rest + bit - d) = 2 * rest + bit - d := u64_small (by omega) (by omega); rw [if_pos l, if_pos l, w4]
    · rw [if_neg l, if_neg l]
theorem split_loop (hi lo d : Int) (h0 : 0 ≤ hi) (h1 : hi < 18446744073709551616) (l0 : 0 ≤ lo) (l1 : lo < 18446744073709551616) (d1 : 1 ≤ d) (d2 : d < 9223372036854775808) : ∀ (j : Nat) (rest qh ql : Int), j ≤ 128 → 0 ≤ rest → rest < d → IsWide (qh, ql) → (hi * 18446744073709551616 + lo) / 2 ^ j = wide (qh, ql) * d + rest →
    ∃ r s, IsWide r ∧ 0 ≤ s ∧ s < d ∧ hi * 18446744073709551616 + lo = wide r * d + s ∧ ∀ K, spec_l01Split.l0 (K + (j + 1)) d rest ((j : Int) - 1) hi lo qh ql = some (r.1, r.2, s) := by
  intro j
  induction j with
  | zero =>
    intro rest qh ql hj r0 r1 hw he; rw [Int.pow_zero, Int.ediv_one] at he; refine ⟨(qh, ql), rest, hw, r0, r1, he, fun K => ?_⟩
    have g : ¬ ((0 : Nat) : Int) - 1 ≥ 0 := by omega
    have w : wrap64 rest = rest := w64 (by omega) (by omega)
    show spec_l01Split.l0 (K + 0 + 1) d rest (((0 : Nat) : Int) - 1) hi lo qh ql = _
    unfold spec_l01Split.l0
    rw [if_neg g, w]
  | succ j ih =>
    intro rest qh ql hj r0 r1 hw he; obtain ⟨bit, hbit⟩ : ∃ bit, (if 64 ≤ j then hi / 2 ^ (j - 64) % 2 else lo / 2 ^ j % 2) = bit := ⟨_, rfl⟩
    have hV : (hi * 18446744073709551616 + lo) / 2 ^ j % 2 = bit := by
      rw [← hbit]
      by_cases c : 64 ≤ j
      · rw [if_pos c, wide_bit_high hi lo j c l0 l1]
      · rw [if_neg c, wide_bit_low hi lo j (by omega) l0]
    have hs := div_step (hi * 18446744073709551616 + lo) j; rw [hV, he] at hs
    have b01 : 0 ≤ bit ∧ bit ≤ 1 := by rw [← hbit]; split <;> omega
    obtain ⟨Q, hQ⟩ : ∃ Q, wide (qh, ql) = Q := ⟨_, rfl⟩; have hQ' : qh * 18446744073709551616 + ql = Q := hQ; obtain ⟨a0, a1, a2, a3⟩ := hw; simp only at a0 a1 a2 a3
    have vle : (hi * 18446744073709551616 + lo) / 2 ^ j ≤ hi * 18446744073709551616 + lo := Int.ediv_le_self _ (by omega); rw [hQ] at hs
    have hd : Q ≤ Q * d := by
      have := Int.mul_le_mul_of_nonneg_left d1 (show 0 ≤ Q by omega)
      omega
    have qb : qh < 9223372036854775808 := by omega
    have hw2 : ∀ c : Int, 0 ≤ c → c ≤ 1 → IsWide (qh * 2 + ql / 9223372036854775808, ql % 9223372036854775808 * 2 + c) ∧ wide (qh * 2 + ql / 9223372036854775808, ql % 9223372036854775808 * 2 + c) = 2 * Q + c := by
      intro c c0 c1; refine ⟨⟨by show 0 ≤ qh * 2 + ql / 9223372036854775808; omega, by show qh * 2 + ql / 9223372036854775808 < _; omega, by show 0 ≤ ql % 9223372036854775808 * 2 + c; omega, by show ql % 9223372036854775808 * 2 + c < _; omega⟩, ?_⟩
      unfold wide
      simp only
      omega
    by_cases l : d ≤ 2 * rest + bit
    · obtain ⟨k1, k2⟩ := hw2 1 (by omega) (by omega)
      obtain ⟨r, s, f1, f2, f3, f4, f5⟩ := ih (2 * rest + bit - d) (qh * 2 + ql / 9223372036854775808) (ql % 9223372036854775808 * 2 + 1) (by omega) (by omega) (by omega) k1 (by
        have h9 : (2 * Q + 1) * d = 2 * (Q * d) + d := by grind
        rw [k2, hs, h9]; omega)
      refine ⟨r, s, f1, f2, f3, f4, fun K => ?_⟩; rw [show K + (j + 1 + 1) = K + (j + 1) + 1 by omega, show ((j + 1 : Nat) : Int) - 1 = (j : Int) by omega, split_step (K + (j + 1)) j d rest hi lo qh ql bit (by omega) d1 d2 r0 r1 h0 h1 l0 l1 a0 qb a2 a3 hbit, if_pos l]; exact f5 K
    · obtain ⟨k1, k2⟩ := hw2 0 (by omega) (by omega); rw [Int.add_zero] at k1 k2; rw [Int.add_zero] at k2
      obtain ⟨r, s, f1, f2, f3, f4, f5⟩ := ih (2 * rest + bit) (qh * 2 + ql / 9223372036854775808) (ql % 9223372036854775808 * 2) (by omega) (by omega) (by omega) k1 (by
        have h9 : (2 * Q) * d = 2 * (Q * d) := by grind
        rw [k2, hs]; omega)
      refine ⟨r, s, f1, f2, f3, f4, fun K => ?_⟩; rw [show K + (j + 1 + 1) = K + (j + 1) + 1 by omega, show ((j + 1 : Nat) : Int) - 1 = (j : Int) by omega, split_step (K + (j + 1)) j d rest hi lo qh ql bit (by omega) d1 d2 r0 r1 h0 h1 l0 l1 a0 qb a2 a3 hbit, if_neg l]; exact f5 K
theorem split_is {x : Int × Int} (hx : IsWide x) (d : Int) (d1 : 1 ≤ d) (d2 : d < 9223372036854775808) : ∃ r : Int × Int, IsWide r ∧ wide r = wide x / d ∧ ∀ K, spec_l01Split.f (K + 129) x.1 x.2 d = some (r.1, r.2, wide x % d) := by
  obtain ⟨h0, h1, l0, l1⟩ := hx
  obtain ⟨r, s, f1, f2, f3, f4, f5⟩ := split_loop x.1 x.2 d h0 h1 l0 l1 d1 d2 128 0 0 0 (by omega) (by omega) (by omega) ⟨by omega, by omega, by omega, by omega⟩ (by
    have e : (2 : Int) ^ 128 = 340282366920938463463374607431768211456 := by decide
    rw [e]
    unfold wide
    simp only
    rw [Int.ediv_eq_zero_of_lt (by omega) (by omega)]; omega)
  have hu := div_unique (a := wide x) (b := d) (q := wide r) (r := s) (by omega) (by show x.1 * 18446744073709551616 + x.2 = _; rw [f4, Int.mul_comm]) f2 f3; refine ⟨r, f1, hu.1, fun K => ?_⟩; rw [← hu.2]; exact f5 K
theorem low_unique (A B n d : Int) (k : Nat) (hk : 0 < k) (hd : 1 ≤ d) (hg : Nat.gcd n.natAbs d.natAbs = 1) (hA : A = k * n) (hB : B = k * d) : numI A B = n ∧ denI A B = d := by
  have hgcd : gcdI A B = (k : Int) := by
    unfold gcdI
    rw [hA, hB, Int.natAbs_mul, Int.natAbs_mul, Int.natAbs_natCast, Nat.gcd_mul_left, hg, Nat.mul_one]
  have hBp : ¬ B < 0 := by rw [hB]; have := Int.mul_nonneg (show (0 : Int) ≤ k by omega) (show 0 ≤ d by omega); omega
  have e1 : (A.natAbs : Int) / (k : Int) = (n.natAbs : Int) := by
    rw [hA, Int.natAbs_mul, Int.natAbs_natCast, Int.natCast_mul, Int.mul_ediv_cancel_left _ (by omega)]
  have e2 : (B.natAbs : Int) / (k : Int) = (d.natAbs : Int) := by
    rw [hB, Int.natAbs_mul, Int.natAbs_natCast, Int.natCast_mul, Int.mul_ediv_cancel_left _ (by omega)]
  unfold numI denI
  rw [hgcd, e1, e2, decide_eq_false hBp]
  have hs : (A < 0 ↔ n < 0) := by
    rw [hA]
    constructor
    · intro h
      rcases Int.lt_or_le n 0 with h2 | h2
      · exact h2
      · have := Int.mul_nonneg (show (0 : Int) ≤ k by omega) h2; omega
    · intro h; exact Int.mul_neg_of_pos_of_neg (by omega) h
  refine ⟨?_, by omega⟩
  unfold sgn
  by_cases c : n < 0
  · rw [decide_eq_true (hs.2 c)]; simp; omega
  · rw [decide_eq_false (fun z => c (hs.1 z))]; simp; omega
theorem chkF_no {n d : Int} (h : ¬ (d ≤ 1000000000000000000 ∧ (n.natAbs : Int) ≤ 1000000000000000000)) : chkF n d = (0, 0, false) := by
  refine if_neg (fun z => ?_); obtain ⟨⟨a0, a1⟩, ⟨a2, a3⟩, _⟩ := okF_iff.1 z.2.2; exact h ⟨a1, by omega⟩
theorem plus_eq {x y : Int × Int} (hx : IsWide x) (hy : IsWide y) (h : wide x + wide y < 340282366920938463463374607431768211456) : ∃ r, spec_l01Plus.f x.1 x.2 y.1 y.2 = some r ∧ IsWide r ∧ wide r = wide x + wide y := by
  obtain ⟨x1, x2⟩ := x; obtain ⟨y1, y2⟩ := y
  unfold IsWide at hx hy
  unfold wide at h
  unfold spec_l01Plus.f
  simp only at *
  by_cases c : x2 + y2 < 18446744073709551616
  · have w1 : IntKind.u64.wrap (x2 + y2) = x2 + y2 := u64_small (by omega) c; have w2 : IntKind.u64.wrap (x1 + y1) = x1 + y1 := u64_small (by omega) (by omega); rw [w1, w2, if_neg (by omega)]; exact ⟨_, rfl, ⟨by show 0 ≤ x1 + y1; omega, by show x1 + y1 < _; omega, by show 0 ≤ x2 + y2; omega, c⟩, by unfold wide; simp only; omega⟩
  · have w1 : IntKind.u64.wrap (x2 + y2) = x2 + y2 - 18446744073709551616 := by rw [wu64]; omega
    have w2 : IntKind.u64.wrap (x1 + y1) = x1 + y1 := u64_small (by omega) (by omega); have w3 : IntKind.u64.wrap (x1 + y1 + 1) = x1 + y1 + 1 := u64_small (by omega) (by omega); rw [w1, w2, w3, if_pos (by omega)]; exact ⟨_, rfl, ⟨by show 0 ≤ x1 + y1 + 1; omega, by show x1 + y1 + 1 < _; omega, by show 0 ≤ x2 + y2 - 18446744073709551616; omega, by show x2 + y2 - 18446744073709551616 < _; omega⟩, by unfold wide; simp only; omega⟩
theorem minus_eq {x y : Int × Int} (hx : IsWide x) (hy : IsWide y) (h : wide y ≤ wide x) : ∃ r, spec_l01Minus.f x.1 x.2 y.1 y.2 = some r ∧ IsWide r ∧ wide r = wide x - wide y := by
  obtain ⟨x1, x2⟩ := x; obtain ⟨y1, y2⟩ := y
  unfold IsWide at hx hy
  unfold wide at h
  unfold spec_l01Minus.f
  simp only at *
  by_cases c : x2 < y2
  · have w1 : IntKind.u64.wrap (x2 - y2) = x2 - y2 + 18446744073709551616 := by rw [wu64]; omega
    have w2 : IntKind.u64.wrap (x1 - y1) = x1 - y1 := u64_small (by omega) (by omega); have w3 : IntKind.u64.wrap (x1 - y1 - 1) = x1 - y1 - 1 := u64_small (by omega) (by omega); rw [w1, w2, w3, if_pos c]; exact ⟨_, rfl, ⟨by show 0 ≤ x1 - y1 - 1; omega, by show x1 - y1 - 1 < _; omega, by show 0 ≤ x2 - y2 + 18446744073709551616; omega, by show x2 - y2 + 18446744073709551616 < _; omega⟩, by unfold wide; simp only; omega⟩
  · have w1 : IntKind.u64.wrap (x2 - y2) = x2 - y2 := u64_small (by omega) (by omega); have w2 : IntKind.u64.wrap (x1 - y1) = x1 - y1 := u64_small (by omega) (by omega); rw [w1, w2, if_neg c]; exact ⟨_, rfl, ⟨by show 0 ≤ x1 - y1; omega, by show x1 - y1 < _; omega, by show 0 ≤ x2 - y2; omega, by show x2 - y2 < _; omega⟩, by unfold wide; simp only; omega⟩
theorem sum_coprime (α β γ ε : Nat) (S a c : Int) (ha : a.natAbs = α) (hc : c.natAbs = γ) (hS : S = a * (ε : Int) + c * (β : Int)) (h1 : Nat.Coprime α β) (h2 : Nat.Coprime β ε) : Nat.Coprime S.natAbs β := by
  unfold Nat.Coprime
  obtain ⟨g, hg⟩ : ∃ g, Nat.gcd S.natAbs β = g := ⟨_, rfl⟩; have d1 : g ∣ S.natAbs := hg ▸ Nat.gcd_dvd_left _ _; have d2 : g ∣ β := hg ▸ Nat.gcd_dvd_right _ _; have e1 : (g : Int) ∣ S := Int.ofNat_dvd_left.2 d1; have e2 : (g : Int) ∣ c * (β : Int) := Int.dvd_trans (Int.natCast_dvd_natCast.2 d2) ⟨c, Int.mul_comm ..⟩
  have e3 : (g : Int) ∣ a * (ε : Int) := by
    have h := Int.dvd_sub e1 e2
    have e : S - c * (β : Int) = a * (ε : Int) := by rw [hS]; omega
    rw [e] at h; exact h
  have d3 : g ∣ α * ε := by
    have h := Int.ofNat_dvd_left.1 e3; rw [Int.natAbs_mul, ha, Int.natAbs_natCast] at h; exact h
  have c1 : Nat.Coprime g α := Nat.Coprime.symm (Nat.Coprime.coprime_dvd_right d2 h1); have d4 : g ∣ ε := Nat.Coprime.dvd_of_dvd_mul_left c1 d3; have d5 : g ∣ Nat.gcd β ε := Nat.dvd_gcd d2 d4; rw [h2] at d5; rw [hg]; exact Nat.dvd_one.1 d5
theorem sum_low (a b c e : Int) (b1 : 1 ≤ b) (e1 : 1 ≤ e) (g1 : Nat.gcd a.natAbs b.natAbs = 1) (g2 : Nat.gcd c.natAbs e.natAbs = 1) (d β ε w t' δ : Nat) (S n : Int) (d0 : 0 < d) (w0 : 0 < w) (hb : b = d * (β : Int)) (he : e = d * (ε : Int)) (hcop : Nat.Coprime β ε) (hS : S = a * (ε : Int) + c * (β : Int)) (hn : S = w * n) (hw : d = w * δ) (hcw : Nat.Coprime n.natAbs δ) :
    numI (a * e + c * b) (b * e) = n ∧ denI (a * e + c * b) (b * e) = (β : Int) * ((ε * δ : Nat) : Int) := by
  have hbn : b.natAbs = d * β := by rw [hb, Int.natAbs_mul, Int.natAbs_natCast, Int.natAbs_natCast]
  have hen : e.natAbs = d * ε := by rw [he, Int.natAbs_mul, Int.natAbs_natCast, Int.natAbs_natCast]
  have ca : Nat.Coprime a.natAbs β := Nat.Coprime.coprime_dvd_right ⟨d, by rw [hbn, Nat.mul_comm]⟩ g1; have cc : Nat.Coprime c.natAbs ε := Nat.Coprime.coprime_dvd_right ⟨d, by rw [hen, Nat.mul_comm]⟩ g2; have s1 := sum_coprime _ β _ ε S a c rfl rfl hS ca hcop; have s2 := sum_coprime _ ε _ β S c a rfl rfl (by rw [hS, Int.add_comm]) cc hcop.symm
  have hSn : S.natAbs = w * n.natAbs := by rw [hn, Int.natAbs_mul, Int.natAbs_natCast]
  have n1 : Nat.Coprime n.natAbs β := Nat.Coprime.coprime_dvd_left ⟨w, by rw [hSn, Nat.mul_comm]⟩ s1; have n2 : Nat.Coprime n.natAbs ε := Nat.Coprime.coprime_dvd_left ⟨w, by rw [hSn, Nat.mul_comm]⟩ s2
  have hβ : 0 < β := by
    rcases Nat.eq_zero_or_pos β with h | h
    · rw [h] at hb; simp at hb; omega
    · exact h
  have hε : 0 < ε := by
    rcases Nat.eq_zero_or_pos ε with h | h
    · rw [h] at he; simp at he; omega
    · exact h
  have hδ : 0 < δ := by
    rcases Nat.eq_zero_or_pos δ with h | h
    · rw [h] at hw; simp at hw; omega
    · exact h
  have hpos : 0 < β * (ε * δ) := Nat.mul_pos hβ (Nat.mul_pos hε hδ); refine low_unique _ _ n _ (d * w) (Nat.mul_pos d0 w0) (by rw [← Int.natCast_mul]; omega) (by rw [← Int.natCast_mul, Int.natAbs_natCast]; exact Nat.Coprime.mul_right n1 (Nat.Coprime.mul_right n2 hcw)) ?_ ?_
  · have h1 : a * e + c * b = d * S := by rw [he, hb, hS]; grind
    rw [h1, hn, Int.natCast_mul]; grind
  · have h2 : (d : Int) = w * δ := by rw [hw, Int.natCast_mul]
    rw [hb, he, Int.natCast_mul, Int.natCast_mul]
    have h3 : (d : Int) * ε = (w * δ) * ε := by rw [h2]
    rw [h3]; grind
theorem tdiv_nat (b : Int) (d : Nat) (h0 : 0 ≤ b) (h1 : b < 9223372036854775808) : wrap64 (Int.tdiv b (d : Int)) = b / (d : Int) := by
  have e := Int.tdiv_eq_ediv_of_nonneg (b := (d : Int)) h0; have h2 : 0 ≤ b / (d : Int) := Int.ediv_nonneg h0 (by omega); have h3 : b / (d : Int) ≤ b := Int.ediv_le_self _ h0; rw [e, w64 (by omega) (by omega)]
theorem specFAdd_tail (a b c e : Int) (pb : Part b) (pe : Part e) (b1 : 1 ≤ b) (e1 : 1 ≤ e) (g1 : Nat.gcd a.natAbs b.natAbs = 1) (g2 : Nat.gcd c.natAbs e.natAbs = 1) (t : Int × Int) (ht : IsWide t) (minus : Bool) (hS : a * (e / ((Nat.gcd b.natAbs e.natAbs : Nat) : Int)) + c * (b / ((Nat.gcd b.natAbs e.natAbs : Nat) : Int)) = sgn minus (wide t)) : ∃ m, ∀ K, spec_l01FAdd.j0 (K + m) ((Nat.gcd b.natAbs e.natAbs : Nat) : Int) minus a b c e t.1 t.2 = some (mkF (a * e + c * b) (b * e)) := by
  obtain ⟨d, hd⟩ : ∃ d, Nat.gcd b.natAbs e.natAbs = d := ⟨_, rfl⟩
  have d0 : 0 < d := by rw [← hd]; exact Nat.gcd_pos_of_pos_left _ (by omega)
  have db : d ∣ b.natAbs := hd ▸ Nat.gcd_dvd_left _ _; have de : d ∣ e.natAbs := hd ▸ Nat.gcd_dvd_right _ _; have dle : d ≤ b.natAbs := Nat.le_of_dvd (by omega) db; obtain ⟨β, hβ⟩ := db; obtain ⟨ε, hε⟩ := de
  have eb : b = d * (β : Int) := by rw [← Int.natCast_mul, ← hβ]; omega
  have ee : e = d * (ε : Int) := by rw [← Int.natCast_mul, ← hε]; omega
  have qb : b / (d : Int) = β := by rw [eb]; exact Int.mul_ediv_cancel_left _ (by omega)
  have qe : e / (d : Int) = ε := by rw [ee]; exact Int.mul_ediv_cancel_left _ (by omega)
  have hcop : Nat.Coprime β ε := by
    have h := Nat.coprime_div_gcd_div_gcd (m := b.natAbs) (n := e.natAbs) (by rw [hd]; exact d0); rw [hd, hβ, hε, Nat.mul_div_cancel_left _ d0, Nat.mul_div_cancel_left _ d0] at h; exact h
  rw [hd] at hS ⊢; rw [qb, qe] at hS
  have pb' : b < 9223372036854775808 := by unfold Part at pb; omega
  have pe' : e < 9223372036854775808 := by unfold Part at pe; omega
  obtain ⟨T, hT⟩ := Int.eq_ofNat_of_zero_le (show 0 ≤ wide t by obtain ⟨x0, x1, x2, x3⟩ := ht; unfold wide; omega)
  obtain ⟨w, hw⟩ : ∃ w, Nat.gcd d T = w := ⟨_, rfl⟩
  have w0 : 0 < w := by rw [← hw]; exact Nat.gcd_pos_of_pos_left _ d0
  have wd : w ∣ d := hw ▸ Nat.gcd_dvd_left _ _; have wT : w ∣ T := hw ▸ Nat.gcd_dvd_right _ _; have wle : w ≤ d := Nat.le_of_dvd d0 wd
  have cdT : Nat.Coprime (d / w) (T / w) := by
    have h := Nat.coprime_div_gcd_div_gcd (m := d) (n := T) (by rw [hw]; exact w0); rw [hw] at h; exact h
  obtain ⟨δ, hδ⟩ := wd; obtain ⟨ν, hν⟩ := wT; rw [hδ, hν, Nat.mul_div_cancel_left _ w0, Nat.mul_div_cancel_left _ w0] at cdT
  have hsn : sgn minus (wide t) = w * sgn minus (ν : Int) := by
    rw [hT, hν, Int.natCast_mul]
    unfold sgn
    cases minus
    · rfl
    · simp [Int.mul_neg]
  have hna : (sgn minus (ν : Int)).natAbs = ν := by unfold sgn; cases minus <;> simp
  obtain ⟨n1, n2⟩ := sum_low a b c e b1 e1 g1 g2 d β ε w 0 δ _ (sgn minus (ν : Int)) d0 w0 eb ee hcop rfl (hS.trans hsn) hδ (by rw [hna]; exact cdT.symm)
  have cop : Nat.gcd (sgn minus (ν : Int)).natAbs ((β : Int) * ((ε * δ : Nat) : Int)).natAbs = 1 := by
    have h := (lowest (a * e + c * b) (b * e) (Int.mul_ne_zero (by omega) (by omega))).2; rw [n1, n2] at h; exact h
  have den1 : 1 ≤ (β : Int) * ((ε * δ : Nat) : Int) := by
    have h := (lowest (a * e + c * b) (b * e) (Int.mul_ne_zero (by omega) (by omega))).1; rw [n2] at h; exact h
  obtain ⟨r1, s1, s2, s3⟩ := split_is ht (d : Int) (by omega) (by omega); obtain ⟨r2, u1, u2, u3⟩ := split_is ht (w : Int) (by omega) (by omega)
  have hrest : wide t % (d : Int) = ((T % d : Nat) : Int) := by rw [hT]; exact (Int.natCast_emod T d).symm
  have hgr : Nat.gcd d (T % d) = w := by rw [Nat.gcd_comm, ← Nat.gcd_rec]; exact hw
  have hq : wide r2 = (ν : Int) := by rw [u2, hT, hν, Int.natCast_mul]; exact Int.mul_ediv_cancel_left _ (by omega)
  have qe2 : e / (w : Int) = ((ε * δ : Nat) : Int) := by
    have h : e = w * ((ε * δ : Nat) : Int) := by
      rw [ee, hδ, Int.natCast_mul, Int.natCast_mul]; grind
    rw [h]; exact Int.mul_ediv_cancel_left _ (by omega)
  have bβ : (β : Int) ≤ b := by rw [← qb]; exact Int.ediv_le_self _ (by omega)
  have bε : ((ε * δ : Nat) : Int) ≤ e := by rw [← qe2]; exact Int.ediv_le_self _ (by omega)
  obtain ⟨z, hz, wz, vz⟩ := times_eq (β : Int) ((ε * δ : Nat) : Int) (by omega) (by omega) (by omega) (by omega); refine ⟨129 + d + 3, fun K => ?_⟩; have hg := specGcd_loop d d (T % d) (Nat.le_of_lt (Nat.mod_lt _ d0)) (K + 130); rw [hgr] at hg; rw [show K + (129 + d + 3) = (K + 130 + d + 1) + 1 by omega]; simp only [spec_l01FAdd.j0]; have k1 := s3 (K + d + 2); have k2 := u3 (K + d + 2); rw [show K + d + 2 + 129 = K + 130 + d + 1 by omega] at k1 k2
  unfold spec_l01Gcd.f
  rw [k1]; simp only [Option.bind_some]; rw [hrest, show K + 130 + d + 1 = K + 130 + (d + 1) by omega, hg]; simp only [Option.bind_some]; rw [show K + 130 + (d + 1) = K + 130 + d + 1 by omega, k2]; simp only [Option.bind_some]; rw [small_eq u1, Option.bind_some, if_neg (show ¬ (d : Int) = 0 by omega), if_neg (show ¬ (w : Int) = 0 by omega), tdiv_nat b d (by omega) pb', tdiv_nat e w (by omega) pe', qb, qe2, hz]; simp only [Option.bind_some]; rw [small_eq wz]; simp only [Option.bind_some]
  unfold mkF
  rw [n1, n2]
  by_cases l1 : wide r2 ≤ 1000000000000000000
  · rw [if_pos l1]
    by_cases l2 : wide z ≤ 1000000000000000000
    · rw [if_pos l2]; simp only [if_pos, Bool.not_true, spec_l01FAdd.j1, Bool.false_eq_true, if_false]; rw [hq] at l1; rw [vz] at l2; rw [hq, vz]; have cy := chkF_yes den1 l2 (n := sgn minus (ν : Int)) (by unfold sgn; cases minus <;> simp <;> omega) (by unfold sgn; cases minus <;> simp <;> omega) cop; rw [cy]; have hw1 : wrap64 (-(ν : Int)) = -(ν : Int) := w64 (by omega) (by omega)
      have hz0 : ν = 0 → (β : Int) * ((ε * δ : Nat) : Int) = 1 := by
        intro h0; rw [hna, h0, Nat.gcd_zero_left] at cop
        omega
      cases minus with
      | true =>
        rw [if_pos rfl, hw1]
        by_cases h0 : ν = 0
        · rw [if_pos (by omega), hz0 h0]; rfl
        · rw [if_neg (by omega)]; rfl
      | false =>
        rw [if_neg (by decide)]
        by_cases h0 : ν = 0
        · rw [if_pos (by omega), hz0 h0]; rfl
        · rw [if_neg (by omega)]; rfl
    · rw [if_neg l2]; simp only [if_pos, Bool.not_false, spec_l01FAdd.j1]; rw [vz] at l2; rw [chkF_no (fun h => l2 h.1)]
  · rw [if_neg l1]; rw [hq] at l1; rw [chkF_no (fun h => l1 (by have := h.2; rw [hna] at this; exact this))]
    simp [spec_l01FAdd.j1]
theorem specFAdd (a b c e : Int) (pa : Part a) (pb : Part b) (pc : Part c) (pe : Part e) (b1 : 1 ≤ b) (e1 : 1 ≤ e) (g1 : Nat.gcd a.natAbs b.natAbs = 1) (g2 : Nat.gcd c.natAbs e.natAbs = 1) : ∃ m, ∀ K, spec_l01FAdd.f (K + m) a b c e = some (mkF (a * e + c * b) (b * e)) := by
  have pb' : b < 9223372036854775808 := by unfold Part at pb; omega
  have pe' : e < 9223372036854775808 := by unfold Part at pe; omega
  have qa := part_abs pa; have qc := part_abs pc; have hg0 : 0 < Nat.gcd b.natAbs e.natAbs := Nat.gcd_pos_of_pos_left _ (by omega); obtain ⟨β, hβ⟩ : ∃ β, b / ((Nat.gcd b.natAbs e.natAbs : Nat) : Int) = β := ⟨_, rfl⟩; obtain ⟨ε, hε⟩ : ∃ ε, e / ((Nat.gcd b.natAbs e.natAbs : Nat) : Int) = ε := ⟨_, rfl⟩
  have β0 : 0 ≤ β := by rw [← hβ]; exact Int.ediv_nonneg (by omega) (by omega)
  have ε0 : 0 ≤ ε := by rw [← hε]; exact Int.ediv_nonneg (by omega) (by omega)
  have β1 : β ≤ b := by rw [← hβ]; exact Int.ediv_le_self _ (by omega)
  have ε1 : ε ≤ e := by rw [← hε]; exact Int.ediv_le_self _ (by omega)
  obtain ⟨x, hx, wx, vx⟩ := times_eq (a.natAbs : Int) ε (by omega) qa.1 ε0 (by omega); obtain ⟨y, hy, wy, vy⟩ := times_eq (c.natAbs : Int) β (by omega) qc.1 β0 (by omega)
  have bx : wide x ≤ 1000000000000000000000000000000000000 := by
    rw [vx]; have := Int.mul_le_mul (show (a.natAbs : Int) ≤ 1000000000000000000 by unfold Part at pa; omega) (show ε ≤ 1000000000000000000 by unfold Part at pe; omega) ε0 (by omega)
    omega
  have by_ : wide y ≤ 1000000000000000000000000000000000000 := by
    rw [vy]; have := Int.mul_le_mul (show (c.natAbs : Int) ≤ 1000000000000000000 by unfold Part at pc; omega) (show β ≤ 1000000000000000000 by unfold Part at pb; omega) β0 (by omega)
    omega
  have sx : a * ε = sgn (decide (a < 0)) (wide x) := by
    rw [vx]; unfold sgn
    by_cases s : a < 0
    · rw [decide_eq_true s, if_pos rfl, ← Int.neg_mul]; congr 1; omega
    · rw [decide_eq_false s, if_neg (by decide)]; congr 1; omega
  have sy : c * β = sgn (decide (c < 0)) (wide y) := by
    rw [vy]; unfold sgn
    by_cases s : c < 0
    · rw [decide_eq_true s, if_pos rfl, ← Int.neg_mul]; congr 1; omega
    · rw [decide_eq_false s, if_neg (by decide)]; congr 1; omega
  have hgcd := fun K => specGcd_loop e.natAbs b.natAbs e.natAbs (Nat.le_refl _) K
  have eb : (b.natAbs : Int) = b := by omega
  have ee : (e.natAbs : Int) = e := by omega
  rw [eb, ee] at hgcd; obtain ⟨g, hg⟩ : ∃ g, Nat.gcd b.natAbs e.natAbs = g := ⟨_, rfl⟩
  have pre : ∀ K, spec_l01FAdd.f (K + (e.natAbs + 1)) a b c e = (if ((decide (a < 0)) == (decide (c < 0))) = true then ((spec_l01Plus.f x.1 x.2 y.1 y.2).bind fun bt => (spec_l01FAdd.j0 (K + (e.natAbs + 1)) (g : Int) (decide (a < 0)) a b c e bt.1 bt.2)) else ((spec_l01Less.f x.1 x.2 y.1 y.2).bind fun t497 => (if t497 = true then ((spec_l01Minus.f y.1 y.2 x.1 x.2).bind fun bt => (spec_l01FAdd.j0 (K + (e.natAbs + 1)) (g : Int) (decide (c < 0)) a b c e bt.1 bt.2)) else ((spec_l01Minus.f x.1 x.2 y.1 y.2).bind fun bt => (spec_l01FAdd.j0 (K + (e.natAbs + 1)) (g : Int) (decide (a < 0)) a b c e bt.1 bt.2))))) := by
    intro K; have h1 := hgcd K; rw [hg] at h1; rw [hg] at hβ hε hg0
    unfold spec_l01FAdd.f spec_l01Gcd.f
    rw [h1, Option.bind_some, specMax a qa.2, Option.bind_some, if_neg (show ¬ (g : Int) = 0 by omega), tdiv_nat e g (by omega) pe', hε, hx, Option.bind_some, specMax c qc.2, Option.bind_some, tdiv_nat b g (by omega) pb', hβ, hy, Option.bind_some]
  have fin : ∀ (t : Int × Int) (minus : Bool), IsWide t → a * ε + c * β = sgn minus (wide t) → (∀ K, spec_l01FAdd.f (K + (e.natAbs + 1)) a b c e = spec_l01FAdd.j0 (K + (e.natAbs + 1)) (g : Int) minus a b c e t.1 t.2) → ∃ m, ∀ K, spec_l01FAdd.f (K + m) a b c e = some (mkF (a * e + c * b) (b * e)) := by
    intro t minus wt hS hf; obtain ⟨m, hm⟩ := specFAdd_tail a b c e pb pe b1 e1 g1 g2 t wt minus (by rw [hβ, hε]; exact hS); rw [hg] at hm; refine ⟨m + (e.natAbs + 1), fun K => ?_⟩; have h2 := hm (K + (e.natAbs + 1)); rw [show K + (e.natAbs + 1) + m = K + m + (e.natAbs + 1) by omega] at h2; rw [show K + (m + (e.natAbs + 1)) = K + m + (e.natAbs + 1) by omega, hf]; exact h2
  by_cases s : decide (a < 0) = decide (c < 0)
  · obtain ⟨t, ht, wt, vt⟩ := plus_eq wx wy (by omega); refine fin t (decide (a < 0)) wt ?_ (fun K => ?_)
    · rw [sx, sy, ← s, vt]; unfold sgn; split <;> omega
    · rw [pre, if_pos (by rw [s]; exact beq_self_eq_true _), ht]; rfl
  · have hne : ¬ ((decide (a < 0)) == (decide (c < 0))) = true := fun h => s (eq_of_beq h)
    by_cases l : wide x < wide y
    · obtain ⟨t, ht, wt, vt⟩ := minus_eq wy wx (by omega); refine fin t (decide (c < 0)) wt ?_ (fun K => ?_)
      · rw [sx, sy, vt]; unfold sgn
        by_cases s1 : a < 0 <;> by_cases s2 : c < 0 <;> simp [s1, s2] at s ⊢ <;> omega
      · rw [pre, if_neg hne, less_eq wx wy, Option.bind_some, decide_eq_true l, if_pos rfl, ht]; rfl
    · obtain ⟨t, ht, wt, vt⟩ := minus_eq wx wy (by omega); refine fin t (decide (a < 0)) wt ?_ (fun K => ?_)
      · rw [sx, sy, vt]; unfold sgn
        by_cases s1 : a < 0 <;> by_cases s2 : c < 0 <;> simp [s1, s2] at s ⊢ <;> omega
      · rw [pre, if_neg hne, less_eq wx wy, Option.bind_some, decide_eq_false l, if_neg (by decide), ht]; rfl
end Go.Proofs.Ytenlaanknlafdaa.A

/- What eventually tells an answer, for the pure sides of the fractions. No conditions. -/
namespace Go.Proofs.Ytenlaanknlafdaa.Pure
set_option linter.unusedVariables false
set_option linter.unusedSimpArgs false
open Go.RowKit Go.Proofs.Ytenlaanknlafdaa.A Go.Proofs.YtenlaanknlafdaaW.PrintWords Go.Proofs.YtenlaanknlafdaaW.PrintLast Go.Proofs.YtenlaanknlafdaaW.PrintMore
theorem w64' {x : Int} (h0 : -9223372036854775808 ≤ x) (h1 : x < 9223372036854775808) : wrap64 x = x := by unfold wrap64; omega
theorem ev_at {α : Type} {g : Nat → Option α} {r : α} (h : ∃ m, ∀ K, g (K + m) = some r) : Ev g r := by
  obtain ⟨m, h⟩ := h
  refine ⟨m, fun k hk => ?_⟩
  have := h (k - m)
  rwa [Nat.sub_add_cancel hk] at this
theorem ev_is (n d : Int) : Ev (fun k => spec_l01FIs.f k n d) (okF n d) := ev_at (specFIs n d)
theorem chkF_ok {N D : Int} (h : (chkF N D).2.2 = true) : okF (chkF N D).1 (chkF N D).2.1 = true := by
  unfold chkF at *
  split
  · rename_i c; exact c.2.2
  · rename_i c; rw [if_neg c] at h; exact absurd h (by decide)
end Go.Proofs.Ytenlaanknlafdaa.Pure

/- Lists of fractions: copies, equality, validity, sums, of the program and of the reference. No conditions. -/
namespace Go.Proofs.Ytenlaanknlafdaa.Pure
set_option linter.unusedVariables false
set_option linter.unusedSimpArgs false
open Go.RowKit Go.Proofs.Ytenlaanknlafdaa.A Go.Proofs.YtenlaanknlafdaaW.PrintWords Go.Proofs.YtenlaanknlafdaaW.PrintLast Go.Proofs.YtenlaanknlafdaaW.PrintMore
abbrev IC := S23
abbrev LC := S33
def conv (c : LC) : IC := ⟨c.f0, c.f1⟩
theorem rdi (p : List IC) (x : IC) (l : List IC) (i : Int) (h : i = p.length) : rd_T23 (p ++ x :: l) i = x := by subst h; simp [rd_T23]
theorem rdl (p : List LC) (x : LC) (l : List LC) (i : Int) (h : i = p.length) : rd_T33 (p ++ x :: l) i = x := by subst h; simp [rd_T33]
theorem conv_loop : ∀ (l p : List LC) (k : Nat) (q r : List IC) (i : Int), i = p.length → q.length = p.length → r.length = l.length → l.length < k → (p ++ l).length ≤ 2000000 →
    laws_toFractionS.l0 k (p ++ l) (q ++ r) i = some (q ++ l.map conv)
  | [], p, k, q, r, i, hi, hq, hr, hk, hl => by
    obtain ⟨k, rfl⟩ : ∃ m, k = m + 1 := ⟨k - 1, by omega⟩; have : r = [] := List.eq_nil_of_length_eq_zero hr; subst this; simp only [laws_toFractionS.l0]; rw [if_neg (by simp [hi])]; simp
  | x :: l, p, k, q, r, i, hi, hq, hr, hk, hl => by
    obtain ⟨k, rfl⟩ : ∃ m, k = m + 1 := ⟨k - 1, by omega⟩; simp only [List.length_append, List.length_cons] at hl hk hr
    cases r with
    | nil => simp at hr
    | cons y r =>
    simp only [List.length_cons] at hr; simp only [laws_toFractionS.l0, laws_toFraction.f, Option.bind_some]
    have e : (q ++ y :: r).set (i : Int).toNat (⟨x.f0, x.f1⟩ : IC) = q ++ conv x :: r := by
      have : i.toNat = q.length := by omega
      rw [this]; simp [conv]
    rw [if_pos (by simp [hi]; omega), if_pos (by omega), if_pos (by simp; omega), rdl p x l i hi, e, w64' (x := i + 1) (by omega) (by omega)]; have h := conv_loop l (p ++ [x]) k (q ++ [conv x]) r (i + 1) (by simp [hi]) (by simp [hq]) (by omega) (by omega) (by simp; omega); simp only [List.append_assoc, List.singleton_append] at h; rw [h]; simp
theorem conv_eq (l : List LC) (hl : l.length ≤ 1048576) (k : Nat) (hk : l.length < k) : laws_toFractionS.f k l = some (l.map conv) := by
  unfold laws_toFractionS.f
  rw [if_pos (by omega), if_pos (by simp; omega)]; have := conv_loop l [] k [] (List.replicate ((l.length : Int) : Int).toNat z23) 0 rfl rfl (by simp) hk (by simp; omega); rw [List.nil_append, List.nil_append, List.nil_append] at this; exact this
theorem sz_eq (l : List LC) (hl : l.length ≤ maxLen) : ∃ r, laws_szFractionS.f l 1048576 = some r ∧ (r < 0 ∨ l.length ≤ 1048576) := by
  unfold laws_szFractionS.f
  have : maxLen = 9223372036854775807 := rfl; rw [w64' (by omega) (by omega)]
  split
  · exact ⟨_, rfl, .inl (by omega)⟩
  · exact ⟨_, rfl, .inr (by omega)⟩
theorem eqc_loop : ∀ (l p : List IC) (k : Nat) (i : Int), i = p.length → l.length < k → (p ++ l).length ≤ 2000000 → laws_eqFractionS.l0 k (p ++ l) (p ++ l) i = some true
  | [], p, k, i, hi, hk, hl => by
    obtain ⟨k, rfl⟩ : ∃ m, k = m + 1 := ⟨k - 1, by omega⟩; simp only [laws_eqFractionS.l0]; rw [if_neg (by simp [hi])]
  | x :: l, p, k, i, hi, hk, hl => by
    obtain ⟨k, rfl⟩ : ∃ m, k = m + 1 := ⟨k - 1, by omega⟩; simp only [List.length_append, List.length_cons] at hl hk; simp only [laws_eqFractionS.l0]
    have he : ∀ y : IC, laws_eqFraction.f y.f0 y.f1 y.f0 y.f1 = some true := fun y => eqF_self _ _
    rw [if_pos (by simp [hi]; omega), if_pos (by omega), if_pos (by simp [hi]; omega), he]; simp only [Option.bind_some, if_true]; rw [w64' (x := i + 1) (by omega) (by omega)]; have h := eqc_loop l (p ++ [x]) k (i + 1) (by simp [hi]) (by omega) (by simp; omega)
    simpa using h
theorem eqc_self (l : List IC) (hl : l.length ≤ 2000000) (k : Nat) (hk : l.length < k) : laws_eqFractionS.f k l l = some true := by
  unfold laws_eqFractionS.f; rw [if_pos rfl]
  have := eqc_loop l [] k 0 rfl hk (by simpa using hl)
  simpa using this
theorem ev_all : ∀ (l p : List IC) (i : Int), i = p.length → (p ++ l).length ≤ 2000000 → Ev (fun k => spec_l01FAll.l0 k (p ++ l) i) (l.all impl_SumFractions.ok)
  | [], p, i, hi, hl => by
    refine Ev.step (f := fun _ => some true) (fun k => ?_) (Ev.now _); simp only [spec_l01FAll.l0]; rw [if_neg (by simp [hi])]
  | x :: l, p, i, hi, hl => by
    have h := ev_all l (p ++ [x]) (i + 1) (by simp [hi]) (by simpa using hl); simp only [List.append_assoc, List.singleton_append] at h; simp only [List.length_append, List.length_cons] at hl; refine Ev.step (f := fun k => (spec_l01FIs.f k x.f0 x.f1).bind fun t => if t = true then spec_l01FAll.l0 k (p ++ x :: l) (i + 1) else some false) (fun k => ?_) (Ev.bind (ev_is _ _) ?_)
    · simp only [spec_l01FAll.l0]; rw [if_pos (by simp [hi]; omega), if_pos (by omega), rdi p x l i hi, w64' (x := i + 1) (by omega) (by omega)]
    · rw [List.all_cons]
      cases hx : okF x.f0 x.f1
      · have : impl_SumFractions.ok x = false := hx; rw [this]; exact Ev.now _
      · have : impl_SumFractions.ok x = true := hx; rw [this, Bool.true_and]; exact h
theorem ev_add (n d n' d' : Int) (h : okF n d = true) (h' : okF n' d' = true) : Ev (fun k => spec_l01FAdd.f k n d n' d') (mkF (n * d' + n' * d) (d * d')) := by
  obtain ⟨pn, pd, d1⟩ := okF_parts h; obtain ⟨pn', pd', d1'⟩ := okF_parts h'; exact ev_at (specFAdd n d n' d' pn pd pn' pd' d1 d1' (okF_iff.1 h).2.2 (okF_iff.1 h').2.2)
theorem ev_sum : ∀ (l p : List IC) (i n d : Int), i = p.length → (p ++ l).length ≤ 2000000 → okF n d = true → l.all impl_SumFractions.ok = true → Ev (fun k => spec_l01FSum.l0 k (p ++ l) i n d) (sumF l n d)
  | [], p, i, n, d, hi, hl, h0, ha => by
    refine Ev.step (f := fun _ => some (n, d, true)) (fun k => ?_) (Ev.now _); simp only [spec_l01FSum.l0]; rw [if_neg (by simp [hi])]
  | x :: l, p, i, n, d, hi, hl, h0, ha => by
    rw [List.all_cons, Bool.and_eq_true] at ha; have hx : okF x.f0 x.f1 = true := ha.1; have e : addR n d x.f0 x.f1 = mkF (n * x.f1 + x.f0 * d) (d * x.f1) := if_pos ⟨h0, hx⟩; have hl2 : (p ++ x :: l).length ≤ 2000000 := hl; simp only [List.length_append, List.length_cons] at hl; refine Ev.step (f := fun k => (spec_l01FAdd.f k n d x.f0 x.f1).bind fun r => if r.2.2 = true then spec_l01FSum.l0 k (p ++ x :: l) (i + 1) r.1 r.2.1 else some (0, 0, false)) (fun k => ?_) (Ev.bind (ev_add n d x.f0 x.f1 h0 hx) ?_)
    · simp only [spec_l01FSum.l0]; rw [if_pos (by simp [hi]; omega), if_pos (by omega), rdi p x l i hi, w64' (x := i + 1) (by omega) (by omega)]
    · unfold sumF
      rw [e]; obtain ⟨r, hr⟩ : ∃ r, mkF (n * x.f1 + x.f0 * d) (d * x.f1) = r := ⟨_, rfl⟩; rw [hr]
      cases c : r.2.2
      · simp only [if_neg (show ¬ (false = true) by decide)]; exact Ev.now _
      · simp only [if_true]
        have hok : okF r.1 r.2.1 = true := by
          rw [← hr] at c ⊢; exact chkF_ok c
        have h := ev_sum l (p ++ [x]) (i + 1) r.1 r.2.1 (by simp [hi]) (by simpa using hl2) hok ha.2
        simpa using h
end Go.Proofs.Ytenlaanknlafdaa.Pure

/- The pure side of FnExactSumFractions: for all lists the program's SumFractions and the reference's answer alike. No conditions. -/
namespace Go.Proofs.Ytenlaanknlafdaa.Pure
set_option linter.unusedVariables false
set_option linter.unusedSimpArgs false
open Go.RowKit Go.Proofs.Ytenlaanknlafdaa.A Go.Proofs.YtenlaanknlafdaaW.PrintWords Go.Proofs.YtenlaanknlafdaaW.PrintLast Go.Proofs.YtenlaanknlafdaaW.PrintMore
theorem ev_specSum (l : List IC) (hl : l.length ≤ 1048576) : Ev (fun k => spec_SumFractions.f k l) (if (l.length : Int) ≤ 64 ∧ l.all impl_SumFractions.ok = true then sumF l 0 1 else (0, 0, false)) := by
  unfold spec_SumFractions.f
  by_cases c : (l.length : Int) > 64
  · rw [if_neg (fun h => by omega)]; simp only [if_pos c]; exact Ev.now _
  · simp only [if_neg c]; have h := ev_all l [] 0 rfl (by simp; omega); simp only [List.nil_append] at h; refine Ev.bind (g := fun k => spec_l01FAll.f k l) h ?_
    cases ha : l.all impl_SumFractions.ok
    · rw [if_neg (fun h => absurd h.2 (by decide))]; simp only [if_neg (show ¬ (false = true) by decide)]; exact Ev.now _
    · rw [if_pos ⟨by omega, rfl⟩]; simp only [if_true]; have h := ev_sum l [] 0 0 1 rfl (by simp; omega) (by decide) ha; simp only [List.nil_append] at h; exact Ev.bind (g := fun k => spec_l01FSum.f k l) h (Ev.now _)
theorem FnExactSumFractions : laws_FnExactSumFractions.Pure := by
  intro l hw; refine Ev.rounds ?_
  unfold laws_FnExactSumFractions.f
  obtain ⟨r, hr, hc⟩ := sz_eq l hw.1; rw [hr]; simp only [Option.bind_some]
  by_cases h0 : r < 0
  · simp only [if_pos h0]; exact Ev.now _
  · have hl : l.length ≤ 1048576 := by omega
    simp only [if_neg h0]; have hconv : Ev (fun k => laws_toFractionS.f k l) (l.map conv) := ⟨l.length + 1, fun k hk => conv_eq l hl k (by omega)⟩; refine Ev.bind hconv ?_; refine Ev.bind (ev_specSum (l.map conv) (by simpa using hl)) ?_; refine Ev.bind hconv ?_; have hi : impl_SumFractions.f (l.map conv) = some (if ((l.map conv).length : Int) ≤ 64 ∧ (l.map conv).all impl_SumFractions.ok = true then sumF (l.map conv) 0 1 else (0, 0, false)) := rfl; rw [hi]; obtain ⟨R, hR⟩ : ∃ R, (if ((l.map conv).length : Int) ≤ 64 ∧ (l.map conv).all impl_SumFractions.ok = true then sumF (l.map conv) 0 1 else (0, 0, false)) = R := ⟨_, rfl⟩; rw [hR]; simp only [Option.bind_some]; rw [eqF_self]; simp only [Option.bind_some, if_true, bne_self_eq_false]; refine Ev.step (f := fun k => (laws_toFractionS.f k l).bind fun t => (laws_eqFractionS.f k (l.map conv) t).bind fun s => if s = true then some true else some false) (fun k => rfl) ?_; refine Ev.bind hconv ?_; refine Ev.bind (a := true) ⟨l.length + 1, fun k hk => eqc_self _ (by simp; omega) k (by simp; omega)⟩ ?_; exact Ev.now _
end Go.Proofs.Ytenlaanknlafdaa.Pure
