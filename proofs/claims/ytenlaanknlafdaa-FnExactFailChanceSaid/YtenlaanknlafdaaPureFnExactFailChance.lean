import Derived.Test.YtenlaanknlafdaaA16
import Derived.Test.YtenlaanknlafdaaA84
import Derived.Test.YtenlaanknlafdaaRats8
import Derived.Test.YtenlaanknlafdaaAPureOfFnExactFailChance
/- The reference's fractions in lowest terms are the program's. Conditions: parts of at most MaxPart. -/
namespace Go.Proofs.Ytenlaanknlafdaa.A
set_option linter.unusedVariables false
set_option linter.unusedSimpArgs false
open Go.RowKit Go.Proofs.YtenlaanknlafdaaW.PrintWords Go.Proofs.YtenlaanknlafdaaW.PrintLast Go.Proofs.YtenlaanknlafdaaW.PrintMore
theorem specGcd_loop : ∀ (m a b : Nat), b ≤ m → ∀ K, spec_l01Gcd.l0 (K + (m + 1)) (a : Int) (b : Int) = some ((Nat.gcd a b : Nat) : Int) := by
  intro m
  induction m with
  | zero =>
    intro a b hb K
    have e : b = 0 := by omega
    subst e
    show spec_l01Gcd.l0 (K + 0 + 1) (a : Int) 0 = _
    unfold spec_l01Gcd.l0
    rw [if_neg (by omega)]
    simp
  | succ m ih =>
    intro a b hb K
    rw [show K + (m + 1 + 1) = K + (m + 1) + 1 by omega]
    unfold spec_l01Gcd.l0
    by_cases h : b = 0
    · subst h
      rw [if_neg (by omega)]; simp
    · have hlt : a % b < b := Nat.mod_lt _ (by omega)
      have e : Int.tmod (a : Int) (b : Int) = ((a % b : Nat) : Int) := by rw [Int.tmod_eq_emod_of_nonneg (by omega)]; exact (Int.natCast_emod a b).symm
      rw [if_pos (by omega), if_neg (by omega), e, ih b (a % b) (by omega) K, Nat.gcd_comm b, ← Nat.gcd_rec, Nat.gcd_comm]
theorem specMax (a : Int) (h : a.natAbs ≤ 9223372036854775807) : spec_l00Max.f a (wrap64 (-a)) = some (a.natAbs : Int) := by
  have hw : wrap64 (-a) = -a := w64 (by omega) (by omega)
  rw [hw]
  unfold spec_l00Max.f
  by_cases c : a > -a
  · rw [if_pos c]; congr 1; omega
  · rw [if_neg c]; congr 1; omega
theorem tdiv_sgn (a : Int) (g : Nat) : Int.tdiv a (g : Int) = sgn (decide (a < 0)) ((a.natAbs : Int) / (g : Int)) := by
  unfold sgn
  by_cases c : a < 0
  · rw [decide_eq_true c, if_pos rfl]
    have e : a = -(a.natAbs : Int) := by omega
    rw [show (Int.tdiv a (g : Int)) = Int.tdiv (-(a.natAbs : Int)) (g : Int) by rw [← e], Int.neg_tdiv, Int.tdiv_eq_ediv_of_nonneg (by omega)]
  · rw [decide_eq_false c, if_neg (by decide), Int.tdiv_eq_ediv_of_nonneg (by omega)]
    congr 1; omega
theorem gcdI_pos (a b : Int) (hb : b ≠ 0) : 0 < gcdI a b := by
  have := Nat.gcd_pos_of_pos_right a.natAbs (show 0 < b.natAbs by omega)
  unfold gcdI; omega
theorem specFMake (a b : Int) (hb : b ≠ 0) (ha : a.natAbs ≤ 9223372036854775807) (hb' : b.natAbs ≤ 9223372036854775807) : ∃ m, ∀ K, spec_l01FMake.f (K + m) a b = some (numI a b, denI a b) := by
  refine ⟨b.natAbs + 1, fun K => ?_⟩
  have hg := gcdI_pos a b hb
  have hn := numI_le a b
  have hd := denI_le a b
  have ew : wrap64 (numI a b) = numI a b := w64 (by omega) (by omega)
  have ew2 : wrap64 (denI a b) = denI a b := w64 (by omega) (by omega)
  have hg0 : ¬ ((Nat.gcd a.natAbs b.natAbs : Nat) : Int) = 0 := by unfold gcdI at hg; omega
  unfold spec_l01FMake.f spec_l01Gcd.f
  by_cases c : b < 0
  · have wa : wrap64 (-a) = -a := w64 (by omega) (by omega)
    have wb : wrap64 (-b) = -b := w64 (by omega) (by omega)
    have eb : -b = (b.natAbs : Int) := by omega
    rw [if_pos c, wa, specMax (-a) (by omega), Option.bind_some, wb, eb, Int.natAbs_neg, specGcd_loop b.natAbs a.natAbs b.natAbs (Nat.le_refl _) K, Option.bind_some, if_neg hg0]
    have e1 : Int.tdiv (-a) ((Nat.gcd a.natAbs b.natAbs : Nat) : Int) = numI a b := by
      rw [tdiv_sgn, Int.natAbs_neg]
      unfold numI gcdI
      rw [decide_eq_true c]
      by_cases h0 : a = 0
      · subst h0; simp [sgn]
      · congr 1
        by_cases h : a < 0 <;> simp [h] <;> omega
    have e2 : Int.tdiv (b.natAbs : Int) ((Nat.gcd a.natAbs b.natAbs : Nat) : Int) = denI a b := by rw [Int.tdiv_eq_ediv_of_nonneg (by omega)]; rfl
    rw [e1, e2, ew, ew2]
  · rw [if_neg c, specMax a ha, Option.bind_some]
    have eb : b = (b.natAbs : Int) := by omega
    have e1 : Int.tdiv a ((Nat.gcd a.natAbs b.natAbs : Nat) : Int) = numI a b := by
      rw [tdiv_sgn]
      unfold numI gcdI
      rw [decide_eq_false c]
      congr 1
      cases decide (a < 0) <;> rfl
    have e2 : Int.tdiv b ((Nat.gcd a.natAbs b.natAbs : Nat) : Int) = denI a b := by
      rw [Int.tdiv_eq_ediv_of_nonneg (by omega)]; unfold denI gcdI; congr 1
    have hgl := specGcd_loop b.natAbs a.natAbs b.natAbs (Nat.le_refl _) K
    rw [← eb] at hgl
    rw [hgl, Option.bind_some, if_neg hg0, e1, e2, ew, ew2]
theorem lowest (a b : Int) (hb : b ≠ 0) : 1 ≤ denI a b ∧ Nat.gcd (numI a b).natAbs (denI a b).natAbs = 1 := by
  have hg : 0 < Nat.gcd a.natAbs b.natAbs := Nat.gcd_pos_of_pos_right _ (by omega)
  have e1 : (denI a b).natAbs = b.natAbs / Nat.gcd a.natAbs b.natAbs := by
    unfold denI gcdI; rw [← Int.natCast_ediv, Int.natAbs_natCast]
  have e2 : (numI a b).natAbs = a.natAbs / Nat.gcd a.natAbs b.natAbs := by
    unfold numI gcdI sgn; rw [← Int.natCast_ediv]
    split
    · rw [Int.natAbs_neg, Int.natAbs_natCast]
    · rw [Int.natAbs_natCast]
  have h1 : 0 < b.natAbs / Nat.gcd a.natAbs b.natAbs := Nat.div_pos (Nat.le_of_dvd (by omega) (Nat.gcd_dvd_right _ _)) hg
  have h0 : 0 ≤ denI a b := by unfold denI gcdI; exact Int.ediv_nonneg (by omega) (by omega)
  exact ⟨by omega, by rw [e1, e2]; exact Nat.coprime_div_gcd_div_gcd hg⟩
theorem chkF_yes {n d : Int} (h1 : 1 ≤ d) (h2 : d ≤ 1000000000000000000) (h3 : -1000000000000000000 ≤ n) (h4 : n ≤ 1000000000000000000) (hg : Nat.gcd n.natAbs d.natAbs = 1) : chkF n d = (n, d, true) := by
  have c1 : in64 n = true := decide_eq_true ⟨by omega, by omega⟩
  have c2 : in64 d = true := decide_eq_true ⟨by omega, by omega⟩
  exact if_pos ⟨c1, c2, okF_iff.2 ⟨⟨h1, h2⟩, ⟨h3, h4⟩, hg⟩⟩
theorem mkF_small (a b : Int) (hb : b ≠ 0) (ha : a.natAbs ≤ 1000000000000000000) (hb' : b.natAbs ≤ 1000000000000000000) : mkF a b = (numI a b, denI a b, true) := by
  obtain ⟨h1, h2⟩ := lowest a b hb
  have h3 := numI_le a b
  have h4 := denI_le a b
  exact chkF_yes h1 (by omega) (by omega) (by omega) h2
theorem eqF_self (a b : Int) : laws_eqFraction.f a b a b = some true := by unfold laws_eqFraction.f; rw [if_pos rfl, if_pos rfl]
theorem in_is (a b c : Int) : spec_l00In.f a b c = some (decide (b ≤ a ∧ a ≤ c)) := by
  unfold spec_l00In.f
  by_cases h : a ≥ b
  · rw [if_pos h]; have h' : b ≤ a := h; simp [h']
  · rw [if_neg h]; have h' : ¬ b ≤ a := h; simp [h']
/-- The number of two words. -/
def wide (r : Int × Int) : Int := r.1 * 18446744073709551616 + r.2
def IsWide (r : Int × Int) : Prop := 0 ≤ r.1 ∧ r.1 < 18446744073709551616 ∧ 0 ≤ r.2 ∧ r.2 < 18446744073709551616
theorem times_words (x1 x0 y1 y0 : Int) (a0 : 0 ≤ x1) (a1 : x1 < 2147483648) (b0 : 0 ≤ x0) (b1 : x0 < 4294967296) (c0 : 0 ≤ y1) (c1 : y1 < 2147483648) (d0 : 0 ≤ y0) (d1 : y0 < 4294967296) : ∀ p q r s M : Int, x1 * y1 = p → x1 * y0 = q → x0 * y1 = r → x0 * y0 = s → s / 4294967296 + q % 4294967296 + r % 4294967296 = M →
    (0 ≤ p ∧ p ≤ 2147483647 * 2147483647) ∧ (0 ≤ q ∧ q ≤ 2147483647 * 4294967295) ∧ (0 ≤ r ∧ r ≤ 4294967295 * 2147483647) ∧ (0 ≤ s ∧ s ≤ 4294967295 * 4294967295) ∧ 0 ≤ M ∧ M < 12884901888 ∧ (p + q / 4294967296 + r / 4294967296 + M / 4294967296) * 18446744073709551616 + (M % 4294967296 * 4294967296 + s % 4294967296) = (x1 * 4294967296 + x0) * (y1 * 4294967296 + y0) := by
  intro p q r s M hp hq hr hs hM
  have p0 : 0 ≤ p := by rw [← hp]; exact Int.mul_nonneg a0 c0
  have p1 : p ≤ 2147483647 * 2147483647 := by rw [← hp]; exact Int.mul_le_mul (by omega) (by omega) c0 (by omega)
  have q0 : 0 ≤ q := by rw [← hq]; exact Int.mul_nonneg a0 d0
  have q1 : q ≤ 2147483647 * 4294967295 := by rw [← hq]; exact Int.mul_le_mul (by omega) (by omega) d0 (by omega)
  have r0 : 0 ≤ r := by rw [← hr]; exact Int.mul_nonneg b0 c0
  have r1 : r ≤ 4294967295 * 2147483647 := by rw [← hr]; exact Int.mul_le_mul (by omega) (by omega) c0 (by omega)
  have s0 : 0 ≤ s := by rw [← hs]; exact Int.mul_nonneg b0 d0
  have s1 : s ≤ 4294967295 * 4294967295 := by rw [← hs]; exact Int.mul_le_mul (by omega) (by omega) d0 (by omega)
  have e : (x1 * 4294967296 + x0) * (y1 * 4294967296 + y0) = p * 18446744073709551616 + (q + r) * 4294967296 + s := by rw [← hp, ← hq, ← hr, ← hs]; grind
  refine ⟨⟨p0, p1⟩, ⟨q0, q1⟩, ⟨r0, r1⟩, ⟨s0, s1⟩, by omega, by omega, ?_⟩
  rw [e]
  omega
theorem times_eq (a b : Int) (a0 : 0 ≤ a) (a1 : a < 9223372036854775808) (b0 : 0 ≤ b) (b1 : b < 9223372036854775808) : ∃ r, spec_l01Times.f a b = some r ∧ IsWide r ∧ wide r = a * b := by
  obtain ⟨x1, hx1⟩ : ∃ x1, a / 4294967296 = x1 := ⟨_, rfl⟩
  obtain ⟨x0, hx0⟩ : ∃ x0, a % 4294967296 = x0 := ⟨_, rfl⟩
  obtain ⟨y1, hy1⟩ : ∃ y1, b / 4294967296 = y1 := ⟨_, rfl⟩
  obtain ⟨y0, hy0⟩ : ∃ y0, b % 4294967296 = y0 := ⟨_, rfl⟩
  have ea : x1 * 4294967296 + x0 = a := by omega
  have eb : y1 * 4294967296 + y0 = b := by omega
  have i1 : 0 ≤ x1 ∧ x1 < 2147483648 := by omega
  have i2 : 0 ≤ x0 ∧ x0 < 4294967296 := by omega
  have i3 : 0 ≤ y1 ∧ y1 < 2147483648 := by omega
  have i4 : 0 ≤ y0 ∧ y0 < 4294967296 := by omega
  obtain ⟨p, hp⟩ : ∃ p, x1 * y1 = p := ⟨_, rfl⟩
  obtain ⟨q, hq⟩ : ∃ q, x1 * y0 = q := ⟨_, rfl⟩
  obtain ⟨r, hr⟩ : ∃ r, x0 * y1 = r := ⟨_, rfl⟩
  obtain ⟨s, hs⟩ : ∃ s, x0 * y0 = s := ⟨_, rfl⟩
  obtain ⟨M, hM⟩ : ∃ M, s / 4294967296 + q % 4294967296 + r % 4294967296 = M := ⟨_, rfl⟩
  obtain ⟨⟨p0, p1⟩, ⟨q0, q1⟩, ⟨r0, r1⟩, ⟨s0, s1⟩, M0, M1, hv⟩ := times_words x1 x0 y1 y0 i1.1 i1.2 i2.1 i2.2 i3.1 i3.2 i4.1 i4.2 p q r s M hp hq hr hs hM
  rw [ea, eb] at hv
  have ta : Int.tdiv a 4294967296 = x1 := by rw [Int.tdiv_eq_ediv_of_nonneg a0]; exact hx1
  have tb : Int.tdiv b 4294967296 = y1 := by rw [Int.tdiv_eq_ediv_of_nonneg b0]; exact hy1
  have ma : Int.tmod a 4294967296 = x0 := by rw [Int.tmod_eq_emod_of_nonneg a0]; exact hx0
  have mb : Int.tmod b 4294967296 = y0 := by rw [Int.tmod_eq_emod_of_nonneg b0]; exact hy0
  have tq : Int.tdiv q 4294967296 = q / 4294967296 := Int.tdiv_eq_ediv_of_nonneg q0
  have tr : Int.tdiv r 4294967296 = r / 4294967296 := Int.tdiv_eq_ediv_of_nonneg r0
  have ts : Int.tdiv s 4294967296 = s / 4294967296 := Int.tdiv_eq_ediv_of_nonneg s0
  have tM : Int.tdiv M 4294967296 = M / 4294967296 := Int.tdiv_eq_ediv_of_nonneg M0
  have mq : Int.tmod q 4294967296 = q % 4294967296 := Int.tmod_eq_emod_of_nonneg q0
  have mr : Int.tmod r 4294967296 = r % 4294967296 := Int.tmod_eq_emod_of_nonneg r0
  have ms : Int.tmod s 4294967296 = s % 4294967296 := Int.tmod_eq_emod_of_nonneg s0
  have mm : M * 4294967296 % 18446744073709551616 = M % 4294967296 * 4294967296 := by omega
  refine ⟨(p + q / 4294967296 + r / 4294967296 + M / 4294967296, M % 4294967296 * 4294967296 + s % 4294967296), ?_, ⟨by show 0 ≤ p + q / 4294967296 + r / 4294967296 + M / 4294967296; omega, by show p + q / 4294967296 + r / 4294967296 + M / 4294967296 < _; omega, by show 0 ≤ M % 4294967296 * 4294967296 + s % 4294967296; omega, by show M % 4294967296 * 4294967296 + s % 4294967296 < _; omega⟩, hv⟩
  unfold spec_l01Times.f
  rw [u64_small a0 (by omega), u64_small b0 (by omega), ta, tb, ma, mb, u64_small i1.1 (by omega), u64_small i3.1 (by omega), hp, hq, hr, hs, u64_small p0 (by omega), u64_small q0 (by omega), u64_small r0 (by omega), u64_small s0 (by omega), tq, tr, ts, mq, mr, ms,
    u64_small (x := q / 4294967296) (by omega) (by omega), u64_small (x := r / 4294967296) (by omega) (by omega), u64_small (x := s / 4294967296) (by omega) (by omega), u64_small (x := s / 4294967296 + q % 4294967296) (by omega) (by omega), u64_small (x := s / 4294967296 + q % 4294967296 + r % 4294967296) (by omega) (by omega), hM, tM,
    u64_small (x := M / 4294967296) (by omega) (by omega), u64_small (x := p + q / 4294967296) (by omega) (by omega), u64_small (x := p + q / 4294967296 + r / 4294967296) (by omega) (by omega), u64_small (x := p + q / 4294967296 + r / 4294967296 + M / 4294967296) (by omega) (by omega), wu64, mm, or32 (M % 4294967296) (s % 4294967296) (by omega) (by omega) (by omega) (by omega)]
theorem less_eq {x y : Int × Int} (hx : IsWide x) (hy : IsWide y) : spec_l01Less.f x.1 x.2 y.1 y.2 = some (decide (wide x < wide y)) := by
  obtain ⟨x1, x2⟩ := x
  obtain ⟨y1, y2⟩ := y
  unfold IsWide at hx hy
  unfold spec_l01Less.f wide
  simp only at *
  by_cases h : x1 < y1
  · rw [if_pos h, decide_eq_true (by omega)]
  · rw [if_neg h]
    by_cases h2 : x1 = y1
    · rw [if_pos h2]
      by_cases h3 : x2 < y2
      · rw [decide_eq_true h3, decide_eq_true (by omega)]
      · rw [decide_eq_false h3, decide_eq_false (by omega)]
    · rw [if_neg h2, decide_eq_false (by omega)]
theorem small_eq {x : Int × Int} (hx : IsWide x) : spec_l01Small.f x.1 x.2 = some (if wide x ≤ 1000000000000000000 then (wide x, true) else (0, false)) := by
  obtain ⟨x1, x2⟩ := x
  unfold IsWide at hx
  unfold spec_l01Small.f wide
  simp only at *
  by_cases h : x1 > 0
  · rw [if_pos h, if_neg (by omega)]
  · rw [if_neg h]
    have e : x1 = 0 := by omega
    subst e
    by_cases h2 : x2 > 1000000000000000000
    · rw [if_pos h2, if_neg (by omega)]
    · rw [if_neg h2, if_pos (by omega), w64 (by omega) (by omega), Int.zero_mul, Int.zero_add]
theorem specFIs (n d : Int) : ∃ m, ∀ K, spec_l01FIs.f (K + m) n d = some (okF n d) := by
  by_cases h1 : 1 ≤ d ∧ d ≤ 1000000000000000000
  · by_cases h2 : -1000000000000000000 ≤ n ∧ n ≤ 1000000000000000000
    · refine ⟨d.natAbs + 1, fun K => ?_⟩
      have hg := specGcd_loop d.natAbs n.natAbs d.natAbs (Nat.le_refl _) K
      have ed : (d.natAbs : Int) = d := by omega
      rw [ed] at hg
      unfold spec_l01FIs.f spec_l01Gcd.f
      rw [in_is, in_is, decide_eq_true h1, decide_eq_true h2]
      simp only [Option.bind_some, if_pos]
      rw [specMax n (by omega), Option.bind_some, hg, Option.bind_some]
      congr 1
      unfold okF
      by_cases h3 : Nat.gcd n.natAbs d.natAbs = 1
      · rw [decide_eq_true (show _ ∧ _ ∧ _ from ⟨h1, h2, h3⟩), h3]; rfl
      · rw [decide_eq_false (fun h => h3 h.2.2), beq_eq_false_iff_ne]; omega
    · refine ⟨0, fun K => ?_⟩
      unfold spec_l01FIs.f okF
      rw [in_is, in_is, decide_eq_true h1, decide_eq_false h2, decide_eq_false (fun h => h2 h.2.1)]
      rfl
  · refine ⟨0, fun K => ?_⟩
    unfold spec_l01FIs.f okF
    rw [in_is, decide_eq_false h1, decide_eq_false (fun h => h1 h.1)]
    rfl
theorem part_abs {n : Int} (h : Part n) : (n.natAbs : Int) < 9223372036854775808 ∧ n.natAbs ≤ 9223372036854775807 := by unfold Part at h; omega
end Go.Proofs.Ytenlaanknlafdaa.A

/- What eventually tells an answer, for the pure sides of the fractions. No conditions. -/
namespace Go.Proofs.Ytenlaanknlafdaa.Pure
set_option linter.unusedVariables false
set_option linter.unusedSimpArgs false
open Go.RowKit Go.Proofs.Ytenlaanknlafdaa.A Go.Proofs.YtenlaanknlafdaaW.PrintWords Go.Proofs.YtenlaanknlafdaaW.PrintLast Go.Proofs.YtenlaanknlafdaaW.PrintMore
theorem w64' {x : Int} (h0 : -9223372036854775808 ≤ x) (h1 : x < 9223372036854775808) : wrap64 x = x := by unfold wrap64; omega
theorem ev_at {α : Type} {g : Nat → Option α} {r : α} (h : ∃ m, ∀ K, g (K + m) = some r) : Ev g r := by
  obtain ⟨m, h⟩ := h
  refine ⟨m, fun k hk => ?_⟩
  have := h (k - m)
  rwa [Nat.sub_add_cancel hk] at this
theorem ev_const {α : Type} {g : Nat → Option α} {r : α} (h : ∀ k, g k = some r) : Ev g r := ⟨0, fun k _ => h k⟩
theorem ev_is (n d : Int) : Ev (fun k => spec_l01FIs.f k n d) (okF n d) := ev_at (specFIs n d)
theorem chkF_ok {N D : Int} (h : (chkF N D).2.2 = true) : okF (chkF N D).1 (chkF N D).2.1 = true := by
  unfold chkF at *
  split
  · rename_i c; exact c.2.2
  · rename_i c; rw [if_neg c] at h; exact absurd h (by decide)
end Go.Proofs.Ytenlaanknlafdaa.Pure

/- Fractions in lowest terms. Conditions: valid fractions. -/
namespace Go.Proofs.Ytenlaanknlafdaa.A
set_option linter.unusedVariables false
set_option linter.unusedSimpArgs false
open Go.RowKit Go.Proofs.YtenlaanknlafdaaW.PrintWords Go.Proofs.YtenlaanknlafdaaW.PrintLast Go.Proofs.YtenlaanknlafdaaW.PrintMore
/-- A fraction in lowest terms that is as great is the one. -/
theorem low_unique (A B n d : Int) (k : Nat) (hk : 0 < k) (hd : 1 ≤ d) (hg : Nat.gcd n.natAbs d.natAbs = 1) (hA : A = k * n) (hB : B = k * d) : numI A B = n ∧ denI A B = d := by
  have hgcd : gcdI A B = (k : Int) := by
    unfold gcdI
    rw [hA, hB, Int.natAbs_mul, Int.natAbs_mul, Int.natAbs_natCast, Nat.gcd_mul_left, hg, Nat.mul_one]
  have hBp : ¬ B < 0 := by rw [hB]; have := Int.mul_nonneg (show (0 : Int) ≤ k by omega) (show 0 ≤ d by omega); omega
  have e1 : (A.natAbs : Int) / (k : Int) = (n.natAbs : Int) := by
    rw [hA, Int.natAbs_mul, Int.natAbs_natCast, Int.natCast_mul, Int.mul_ediv_cancel_left _ (by omega)]
  have e2 : (B.natAbs : Int) / (k : Int) = (d.natAbs : Int) := by
    rw [hB, Int.natAbs_mul, Int.natAbs_natCast, Int.natCast_mul, Int.mul_ediv_cancel_left _ (by omega)]
  unfold numI denI
  rw [hgcd, e1, e2, decide_eq_false hBp]
  have hs : (A < 0 ↔ n < 0) := by
    rw [hA]
    constructor
    · intro h
      rcases Int.lt_or_le n 0 with h2 | h2
      · exact h2
      · have := Int.mul_nonneg (show (0 : Int) ≤ k by omega) h2; omega
    · intro h; exact Int.mul_neg_of_pos_of_neg (by omega) h
  refine ⟨?_, by omega⟩
  unfold sgn
  by_cases c : n < 0
  · rw [decide_eq_true (hs.2 c)]; simp; omega
  · rw [decide_eq_false (fun z => c (hs.1 z))]; simp; omega
theorem cast_mul_abs (a b : Int) : ((a * b).natAbs : Int) = (a.natAbs : Int) * (b.natAbs : Int) := by rw [Int.natAbs_mul, Int.natCast_mul]
theorem chkF_no {n d : Int} (h : ¬ (d ≤ 1000000000000000000 ∧ (n.natAbs : Int) ≤ 1000000000000000000)) : chkF n d = (0, 0, false) := by
  refine if_neg (fun z => ?_)
  obtain ⟨⟨a0, a1⟩, ⟨a2, a3⟩, _⟩ := okF_iff.1 z.2.2
  exact h ⟨a1, by omega⟩
/-- Numbers of a fraction in lowest terms, and their greatest common divisor. -/
theorem low_parts (a e : Int) (he : 1 ≤ e) : ∃ g : Nat, 0 < g ∧ a = g * numI a e ∧ e = g * denI a e ∧ 1 ≤ denI a e ∧ Nat.gcd (numI a e).natAbs (denI a e).natAbs = 1 := by
  have hl := lowest a e (by omega)
  refine ⟨Nat.gcd a.natAbs e.natAbs, Nat.gcd_pos_of_pos_right _ (by omega), ?_, ?_, hl.1, hl.2⟩
  · unfold numI gcdI sgn
    rw [decide_eq_false (show ¬ e < 0 by omega)]
    have h := Nat.mul_div_cancel' (Nat.gcd_dvd_left a.natAbs e.natAbs)
    have h' : ((Nat.gcd a.natAbs e.natAbs : Nat) : Int) * ((a.natAbs : Int) / ((Nat.gcd a.natAbs e.natAbs : Nat) : Int)) = (a.natAbs : Int) := by rw [← Int.natCast_ediv, ← Int.natCast_mul, h]
    by_cases c : a < 0
    · rw [decide_eq_true c]; simp; rw [Int.mul_neg, h']; omega
    · rw [decide_eq_false c]; simp; rw [h']; omega
  · unfold denI gcdI
    have h := Nat.mul_div_cancel' (Nat.gcd_dvd_right a.natAbs e.natAbs)
    rw [← Int.natCast_ediv, ← Int.natCast_mul, h]; omega
/-- The product of two fractions in lowest terms, as both reckon it. -/
theorem specFMul (a b c e : Int) (pa : Part a) (pb : Part b) (pc : Part c) (pe : Part e) (b1 : 1 ≤ b) (e1 : 1 ≤ e) (g1 : Nat.gcd a.natAbs b.natAbs = 1) (g2 : Nat.gcd c.natAbs e.natAbs = 1) : ∃ m, ∀ K, spec_l01FMul.f (K + m) a b c e = some (mkF (a * c) (b * e)) := by
  obtain ⟨m1, h1⟩ := specFMake a e (by omega) (part_abs pa).2 (part_abs pe).2
  obtain ⟨m2, h2⟩ := specFMake c b (by omega) (part_abs pc).2 (part_abs pb).2
  obtain ⟨u, u0, ua, ue, ud, ug⟩ := low_parts a e e1
  obtain ⟨v, v0, vc, vb, vd, vg⟩ := low_parts c b b1
  have na := numI_le a e
  have nc := numI_le c b
  have de := denI_le a e
  have db := denI_le c b
  have qa := part_abs pa
  have qc := part_abs pc
  have qe := part_abs pe
  have qb := part_abs pb
  obtain ⟨x, hx⟩ : ∃ x, numI a e = x := ⟨_, rfl⟩
  obtain ⟨y, hy⟩ : ∃ y, numI c b = y := ⟨_, rfl⟩
  obtain ⟨z, hz⟩ : ∃ z, denI a e = z := ⟨_, rfl⟩
  obtain ⟨t, ht⟩ : ∃ t, denI c b = t := ⟨_, rfl⟩
  rw [hx, hz] at h1; rw [hy, ht] at h2
  rw [hx] at ua ug na; rw [hz] at ue ud ug de; rw [hy] at vc vg nc; rw [ht] at vb vd vg db
  -- what is left has no common divisor
  have cxz : Nat.Coprime x.natAbs z.natAbs := ug
  have cyt : Nat.Coprime y.natAbs t.natAbs := vg
  have ea : a.natAbs = u * x.natAbs := by rw [ua, Int.natAbs_mul, Int.natAbs_natCast]
  have ee : e.natAbs = u * z.natAbs := by rw [ue, Int.natAbs_mul, Int.natAbs_natCast]
  have ec : c.natAbs = v * y.natAbs := by rw [vc, Int.natAbs_mul, Int.natAbs_natCast]
  have eb : b.natAbs = v * t.natAbs := by rw [vb, Int.natAbs_mul, Int.natAbs_natCast]
  have cxt : Nat.Coprime x.natAbs t.natAbs := by
    have h : Nat.Coprime a.natAbs b.natAbs := g1
    exact Nat.Coprime.coprime_dvd_left ⟨u, by rw [ea, Nat.mul_comm]⟩ (Nat.Coprime.coprime_dvd_right ⟨v, by rw [eb, Nat.mul_comm]⟩ h)
  have cyz : Nat.Coprime y.natAbs z.natAbs := by
    have h : Nat.Coprime c.natAbs e.natAbs := g2
    exact Nat.Coprime.coprime_dvd_left ⟨v, by rw [ec, Nat.mul_comm]⟩ (Nat.Coprime.coprime_dvd_right ⟨u, by rw [ee, Nat.mul_comm]⟩ h)
  have call : Nat.gcd (x * y).natAbs (t * z).natAbs = 1 := by
    rw [Int.natAbs_mul, Int.natAbs_mul]
    exact Nat.Coprime.mul_left (Nat.Coprime.mul_right cxt cxz) (Nat.Coprime.mul_right cyt cyz)
  have tz1 : 1 ≤ t * z := by have := Int.mul_le_mul vd ud (by omega) (by omega); omega
  obtain ⟨n1, n2⟩ := low_unique (a * c) (b * e) (x * y) (t * z) (u * v) (Nat.mul_pos u0 v0) tz1 call (by rw [ua, vc, Int.natCast_mul]; grind) (by rw [ue, vb, Int.natCast_mul]; grind)
  obtain ⟨p, hp, wp, vp⟩ := times_eq (x.natAbs : Int) (y.natAbs : Int) (by omega) (by omega) (by omega) (by omega)
  obtain ⟨q, hq, wq, vq⟩ := times_eq z t (by omega) (by omega) (by omega) (by omega)
  have vp' : wide p = ((x * y).natAbs : Int) := by rw [vp, cast_mul_abs]
  have vq' : wide q = t * z := by rw [vq, Int.mul_comm]
  refine ⟨m1 + m2 + 1, fun K => ?_⟩
  have h1' := h1 (K + m2 + 1)
  have h2' := h2 (K + m1 + 1)
  rw [show K + m2 + 1 + m1 = K + (m1 + m2 + 1) by omega] at h1'
  rw [show K + m1 + 1 + m2 = K + (m1 + m2 + 1) by omega] at h2'
  unfold spec_l01FMul.f
  rw [h1']
  simp only [Option.bind_some]
  rw [h2']
  simp only [Option.bind_some]
  rw [specMax x (by omega), Option.bind_some, specMax y (by omega), Option.bind_some, hp]
  simp only [Option.bind_some]
  rw [small_eq wp, Option.bind_some, hq]
  simp only [Option.bind_some]
  rw [small_eq wq]
  simp only [Option.bind_some]
  rw [show K + (m1 + m2 + 1) = (K + m1 + m2) + 1 by omega]
  unfold mkF
  rw [n1, n2]
  have hsg : (decide (x < 0) != decide (y < 0)) = true → x * y ≤ 0 := by
    intro h
    by_cases s : x < 0 <;> by_cases s' : y < 0 <;> simp [s, s'] at h
    · exact Int.mul_nonpos_of_nonpos_of_nonneg (by omega) (by omega)
    · exact Int.mul_nonpos_of_nonneg_of_nonpos (by omega) (by omega)
  have hsg' : ¬ (decide (x < 0) != decide (y < 0)) = true → 0 ≤ x * y := by
    intro h
    by_cases s : x < 0 <;> by_cases s' : y < 0 <;> simp [s, s'] at h
    · exact Int.mul_nonneg_of_nonpos_of_nonpos (by omega) (by omega)
    · exact Int.mul_nonneg (by omega) (by omega)
  by_cases l1 : wide p ≤ 1000000000000000000
  · rw [if_pos l1]
    by_cases l2 : wide q ≤ 1000000000000000000
    · rw [if_pos l2]
      simp only [if_pos, Bool.not_true, spec_l01FMul.j0, Bool.false_eq_true, if_false]
      rw [vp'] at l1; rw [vq'] at l2
      rw [chkF_yes tz1 l2 (by omega) (by omega) call, vp', vq']
      by_cases s : (decide (x < 0) != decide (y < 0)) = true
      · have h0 := hsg s
        rw [if_pos s, w64 (by omega) (by omega)]
        congr 2; omega
      · have h0 := hsg' s
        rw [if_neg s]
        congr 2; omega
    · rw [if_neg l2]
      simp only [if_pos, Bool.not_false, spec_l01FMul.j0]
      rw [vq'] at l2
      rw [chkF_no (fun h => l2 h.1)]
  · rw [if_neg l1]
    rw [vp'] at l1
    rw [chkF_no (fun h => l1 h.2)]
    simp [spec_l01FMul.j0]
end Go.Proofs.Ytenlaanknlafdaa.A

/- The pure side of FnExactFailChance: for all arguments the program's FailChance and the reference's answer alike. No conditions. -/
namespace Go.Proofs.Ytenlaanknlafdaa.Pure
set_option linter.unusedVariables false
set_option linter.unusedSimpArgs false
open Go.RowKit Go.Proofs.Ytenlaanknlafdaa.A Go.Proofs.YtenlaanknlafdaaW.PrintWords Go.Proofs.YtenlaanknlafdaaW.PrintLast Go.Proofs.YtenlaanknlafdaaW.PrintMore
theorem ev_mul (n d n' d' : Int) (h : okF n d = true) (h' : okF n' d' = true) : Ev (fun k => spec_l01FMul.f k n d n' d') (mkF (n * n') (d * d')) := by
  obtain ⟨pn, pd, d1⟩ := okF_parts h
  obtain ⟨pn', pd', d1'⟩ := okF_parts h'
  exact ev_at (specFMul n d n' d' pn pd pn' pd' d1 d1' (okF_iff.1 h).2.2 (okF_iff.1 h').2.2)
theorem ev_chance (n d : Int) (h : okF n d = true) : ∀ (N : Nat) (a b : Int), N ≤ 16 → okF a b = true → Ev (fun k => spec_FailChance.l0 k (N : Int) n d a b) (mulN n d N a b)
  | 0, a, b, hN, h0 => by
    refine Ev.step (f := fun _ => some (a, b, true)) (fun k => ?_) (Ev.now _)
    simp only [spec_FailChance.l0]; rw [if_neg (by omega)]
  | N + 1, a, b, hN, h0 => by
    have e : mulR a b n d = mkF (a * n) (b * d) := if_pos ⟨h0, h⟩
    refine Ev.step (f := fun k => (spec_l01FMul.f k a b n d).bind fun r => if r.2.2 = true then spec_FailChance.l0 k (N : Int) n d r.1 r.2.1 else some (0, 0, false)) (fun k => ?_) (Ev.bind (ev_mul a b n d h0 h) ?_)
    · simp only [spec_FailChance.l0]
      rw [if_pos (by omega), show wrap64 (((N + 1 : Nat) : Int) - 1) = (N : Int) by unfold wrap64; omega]
    · rw [mul_next, e]
      obtain ⟨r, hr⟩ : ∃ r, mkF (a * n) (b * d) = r := ⟨_, rfl⟩
      rw [hr]
      cases c : r.2.2
      · simp only [if_neg (show ¬ (false = true) by decide)]; exact Ev.now _
      · simp only [if_true]
        have hok : okF r.1 r.2.1 = true := by
          rw [← hr] at c ⊢
          exact chkF_ok c
        exact ev_chance n d h N r.1 r.2.1 (by omega) hok
theorem ev_specChance (n d s : Int) : Ev (fun k => spec_FailChance.f k n d s) (if chanceOk n d s then mulN n d s.toNat 1 1 else (0, 0, false)) := by
  have no : Ev (fun k => spec_FailChance.j0 k s true n d) (0, 0, false) := Ev.step (f := fun _ => some (0, 0, false)) (fun k => rfl) (Ev.now _)
  unfold spec_FailChance.f
  refine Ev.bind (ev_is n d) ?_
  cases h : okF n d
  · rw [if_neg (fun z => by have h_ := z.1; rw [h] at h_; exact absurd h_ (by decide))]
    simp only [if_neg (show ¬ (false = true) by decide)]
    exact no
  · simp only [if_true]
    by_cases c1 : n < 0
    · rw [if_neg (fun z => by have := z.2.1; omega)]
      simp only [if_pos c1]; exact no
    · simp only [if_neg c1]
      by_cases c2 : n > d
      · rw [if_neg (fun z => by have := z.2.2.1; omega)]
        simp only [if_pos c2]; exact no
      · simp only [if_neg c2]
        rw [in_is]
        simp only [Option.bind_some]
        by_cases c : 0 ≤ s ∧ s ≤ 16
        · rw [decide_eq_true c, if_pos ⟨h, by omega, by omega, c.1, c.2⟩]
          obtain ⟨N, rfl⟩ := Int.eq_ofNat_of_zero_le c.1
          rw [Int.toNat_natCast]
          refine Ev.step (f := fun k => spec_FailChance.l0 k (N : Int) n d 1 1) (fun k => ?_) (ev_chance n d h N 1 1 (by omega) (by decide))
          rfl
        · rw [decide_eq_false c, if_neg (fun z => c z.2.2.2)]; exact no
theorem FnExactFailChance : laws_FnExactFailChance.Pure := by
  rintro ⟨n, d⟩ s _ _
  refine Ev.rounds ?_
  show Ev (fun k => laws_FnExactFailChance.f k n d s) true
  unfold laws_FnExactFailChance.f laws_toFraction.f
  simp only [Option.bind_some]
  refine Ev.bind (ev_specChance n d s) ?_
  have hi : impl_FailChance.f n d s = some (if chanceOk n d s then mulN n d s.toNat 1 1 else (0, 0, false)) := rfl
  rw [hi]
  obtain ⟨R, hR⟩ : ∃ R, (if chanceOk n d s then mulN n d s.toNat 1 1 else (0, 0, false)) = R := ⟨_, rfl⟩
  rw [hR]
  simp only [Option.bind_some]
  rw [eqF_self]
  simp only [Option.bind_some, if_true, bne_self_eq_false, if_neg (show ¬ (false = true) by decide)]
  exact Ev.now _
end Go.Proofs.Ytenlaanknlafdaa.Pure
