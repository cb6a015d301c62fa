import Derived.Test.YtenlaanknlafdaaA16
import Derived.Test.YtenlaanknlafdaaA87
import Derived.Test.YtenlaanknlafdaaRats8
import Derived.Test.YtenlaanknlafdaaAPureOfFnExactBestRatio
/- The reference's fractions in lowest terms are the program's. Conditions: parts of at most MaxPart. -/
namespace Go.Proofs.Ytenlaanknlafdaa.A
set_option linter.unusedVariables false
set_option linter.unusedSimpArgs false
open Go.RowKit Go.Proofs.YtenlaanknlafdaaW.PrintWords Go.Proofs.YtenlaanknlafdaaW.PrintLast Go.Proofs.YtenlaanknlafdaaW.PrintMore
theorem specGcd_loop : ∀ (m a b : Nat), b ≤ m → ∀ K, spec_l01Gcd.l0 (K + (m + 1)) (a : Int) (b : Int) = some ((Nat.gcd a b : Nat) : Int) := by
  intro m
  induction m with
  | zero =>
    intro a b hb K
    have e : b = 0 := by omega
    subst e
    show spec_l01Gcd.l0 (K + 0 + 1) (a : Int) 0 = _
    unfold spec_l01Gcd.l0
    rw [if_neg (by omega)]
    simp
  | succ m ih =>
    intro a b hb K
    rw [show K + (m + 1 + 1) = K + (m + 1) + 1 by omega]
    unfold spec_l01Gcd.l0
    by_cases h : b = 0
    · subst h
      rw [if_neg (by omega)]; simp
    · have hlt : a % b < b := Nat.mod_lt _ (by omega)
      have e : Int.tmod (a : Int) (b : Int) = ((a % b : Nat) : Int) := by rw [Int.tmod_eq_emod_of_nonneg (by omega)]; exact (Int.natCast_emod a b).symm
      rw [if_pos (by omega), if_neg (by omega), e, ih b (a % b) (by omega) K, Nat.gcd_comm b, ← Nat.gcd_rec, Nat.gcd_comm]
theorem specMax (a : Int) (h : a.natAbs ≤ 9223372036854775807) : spec_l00Max.f a (wrap64 (-a)) = some (a.natAbs : Int) := by
  have hw : wrap64 (-a) = -a := w64 (by omega) (by omega)
  rw [hw]
  unfold spec_l00Max.f
  by_cases c : a > -a
  · rw [if_pos c]; congr 1; omega
  · rw [if_neg c]; congr 1; omega
theorem tdiv_sgn (a : Int) (g : Nat) : Int.tdiv a (g : Int) = sgn (decide (a < 0)) ((a.natAbs : Int) / (g : Int)) := by
  unfold sgn
  by_cases c : a < 0
  · rw [decide_eq_true c, if_pos rfl]
    have e : a = -(a.natAbs : Int) := by omega
    rw [show (Int.tdiv a (g : Int)) = Int.tdiv (-(a.natAbs : Int)) (g : Int) by rw [← e], Int.neg_tdiv, Int.tdiv_eq_ediv_of_nonneg (by omega)]
  · rw [decide_eq_false c, if_neg (by decide), Int.tdiv_eq_ediv_of_nonneg (by omega)]
    congr 1; omega
theorem gcdI_pos (a b : Int) (hb : b ≠ 0) : 0 < gcdI a b := by
  have := Nat.gcd_pos_of_pos_right a.natAbs (show 0 < b.natAbs by omega)
  unfold gcdI; omega
theorem specFMake (a b : Int) (hb : b ≠ 0) (ha : a.natAbs ≤ 9223372036854775807) (hb' : b.natAbs ≤ 9223372036854775807) : ∃ m, ∀ K, spec_l01FMake.f (K + m) a b = some (numI a b, denI a b) := by
  refine ⟨b.natAbs + 1, fun K => ?_⟩
  have hg := gcdI_pos a b hb
  have hn := numI_le a b
  have hd := denI_le a b
  have ew : wrap64 (numI a b) = numI a b := w64 (by omega) (by omega)
  have ew2 : wrap64 (denI a b) = denI a b := w64 (by omega) (by omega)
  have hg0 : ¬ ((Nat.gcd a.natAbs b.natAbs : Nat) : Int) = 0 := by unfold gcdI at hg; omega
  unfold spec_l01FMake.f spec_l01Gcd.f
  by_cases c : b < 0
  · have wa : wrap64 (-a) = -a := w64 (by omega) (by omega)
    have wb : wrap64 (-b) = -b := w64 (by omega) (by omega)
    have eb : -b = (b.natAbs : Int) := by omega
    rw [if_pos c, wa, specMax (-a) (by omega), Option.bind_some, wb, eb, Int.natAbs_neg, specGcd_loop b.natAbs a.natAbs b.natAbs (Nat.le_refl _) K, Option.bind_some, if_neg hg0]
    have e1 : Int.tdiv (-a) ((Nat.gcd a.natAbs b.natAbs : Nat) : Int) = numI a b := by
      rw [tdiv_sgn, Int.natAbs_neg]
      unfold numI gcdI
      rw [decide_eq_true c]
      by_cases h0 : a = 0
      · subst h0; simp [sgn]
      · congr 1
        by_cases h : a < 0 <;> simp [h] <;> omega
    have e2 : Int.tdiv (b.natAbs : Int) ((Nat.gcd a.natAbs b.natAbs : Nat) : Int) = denI a b := by rw [Int.tdiv_eq_ediv_of_nonneg (by omega)]; rfl
    rw [e1, e2, ew, ew2]
  · rw [if_neg c, specMax a ha, Option.bind_some]
    have eb : b = (b.natAbs : Int) := by omega
    have e1 : Int.tdiv a ((Nat.gcd a.natAbs b.natAbs : Nat) : Int) = numI a b := by
      rw [tdiv_sgn]
      unfold numI gcdI
      rw [decide_eq_false c]
      congr 1
      cases decide (a < 0) <;> rfl
    have e2 : Int.tdiv b ((Nat.gcd a.natAbs b.natAbs : Nat) : Int) = denI a b := by
      rw [Int.tdiv_eq_ediv_of_nonneg (by omega)]; unfold denI gcdI; congr 1
    have hgl := specGcd_loop b.natAbs a.natAbs b.natAbs (Nat.le_refl _) K
    rw [← eb] at hgl
    rw [hgl, Option.bind_some, if_neg hg0, e1, e2, ew, ew2]
theorem lowest (a b : Int) (hb : b ≠ 0) : 1 ≤ denI a b ∧ Nat.gcd (numI a b).natAbs (denI a b).natAbs = 1 := by
  have hg : 0 < Nat.gcd a.natAbs b.natAbs := Nat.gcd_pos_of_pos_right _ (by omega)
  have e1 : (denI a b).natAbs = b.natAbs / Nat.gcd a.natAbs b.natAbs := by
    unfold denI gcdI; rw [← Int.natCast_ediv, Int.natAbs_natCast]
  have e2 : (numI a b).natAbs = a.natAbs / Nat.gcd a.natAbs b.natAbs := by
    unfold numI gcdI sgn; rw [← Int.natCast_ediv]
    split
    · rw [Int.natAbs_neg, Int.natAbs_natCast]
    · rw [Int.natAbs_natCast]
  have h1 : 0 < b.natAbs / Nat.gcd a.natAbs b.natAbs := Nat.div_pos (Nat.le_of_dvd (by omega) (Nat.gcd_dvd_right _ _)) hg
  have h0 : 0 ≤ denI a b := by unfold denI gcdI; exact Int.ediv_nonneg (by omega) (by omega)
  exact ⟨by omega, by rw [e1, e2]; exact Nat.coprime_div_gcd_div_gcd hg⟩
theorem chkF_yes {n d : Int} (h1 : 1 ≤ d) (h2 : d ≤ 1000000000000000000) (h3 : -1000000000000000000 ≤ n) (h4 : n ≤ 1000000000000000000) (hg : Nat.gcd n.natAbs d.natAbs = 1) : chkF n d = (n, d, true) := by
  have c1 : in64 n = true := decide_eq_true ⟨by omega, by omega⟩
  have c2 : in64 d = true := decide_eq_true ⟨by omega, by omega⟩
  exact if_pos ⟨c1, c2, okF_iff.2 ⟨⟨h1, h2⟩, ⟨h3, h4⟩, hg⟩⟩
theorem mkF_small (a b : Int) (hb : b ≠ 0) (ha : a.natAbs ≤ 1000000000000000000) (hb' : b.natAbs ≤ 1000000000000000000) : mkF a b = (numI a b, denI a b, true) := by
  obtain ⟨h1, h2⟩ := lowest a b hb
  have h3 := numI_le a b
  have h4 := denI_le a b
  exact chkF_yes h1 (by omega) (by omega) (by omega) h2
theorem eqF_self (a b : Int) : laws_eqFraction.f a b a b = some true := by unfold laws_eqFraction.f; rw [if_pos rfl, if_pos rfl]
theorem in_is (a b c : Int) : spec_l00In.f a b c = some (decide (b ≤ a ∧ a ≤ c)) := by
  unfold spec_l00In.f
  by_cases h : a ≥ b
  · rw [if_pos h]; have h' : b ≤ a := h; simp [h']
  · rw [if_neg h]; have h' : ¬ b ≤ a := h; simp [h']
/-- The number of two words. -/
def wide (r : Int × Int) : Int := r.1 * 18446744073709551616 + r.2
def IsWide (r : Int × Int) : Prop := 0 ≤ r.1 ∧ r.1 < 18446744073709551616 ∧ 0 ≤ r.2 ∧ r.2 < 18446744073709551616
theorem times_words (x1 x0 y1 y0 : Int) (a0 : 0 ≤ x1) (a1 : x1 < 2147483648) (b0 : 0 ≤ x0) (b1 : x0 < 4294967296) (c0 : 0 ≤ y1) (c1 : y1 < 2147483648) (d0 : 0 ≤ y0) (d1 : y0 < 4294967296) : ∀ p q r s M : Int, x1 * y1 = p → x1 * y0 = q → x0 * y1 = r → x0 * y0 = s → s / 4294967296 + q % 4294967296 + r % 4294967296 = M →
    (0 ≤ p ∧ p ≤ 2147483647 * 2147483647) ∧ (0 ≤ q ∧ q ≤ 2147483647 * 4294967295) ∧ (0 ≤ r ∧ r ≤ 4294967295 * 2147483647) ∧ (0 ≤ s ∧ s ≤ 4294967295 * 4294967295) ∧ 0 ≤ M ∧ M < 12884901888 ∧ (p + q / 4294967296 + r / 4294967296 + M / 4294967296) * 18446744073709551616 + (M % 4294967296 * 4294967296 + s % 4294967296) = (x1 * 4294967296 + x0) * (y1 * 4294967296 + y0) := by
  intro p q r s M hp hq hr hs hM
  have p0 : 0 ≤ p := by rw [← hp]; exact Int.mul_nonneg a0 c0
  have p1 : p ≤ 2147483647 * 2147483647 := by rw [← hp]; exact Int.mul_le_mul (by omega) (by omega) c0 (by omega)
  have q0 : 0 ≤ q := by rw [← hq]; exact Int.mul_nonneg a0 d0
  have q1 : q ≤ 2147483647 * 4294967295 := by rw [← hq]; exact Int.mul_le_mul (by omega) (by omega) d0 (by omega)
  have r0 : 0 ≤ r := by rw [← hr]; exact Int.mul_nonneg b0 c0
  have r1 : r ≤ 4294967295 * 2147483647 := by rw [← hr]; exact Int.mul_le_mul (by omega) (by omega) c0 (by omega)
  have s0 : 0 ≤ s := by rw [← hs]; exact Int.mul_nonneg b0 d0
  have s1 : s ≤ 4294967295 * 4294967295 := by rw [← hs]; exact Int.mul_le_mul (by omega) (by omega) d0 (by omega)
  have e : (x1 * 4294967296 + x0) * (y1 * 4294967296 + y0) = p * 18446744073709551616 + (q + r) * 4294967296 + s := by rw [← hp, ← hq, ← hr, ← hs]; grind
  refine ⟨⟨p0, p1⟩, ⟨q0, q1⟩, ⟨r0, r1⟩, ⟨s0, s1⟩, by omega, by omega, ?_⟩
  rw [e]
  omega
theorem times_eq (a b : Int) (a0 : 0 ≤ a) (a1 : a < 9223372036854775808) (b0 : 0 ≤ b) (b1 : b < 9223372036854775808) : ∃ r, spec_l01Times.f a b = some r ∧ IsWide r ∧ wide r = a * b := by
  obtain ⟨x1, hx1⟩ : ∃ x1, a / 4294967296 = x1 := ⟨_, rfl⟩
  obtain ⟨x0, hx0⟩ : ∃ x0, a % 4294967296 = x0 := ⟨_, rfl⟩
  obtain ⟨y1, hy1⟩ : ∃ y1, b / 4294967296 = y1 := ⟨_, rfl⟩
  obtain ⟨y0, hy0⟩ : ∃ y0, b % 4294967296 = y0 := ⟨_, rfl⟩
  have ea : x1 * 4294967296 + x0 = a := by omega
  have eb : y1 * 4294967296 + y0 = b := by omega
  have i1 : 0 ≤ x1 ∧ x1 < 2147483648 := by omega
  have i2 : 0 ≤ x0 ∧ x0 < 4294967296 := by omega
  have i3 : 0 ≤ y1 ∧ y1 < 2147483648 := by omega
  have i4 : 0 ≤ y0 ∧ y0 < 4294967296 := by omega
  obtain ⟨p, hp⟩ : ∃ p, x1 * y1 = p := ⟨_, rfl⟩
  obtain ⟨q, hq⟩ : ∃ q, x1 * y0 = q := ⟨_, rfl⟩
  obtain ⟨r, hr⟩ : ∃ r, x0 * y1 = r := ⟨_, rfl⟩
  obtain ⟨s, hs⟩ : ∃ s, x0 * y0 = s := ⟨_, rfl⟩
  obtain ⟨M, hM⟩ : ∃ M, s / 4294967296 + q % 4294967296 + r % 4294967296 = M := ⟨_, rfl⟩
  obtain ⟨⟨p0, p1⟩, ⟨q0, q1⟩, ⟨r0, r1⟩, ⟨s0, s1⟩, M0, M1, hv⟩ := times_words x1 x0 y1 y0 i1.1 i1.2 i2.1 i2.2 i3.1 i3.2 i4.1 i4.2 p q r s M hp hq hr hs hM
  rw [ea, eb] at hv
  have ta : Int.tdiv a 4294967296 = x1 := by rw [Int.tdiv_eq_ediv_of_nonneg a0]; exact hx1
  have tb : Int.tdiv b 4294967296 = y1 := by rw [Int.tdiv_eq_ediv_of_nonneg b0]; exact hy1
  have ma : Int.tmod a 4294967296 = x0 := by rw [Int.tmod_eq_emod_of_nonneg a0]; exact hx0
  have mb : Int.tmod b 4294967296 = y0 := by rw [Int.tmod_eq_emod_of_nonneg b0]; exact hy0
  have tq : Int.tdiv q 4294967296 = q / 4294967296 := Int.tdiv_eq_ediv_of_nonneg q0
  have tr : Int.tdiv r 4294967296 = r / 4294967296 := Int.tdiv_eq_ediv_of_nonneg r0
  have ts : Int.tdiv s 4294967296 = s / 4294967296 := Int.tdiv_eq_ediv_of_nonneg s0
  have tM : Int.tdiv M 4294967296 = M / 4294967296 := Int.tdiv_eq_ediv_of_nonneg M0
  have mq : Int.tmod q 4294967296 = q % 4294967296 := Int.tmod_eq_emod_of_nonneg q0
  have mr : Int.tmod r 4294967296 = r % 4294967296 := Int.tmod_eq_emod_of_nonneg r0
  have ms : Int.tmod s 4294967296 = s % 4294967296 := Int.tmod_eq_emod_of_nonneg s0
  have mm : M * 4294967296 % 18446744073709551616 = M % 4294967296 * 4294967296 := by omega
  refine ⟨(p + q / 4294967296 + r / 4294967296 + M / 4294967296, M % 4294967296 * 4294967296 + s % 4294967296), ?_, ⟨by show 0 ≤ p + q / 4294967296 + r / 4294967296 + M / 4294967296; omega, by show p + q / 4294967296 + r / 4294967296 + M / 4294967296 < _; omega, by show 0 ≤ M % 4294967296 * 4294967296 + s % 4294967296; omega, by show M % 4294967296 * 4294967296 + s % 4294967296 < _; omega⟩, hv⟩
  unfold spec_l01Times.f
  rw [u64_small a0 (by omega), u64_small b0 (by omega), ta, tb, ma, mb, u64_small i1.1 (by omega), u64_small i3.1 (by omega), hp, hq, hr, hs, u64_small p0 (by omega), u64_small q0 (by omega), u64_small r0 (by omega), u64_small s0 (by omega), tq, tr, ts, mq, mr, ms,
    u64_small (x := q / 4294967296) (by omega) (by omega), u64_small (x := r / 4294967296) (by omega) (by omega), u64_small (x := s / 4294967296) (by omega) (by omega), u64_small (x := s / 4294967296 + q % 4294967296) (by omega) (by omega), u64_small (x := s / 4294967296 + q % 4294967296 + r % 4294967296) (by omega) (by omega), hM, tM,
    u64_small (x := M / 4294967296) (by omega) (by omega), u64_small (x := p + q / 4294967296) (by omega) (by omega), u64_small (x := p + q / 4294967296 + r / 4294967296) (by omega) (by omega), u64_small (x := p + q / 4294967296 + r / 4294967296 + M / 4294967296) (by omega) (by omega), wu64, mm, or32 (M % 4294967296) (s % 4294967296) (by omega) (by omega) (by omega) (by omega)]
theorem less_eq {x y : Int × Int} (hx : IsWide x) (hy : IsWide y) : spec_l01Less.f x.1 x.2 y.1 y.2 = some (decide (wide x < wide y)) := by
  obtain ⟨x1, x2⟩ := x
  obtain ⟨y1, y2⟩ := y
  unfold IsWide at hx hy
  unfold spec_l01Less.f wide
  simp only at *
  by_cases h : x1 < y1
  · rw [if_pos h, decide_eq_true (by omega)]
  · rw [if_neg h]
    by_cases h2 : x1 = y1
    · rw [if_pos h2]
      by_cases h3 : x2 < y2
      · rw [decide_eq_true h3, decide_eq_true (by omega)]
      · rw [decide_eq_false h3, decide_eq_false (by omega)]
    · rw [if_neg h2, decide_eq_false (by omega)]
theorem small_eq {x : Int × Int} (hx : IsWide x) : spec_l01Small.f x.1 x.2 = some (if wide x ≤ 1000000000000000000 then (wide x, true) else (0, false)) := by
  obtain ⟨x1, x2⟩ := x
  unfold IsWide at hx
  unfold spec_l01Small.f wide
  simp only at *
  by_cases h : x1 > 0
  · rw [if_pos h, if_neg (by omega)]
  · rw [if_neg h]
    have e : x1 = 0 := by omega
    subst e
    by_cases h2 : x2 > 1000000000000000000
    · rw [if_pos h2, if_neg (by omega)]
    · rw [if_neg h2, if_pos (by omega), w64 (by omega) (by omega), Int.zero_mul, Int.zero_add]
theorem specFIs (n d : Int) : ∃ m, ∀ K, spec_l01FIs.f (K + m) n d = some (okF n d) := by
  by_cases h1 : 1 ≤ d ∧ d ≤ 1000000000000000000
  · by_cases h2 : -1000000000000000000 ≤ n ∧ n ≤ 1000000000000000000
    · refine ⟨d.natAbs + 1, fun K => ?_⟩
      have hg := specGcd_loop d.natAbs n.natAbs d.natAbs (Nat.le_refl _) K
      have ed : (d.natAbs : Int) = d := by omega
      rw [ed] at hg
      unfold spec_l01FIs.f spec_l01Gcd.f
      rw [in_is, in_is, decide_eq_true h1, decide_eq_true h2]
      simp only [Option.bind_some, if_pos]
      rw [specMax n (by omega), Option.bind_some, hg, Option.bind_some]
      congr 1
      unfold okF
      by_cases h3 : Nat.gcd n.natAbs d.natAbs = 1
      · rw [decide_eq_true (show _ ∧ _ ∧ _ from ⟨h1, h2, h3⟩), h3]; rfl
      · rw [decide_eq_false (fun h => h3 h.2.2), beq_eq_false_iff_ne]; omega
    · refine ⟨0, fun K => ?_⟩
      unfold spec_l01FIs.f okF
      rw [in_is, in_is, decide_eq_true h1, decide_eq_false h2, decide_eq_false (fun h => h2 h.2.1)]
      rfl
  · refine ⟨0, fun K => ?_⟩
    unfold spec_l01FIs.f okF
    rw [in_is, decide_eq_false h1, decide_eq_false (fun h => h1 h.1)]
    rfl
theorem part_abs {n : Int} (h : Part n) : (n.natAbs : Int) < 9223372036854775808 ∧ n.natAbs ≤ 9223372036854775807 := by unfold Part at h; omega
end Go.Proofs.Ytenlaanknlafdaa.A

/- What eventually tells an answer, for the pure sides of the fractions. No conditions. -/
namespace Go.Proofs.Ytenlaanknlafdaa.Pure
set_option linter.unusedVariables false
set_option linter.unusedSimpArgs false
open Go.RowKit Go.Proofs.Ytenlaanknlafdaa.A Go.Proofs.YtenlaanknlafdaaW.PrintWords Go.Proofs.YtenlaanknlafdaaW.PrintLast Go.Proofs.YtenlaanknlafdaaW.PrintMore
theorem w64' {x : Int} (h0 : -9223372036854775808 ≤ x) (h1 : x < 9223372036854775808) : wrap64 x = x := by unfold wrap64; omega
theorem ev_at {α : Type} {g : Nat → Option α} {r : α} (h : ∃ m, ∀ K, g (K + m) = some r) : Ev g r := by
  obtain ⟨m, h⟩ := h
  refine ⟨m, fun k hk => ?_⟩
  have := h (k - m)
  rwa [Nat.sub_add_cancel hk] at this
theorem ev_const {α : Type} {g : Nat → Option α} {r : α} (h : ∀ k, g k = some r) : Ev g r := ⟨0, fun k _ => h k⟩
theorem ev_is (n d : Int) : Ev (fun k => spec_l01FIs.f k n d) (okF n d) := ev_at (specFIs n d)
theorem chkF_ok {N D : Int} (h : (chkF N D).2.2 = true) : okF (chkF N D).1 (chkF N D).2.1 = true := by
  unfold chkF at *
  split
  · rename_i c; exact c.2.2
  · rename_i c; rw [if_neg c] at h; exact absurd h (by decide)
end Go.Proofs.Ytenlaanknlafdaa.Pure

/- The pure side of FnExactBestRatio: for all arguments the program's BestRatio and the reference's answer alike. No conditions. -/
namespace Go.Proofs.Ytenlaanknlafdaa.Pure
set_option linter.unusedVariables false
set_option linter.unusedSimpArgs false
open Go.RowKit Go.Proofs.Ytenlaanknlafdaa.A Go.Proofs.YtenlaanknlafdaaW.PrintWords Go.Proofs.YtenlaanknlafdaaW.PrintLast Go.Proofs.YtenlaanknlafdaaW.PrintMore
theorem missI_abs (gn gd n d : Int) : missI gn gd n d = ((gn * d - n * gd).natAbs : Int) := by
  unfold missI
  generalize gn * d = q
  generalize n * gd = p
  split <;> omega
theorem nearer_is {gn gd a b c d : Int} (h : goalB gn gd = true) (ha : 0 ≤ a ∧ a ≤ 10000001) (hb : 0 ≤ b ∧ b ≤ 10000) (hc : 0 ≤ c ∧ c ≤ 10000001) (hd : 0 ≤ d ∧ d ≤ 10000) :
    spec_l03Nearer.f gn gd a b c d = some (decide (missI gn gd a b * d < missI gn gd c d * b)) := by
  obtain ⟨x1, x2, x3, x4⟩ := missI_le h ha hb
  obtain ⟨y1, y2, y3, y4⟩ := missI_le h hc hd
  have z1 := br_mul x3 x4 hd.1 hd.2
  have z2 := br_mul y3 y4 hb.1 hb.2
  have e_ : (10000001000000 : Int) * 10000 = 100000010000000000 := by decide
  rw [e_] at z1 z2
  unfold spec_l03Nearer.f
  rw [missI_abs gn gd a b] at z1 ⊢
  rw [missI_abs gn gd c d] at z2 ⊢
  rw [missI_abs gn gd a b] at x4
  rw [missI_abs gn gd c d] at y4
  rw [w64' (x := gn * b) (by omega) (by omega), w64' (x := a * gd) (by omega) (by omega), w64' (x := gn * b - a * gd) (by omega) (by omega),
    w64' (x := gn * d) (by omega) (by omega), w64' (x := c * gd) (by omega) (by omega), w64' (x := gn * d - c * gd) (by omega) (by omega),
    specMax _ (by omega), specMax _ (by omega)]
  simp only [Option.bind_some]
  rw [w64' (x := ((gn * b - a * gd).natAbs : Int) * d) (by omega) (by omega), w64' (x := ((gn * d - c * gd).natAbs : Int) * b) (by omega) (by omega)]
def spStep (gn gd : Int) (b f : Int × Int) : Int × Int := if missI gn gd f.1 f.2 * b.2 < missI gn gd b.1 b.2 * f.2 then f else b
theorem spStep_eq {gn gd : Int} {b f : Int × Int} (hb : b.2 ≠ 0) : spStep gn gd b f = brStep gn gd b f := by
  unfold spStep brStep
  by_cases c : missI gn gd f.1 f.2 * b.2 < missI gn gd b.1 b.2 * f.2
  · rw [if_pos c, if_pos (Or.inr c)]
  · rw [if_neg c, if_neg (fun h => h.elim hb c)]
/-- The reference's best fraction before the number D + 1 below. -/
def sv (gn gd : Int) (D : Nat) : Int × Int := if D = 0 then (gn / gd, 1) else brTo gn gd D
theorem sv_round {gn gd : Int} (h : goalB gn gd = true) (D : Nat) (hD : D + 1 ≤ 10000) : spStep gn gd (spStep gn gd (sv gn gd D) (brCand gn gd ((D : Int) + 1) 0)) (brCand gn gd ((D : Int) + 1) 1) = brTo gn gd (D + 1) := by
  have e2 : brTo gn gd (D + 1) = brStep gn gd (brStep gn gd (brTo gn gd D) (brCand gn gd ((D : Int) + 1) 0)) (brCand gn gd ((D : Int) + 1) 1) := rfl
  rw [e2]
  have hc : (brCand gn gd ((D : Int) + 1) 0).2 = (D : Int) + 1 := rfl
  cases D with
  | zero =>
    have e0 : sv gn gd 0 = brCand gn gd ((0 : Nat) + 1 : Int) 0 := by
      unfold sv brCand; rw [if_pos rfl]; simp
    have e1 : spStep gn gd (sv gn gd 0) (brCand gn gd ((0 : Nat) + 1 : Int) 0) = brCand gn gd ((0 : Nat) + 1 : Int) 0 := by
      rw [e0]; unfold spStep; split <;> rfl
    have e3 : brStep gn gd (brTo gn gd 0) (brCand gn gd ((0 : Nat) + 1 : Int) 0) = brCand gn gd ((0 : Nat) + 1 : Int) 0 := by
      unfold brStep brTo; rw [if_pos (Or.inl rfl)]
    rw [e1, e3]
    exact spStep_eq (by rw [hc]; omega)
  | succ D =>
    have e0 : sv gn gd (D + 1) = brTo gn gd (D + 1) := if_neg (by omega)
    have p1 := brTo_pos h D (by omega)
    rw [e0, spStep_eq (b := brTo gn gd (D + 1)) (by omega)]
    exact spStep_eq (b := brStep gn gd (brTo gn gd (D + 1)) (brCand gn gd (((D + 1 : Nat) : Int) + 1) 0)) (by have := brStep_pos (gn := gn) (gd := gd) (b := brTo gn gd (D + 1)) (f := brCand gn gd (((D + 1 : Nat) : Int) + 1) 0) (by omega) (by rw [hc]; omega); omega)
theorem spStep_ok {gn gd : Int} {b f : Int × Int} (hb : BrOk b) (hf : BrOk f) : BrOk (spStep gn gd b f) := by
  unfold spStep; split <;> assumption
theorem sv_ok {gn gd : Int} (h : goalB gn gd = true) (D : Nat) (hD : D ≤ 10000) : BrOk (sv gn gd D) := by
  unfold sv
  split
  · have := brCand_ok h (show 1 ≤ (1 : Int) ∧ (1 : Int) ≤ 10000 by decide) (show 0 ≤ (0 : Int) ∧ (0 : Int) ≤ 1 by decide)
    unfold brCand at this
    simpa using this
  · exact brTo_ok h D hD
theorem quo_is {gn gd D : Int} (h : goalB gn gd = true) (h0 : 0 ≤ D) (h1 : D ≤ 10000) : wrap64 (Int.tdiv (wrap64 (gn * D)) gd) = gn * D / gd ∧ 0 ≤ gn * D / gd ∧ gn * D / gd ≤ 10000000000000 := by
  obtain ⟨g1, g2, g3, g4⟩ := goalB_parts h
  have hm := br_mul g3 (show gn ≤ 1000000000 by omega) h0 h1
  have e_ : (1000000000 : Int) * 10000 = 10000000000000 := by decide
  rw [e_] at hm
  have q0 : 0 ≤ gn * D / gd := Int.ediv_nonneg hm.1 (by omega)
  have q1 : gn * D / gd ≤ gn * D := Int.ediv_le_self _ hm.1
  rw [w64' (x := gn * D) (by omega) (by omega), Int.tdiv_eq_ediv_of_nonneg hm.1, w64' (by omega) (by omega)]
  exact ⟨rfl, q0, by omega⟩
theorem ev_cands {gn gd : Int} (h : goalB gn gd = true) (N : Int) (b : Int × Int) (D : Int) (hD : 1 ≤ D ∧ D ≤ 10000) (hb : BrOk b) (r : Int × Int × Bool)
    (hr : Ev (fun k => spec_BestRatio.l0 k N (spStep gn gd (spStep gn gd b (brCand gn gd D 0)) (brCand gn gd D 1)).1 (spStep gn gd (spStep gn gd b (brCand gn gd D 0)) (brCand gn gd D 1)).2 (D + 1) gn gd) r) :
    Ev (fun k => spec_BestRatio.l1 k N b.1 b.2 D (gn * D / gd) (gn * D / gd) gn gd) r := by
  obtain ⟨-, q0, q1⟩ := quo_is h (show 0 ≤ D by omega) hD.2
  have c0 := brCand_ok h hD (show 0 ≤ (0 : Int) ∧ (0 : Int) ≤ 1 by decide)
  have c1 := brCand_ok h hD (show 0 ≤ (1 : Int) ∧ (1 : Int) ≤ 1 by decide)
  have e0 : brCand gn gd D 0 = (gn * D / gd, D) := by unfold brCand; simp
  have e1 : brCand gn gd D 1 = (gn * D / gd + 1, D) := rfl
  have s0 := spStep_ok (gn := gn) (gd := gd) hb c0
  have s1 := spStep_ok (gn := gn) (gd := gd) s0 c1
  rw [e0] at s0 c0 hr s1
  rw [e1] at c1 hr s1
  generalize gn * D / gd = Q at *
  have one : ∀ (b f : Int × Int) (x : Int), f = (x, D) → BrOk b → BrOk f → x ≤ Q + 1 → 0 ≤ x → Ev (fun k => spec_BestRatio.l1 k N (spStep gn gd b f).1 (spStep gn gd b f).2 D Q (x + 1) gn gd) r → Ev (fun k => spec_BestRatio.l1 k N b.1 b.2 D Q x gn gd) r := by
    rintro ⟨bn, bd⟩ f x rfl ⟨⟨b0, b1⟩, ⟨b2, b3⟩⟩ ⟨⟨f0, f1⟩, ⟨f2, f3⟩⟩ hx hx0 hk
    dsimp only at *
    refine Ev.step (f := fun k => spec_BestRatio.l1 k N (spStep gn gd (bn, bd) (x, D)).1 (spStep gn gd (bn, bd) (x, D)).2 D Q (x + 1) gn gd) (fun k => ?_) hk
    simp only [spec_BestRatio.l1]
    rw [w64' (x := Q + 1) (by omega) (by omega), if_pos hx, nearer_is h ⟨f0, f1⟩ ⟨f2, f3⟩ ⟨b0, b1⟩ ⟨b2, b3⟩, w64' (x := x + 1) (by omega) (by omega)]
    simp only [Option.bind_some]
    unfold spStep
    dsimp only
    by_cases c : missI gn gd x D * bd < missI gn gd bn bd * D
    · rw [decide_eq_true c, if_pos rfl, if_pos c]
    · rw [decide_eq_false c, if_neg (by decide), if_neg c]
  refine one b _ Q rfl hb c0 (by omega) q0 ?_
  refine one _ _ (Q + 1) rfl s0 c1 (by omega) (by omega) ?_
  refine Ev.step (f := fun k => spec_BestRatio.l0 k N (spStep gn gd (spStep gn gd b (Q, D)) (Q + 1, D)).1 (spStep gn gd (spStep gn gd b (Q, D)) (Q + 1, D)).2 (D + 1) gn gd) (fun k => ?_) hr
  simp only [spec_BestRatio.l1]
  rw [w64' (x := Q + 1) (by omega) (by omega), if_neg (by omega), w64' (x := D + 1) (by omega) (by omega)]
theorem ev_loop {gn gd : Int} (h : goalB gn gd = true) (N : Nat) (h0 : 1 ≤ N) (h1 : N ≤ 10000) : ∀ (t D : Nat), D + t = N → Ev (fun k => spec_BestRatio.l0 k (N : Int) (sv gn gd D).1 (sv gn gd D).2 ((D : Int) + 1) gn gd) (mkF (brTo gn gd N).1 (brTo gn gd N).2)
  | 0, D, hD => by
    obtain rfl : D = N := by omega
    have e0 : sv gn gd D = brTo gn gd D := if_neg (by omega)
    rw [e0]
    obtain ⟨⟨b0, b1⟩, ⟨b2, b3⟩⟩ := brTo_ok h D h1
    have p1 : 1 ≤ (brTo gn gd D).2 := by
      obtain ⟨m, rfl⟩ : ∃ m, D = m + 1 := ⟨D - 1, by omega⟩
      exact brTo_pos h m h1
    rw [mkF_small _ _ (by omega) (by omega) (by omega)]
    refine Ev.step (f := fun k => (spec_l01FMake.f k (brTo gn gd D).1 (brTo gn gd D).2).bind fun r => some (r.1, r.2, true)) (fun k => ?_) (Ev.bind (ev_at (specFMake _ _ (by omega) (by omega) (by omega))) (Ev.now _))
    simp only [spec_BestRatio.l0]
    rw [if_neg (by omega)]
  | t + 1, D, hD => by
    have ih := ev_loop h N h0 h1 t (D + 1) (by omega)
    have e1 : sv gn gd (D + 1) = brTo gn gd (D + 1) := if_neg (by omega)
    rw [e1, ← sv_round h D (by omega)] at ih
    have hq := (quo_is h (show 0 ≤ (D : Int) + 1 by omega) (show (D : Int) + 1 ≤ 10000 by omega)).1
    have hg := (goalB_parts h).1
    refine Ev.step (f := fun k => spec_BestRatio.l1 k (N : Int) (sv gn gd D).1 (sv gn gd D).2 ((D : Int) + 1) (gn * ((D : Int) + 1) / gd) (gn * ((D : Int) + 1) / gd) gn gd) (fun k => ?_) (ev_cands h N (sv gn gd D) ((D : Int) + 1) (by omega) (sv_ok h D (by omega)) _ ih)
    simp only [spec_BestRatio.l0]
    rw [if_pos (by omega), if_neg (by omega), hq]
theorem ev_goal (n d : Int) : Ev (fun k => spec_l03Goal.f k n d) (goalB n d) := by
  unfold spec_l03Goal.f
  refine Ev.bind (ev_is n d) ?_
  unfold goalB
  cases h : okF n d
  · simp only [if_neg (show ¬ (false = true) by decide)]; exact Ev.now _
  · simp only [if_true, Bool.true_and]
    have h1 := (okF_iff.1 h).1
    by_cases c2 : 0 ≤ n
    · by_cases c : d ≤ 1000000
      · have hw : wrap64 (1000 * d) = 1000 * d := w64' (by omega) (by omega)
        rw [if_pos c2, if_pos c, hw]
        have e : decide (d ≤ 1000000 ∧ 0 ≤ n ∧ n ≤ 1000 * d) = decide (n ≤ 1000 * d) := by simp [c, c2]
        rw [e]; exact Ev.now _
      · rw [if_pos c2, if_neg c, decide_eq_false (fun z => c z.1)]; exact Ev.now _
    · rw [if_neg c2, decide_eq_false (fun z => c2 z.2.1)]; exact Ev.now _
theorem ev_spec (n d m : Int) : Ev (fun k => spec_BestRatio.f k n d m) (if goalB n d = true ∧ (1 ≤ m ∧ m ≤ 10000) then mkF (brTo n d m.toNat).1 (brTo n d m.toNat).2 else (0, 0, false)) := by
  unfold spec_BestRatio.f
  refine Ev.bind (ev_goal n d) ?_
  cases h : goalB n d
  · simp only [if_neg (show ¬ (false = true) by decide), false_and, if_false]
    rw [if_neg (fun z => absurd z.1 (by decide))]
    exact Ev.step (f := fun _ => some (0, 0, false)) (fun k => rfl) (Ev.now _)
  · simp only [if_true]
    rw [in_is]
    simp only [Option.bind_some]
    by_cases c : 1 ≤ m ∧ m ≤ 10000
    · rw [decide_eq_true c, if_pos (by first | exact ⟨rfl, c⟩ | exact ⟨trivial, c⟩)]
      obtain ⟨N, rfl⟩ := Int.eq_ofNat_of_zero_le (show 0 ≤ m by omega)
      rw [Int.toNat_natCast]
      have hl := ev_loop h N (by omega) (by omega) N 0 (by omega)
      have hg := (goalB_parts h).1
      have e0 : sv n d 0 = (n / d, 1) := if_pos rfl
      have hq := (quo_is h (show 0 ≤ (1 : Int) by decide) (show (1 : Int) ≤ 10000 by decide))
      rw [e0] at hl
      refine Ev.step (f := fun k => spec_BestRatio.l0 k (N : Int) (n / d) 1 1 n d) (fun k => ?_) (by simpa using hl)
      have hn := (goalB_parts h).2.2.1
      simp only [spec_BestRatio.j0, Bool.not_true]
      rw [if_neg (by decide), if_neg (by omega), Int.tdiv_eq_ediv_of_nonneg hn]
      rw [Int.mul_one] at hq
      rw [w64' (by omega) (by omega)]
    · rw [decide_eq_false c, if_neg (fun z => c z.2)]
      exact Ev.step (f := fun _ => some (0, 0, false)) (fun k => rfl) (Ev.now _)
theorem FnExactBestRatio : laws_FnExactBestRatio.Pure := by
  rintro ⟨n, d⟩ m _ _
  refine Ev.rounds ?_
  show Ev (fun k => laws_FnExactBestRatio.f k n d m) true
  unfold laws_FnExactBestRatio.f laws_toFraction.f
  simp only [Option.bind_some]
  refine Ev.bind (ev_spec n d m) ?_
  have hi : impl_BestRatio.f n d m = some (if goalB n d = true ∧ (1 ≤ m ∧ m ≤ 10000) then mkF (brTo n d m.toNat).1 (brTo n d m.toNat).2 else (0, 0, false)) := rfl
  rw [hi]
  obtain ⟨R, hR⟩ : ∃ R, (if goalB n d = true ∧ (1 ≤ m ∧ m ≤ 10000) then mkF (brTo n d m.toNat).1 (brTo n d m.toNat).2 else (0, 0, false)) = R := ⟨_, rfl⟩
  rw [hR]
  simp only [Option.bind_some]
  rw [eqF_self]
  simp only [Option.bind_some, if_true, bne_self_eq_false, if_neg (show ¬ (false = true) by decide)]
  exact Ev.now _
end Go.Proofs.Ytenlaanknlafdaa.Pure
