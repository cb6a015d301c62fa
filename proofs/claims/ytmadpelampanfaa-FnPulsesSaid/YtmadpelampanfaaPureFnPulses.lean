import Derived.Test.YtmadpelampanfaaA7
import Derived.Test.YtmadpelampanfaaA16
import Derived.Test.YtmadpelampanfaaA4
/- The reference's fractions in lowest terms are the program's. Conditions: parts of at most MaxPart. -/
namespace Go.Proofs.Ytmadpelampanfaa.A
set_option linter.unusedVariables false
set_option linter.unusedSimpArgs false
open Go.RowKit Go.Proofs.YtmadpelampanfaaW.PrintWords Go.Proofs.YtmadpelampanfaaW.PrintLast Go.Proofs.YtmadpelampanfaaW.PrintMore
theorem specGcd_loop : ∀ (m a b : Nat), b ≤ m → ∀ K, spec_l01Gcd.l0 (K + (m + 1)) (a : Int) (b : Int) = some ((Nat.gcd a b : Nat) : Int) := by
  intro m
  induction m with
  | zero =>
    intro a b hb K
    have e : b = 0 := by omega
    subst e
    show spec_l01Gcd.l0 (K + 0 + 1) (a : Int) 0 = _
    unfold spec_l01Gcd.l0
    rw [if_neg (by omega)]
    simp
  | succ m ih =>
    intro a b hb K
    rw [show K + (m + 1 + 1) = K + (m + 1) + 1 by omega]
    unfold spec_l01Gcd.l0
    by_cases h : b = 0
    · subst h
      rw [if_neg (by omega)]; simp
    · have hlt : a % b < b := Nat.mod_lt _ (by omega)
      have e : Int.tmod (a : Int) (b : Int) = ((a % b : Nat) : Int) := by rw [Int.tmod_eq_emod_of_nonneg (by omega)]; exact (Int.natCast_emod a b).symm
      rw [if_pos (by omega), if_neg (by omega), e, ih b (a % b) (by omega) K, Nat.gcd_comm b, ← Nat.gcd_rec, Nat.gcd_comm]
theorem specMax (a : Int) (h : a.natAbs ≤ 9223372036854775807) : spec_l00Max.f a (wrap64 (-a)) = some (a.natAbs : Int) := by
  have hw : wrap64 (-a) = -a := w64 (by omega) (by omega)
  rw [hw]
  unfold spec_l00Max.f
  by_cases c : a > -a
  · rw [if_pos c]; congr 1; omega
  · rw [if_neg c]; congr 1; omega
theorem tdiv_sgn (a : Int) (g : Nat) : Int.tdiv a (g : Int) = sgn (decide (a < 0)) ((a.natAbs : Int) / (g : Int)) := by
  unfold sgn
  by_cases c : a < 0
  · rw [decide_eq_true c, if_pos rfl]
    have e : a = -(a.natAbs : Int) := by omega
    rw [show (Int.tdiv a (g : Int)) = Int.tdiv (-(a.natAbs : Int)) (g : Int) by rw [← e], Int.neg_tdiv, Int.tdiv_eq_ediv_of_nonneg (by omega)]
  · rw [decide_eq_false c, if_neg (by decide), Int.tdiv_eq_ediv_of_nonneg (by omega)]
    congr 1; omega
theorem gcdI_pos (a b : Int) (hb : b ≠ 0) : 0 < gcdI a b := by
  have := Nat.gcd_pos_of_pos_right a.natAbs (show 0 < b.natAbs by omega)
  unfold gcdI; omega
theorem specFMake (a b : Int) (hb : b ≠ 0) (ha : a.natAbs ≤ 9223372036854775807) (hb' : b.natAbs ≤ 9223372036854775807) : ∃ m, ∀ K, spec_l01FMake.f (K + m) a b = some (numI a b, denI a b) := by
  refine ⟨b.natAbs + 1, fun K => ?_⟩
  have hg := gcdI_pos a b hb
  have hn := numI_le a b
  have hd := denI_le a b
  have ew : wrap64 (numI a b) = numI a b := w64 (by omega) (by omega)
  have ew2 : wrap64 (denI a b) = denI a b := w64 (by omega) (by omega)
  have hg0 : ¬ ((Nat.gcd a.natAbs b.natAbs : Nat) : Int) = 0 := by unfold gcdI at hg; omega
  unfold spec_l01FMake.f spec_l01Gcd.f
  by_cases c : b < 0
  · have wa : wrap64 (-a) = -a := w64 (by omega) (by omega)
    have wb : wrap64 (-b) = -b := w64 (by omega) (by omega)
    have eb : -b = (b.natAbs : Int) := by omega
    rw [if_pos c, wa, specMax (-a) (by omega), Option.bind_some, wb, eb, Int.natAbs_neg, specGcd_loop b.natAbs a.natAbs b.natAbs (Nat.le_refl _) K, Option.bind_some, if_neg hg0]
    have e1 : Int.tdiv (-a) ((Nat.gcd a.natAbs b.natAbs : Nat) : Int) = numI a b := by
      rw [tdiv_sgn, Int.natAbs_neg]
      unfold numI gcdI
      rw [decide_eq_true c]
      by_cases h0 : a = 0
      · subst h0; simp [sgn]
      · congr 1
        by_cases h : a < 0 <;> simp [h] <;> omega
    have e2 : Int.tdiv (b.natAbs : Int) ((Nat.gcd a.natAbs b.natAbs : Nat) : Int) = denI a b := by rw [Int.tdiv_eq_ediv_of_nonneg (by omega)]; rfl
    rw [e1, e2, ew, ew2]
  · rw [if_neg c, specMax a ha, Option.bind_some]
    have eb : b = (b.natAbs : Int) := by omega
    have e1 : Int.tdiv a ((Nat.gcd a.natAbs b.natAbs : Nat) : Int) = numI a b := by
      rw [tdiv_sgn]
      unfold numI gcdI
      rw [decide_eq_false c]
      congr 1
      cases decide (a < 0) <;> rfl
    have e2 : Int.tdiv b ((Nat.gcd a.natAbs b.natAbs : Nat) : Int) = denI a b := by
      rw [Int.tdiv_eq_ediv_of_nonneg (by omega)]; unfold denI gcdI; congr 1
    have hgl := specGcd_loop b.natAbs a.natAbs b.natAbs (Nat.le_refl _) K
    rw [← eb] at hgl
    rw [hgl, Option.bind_some, if_neg hg0, e1, e2, ew, ew2]
theorem lowest (a b : Int) (hb : b ≠ 0) : 1 ≤ denI a b ∧ Nat.gcd (numI a b).natAbs (denI a b).natAbs = 1 := by
  have hg : 0 < Nat.gcd a.natAbs b.natAbs := Nat.gcd_pos_of_pos_right _ (by omega)
  have e1 : (denI a b).natAbs = b.natAbs / Nat.gcd a.natAbs b.natAbs := by
    unfold denI gcdI; rw [← Int.natCast_ediv, Int.natAbs_natCast]
  have e2 : (numI a b).natAbs = a.natAbs / Nat.gcd a.natAbs b.natAbs := by
    unfold numI gcdI sgn; rw [← Int.natCast_ediv]
    split
    · rw [Int.natAbs_neg, Int.natAbs_natCast]
    · rw [Int.natAbs_natCast]
  have h1 : 0 < b.natAbs / Nat.gcd a.natAbs b.natAbs := Nat.div_pos (Nat.le_of_dvd (by omega) (Nat.gcd_dvd_right _ _)) hg
  have h0 : 0 ≤ denI a b := by unfold denI gcdI; exact Int.ediv_nonneg (by omega) (by omega)
  exact ⟨by omega, by rw [e1, e2]; exact Nat.coprime_div_gcd_div_gcd hg⟩
theorem chkF_yes {n d : Int} (h1 : 1 ≤ d) (h2 : d ≤ 1000000000000000000) (h3 : -1000000000000000000 ≤ n) (h4 : n ≤ 1000000000000000000) (hg : Nat.gcd n.natAbs d.natAbs = 1) : chkF n d = (n, d, true) := by
  have c1 : in64 n = true := decide_eq_true ⟨by omega, by omega⟩
  have c2 : in64 d = true := decide_eq_true ⟨by omega, by omega⟩
  exact if_pos ⟨c1, c2, okF_iff.2 ⟨⟨h1, h2⟩, ⟨h3, h4⟩, hg⟩⟩
theorem mkF_small (a b : Int) (hb : b ≠ 0) (ha : a.natAbs ≤ 1000000000000000000) (hb' : b.natAbs ≤ 1000000000000000000) : mkF a b = (numI a b, denI a b, true) := by
  obtain ⟨h1, h2⟩ := lowest a b hb
  have h3 := numI_le a b
  have h4 := denI_le a b
  exact chkF_yes h1 (by omega) (by omega) (by omega) h2
theorem make_small (a b : Int) (hb : b ≠ 0) (ha : a.natAbs ≤ 1000000000000000000) (hb' : b.natAbs ≤ 1000000000000000000) : impl_MakeFraction.f a b = some (numI a b, denI a b, true) := by
  unfold impl_MakeFraction.f
  rw [if_pos ⟨hb, decide_eq_true ⟨by omega, by omega⟩, decide_eq_true ⟨by omega, by omega⟩⟩, mkF_small a b hb ha hb']

theorem in_is (a b c : Int) : spec_l00In.f a b c = some (decide (b ≤ a ∧ a ≤ c)) := by
  unfold spec_l00In.f
  by_cases h : a ≥ b
  · rw [if_pos h]; have h' : b ≤ a := h; simp [h']
  · rw [if_neg h]; have h' : ¬ b ≤ a := h; simp [h']
end Go.Proofs.Ytmadpelampanfaa.A

/- Drawn bytes, and a fraction in lowest terms: plain lemmas. No conditions. -/
namespace Go.Proofs.Ytmadpelampanfaa.Pure
set_option linter.unusedVariables false
set_option linter.unusedSimpArgs false
open Go.RowKit Go.Proofs.Ytmadpelampanfaa.A Go.Proofs.YtmadpelampanfaaW.PrintWords Go.Proofs.YtmadpelampanfaaW.PrintLast Go.Proofs.YtmadpelampanfaaW.PrintMore
theorem w64' {x : Int} (h0 : -9223372036854775808 ≤ x) (h1 : x < 9223372036854775808) : wrap64 x = x := by unfold wrap64; omega
theorem ev_at {α : Type} {g : Nat → Option α} {r : α} (h : ∃ m, ∀ K, g (K + m) = some r) : Ev g r := by
  obtain ⟨m, h⟩ := h
  refine ⟨m, fun k hk => ?_⟩
  have := h (k - m)
  rwa [Nat.sub_add_cancel hk] at this
def U8 (l : List Int) : Prop := ∀ x ∈ l, (Lit.int .u8 x).wf = true
theorem u8_rd {l : List Int} (h : U8 l) (i : Int) : 0 ≤ rd l i ∧ rd l i ≤ 255 := by
  unfold rd
  rw [List.getD_eq_getElem?_getD]
  rcases hq : l[i.toNat]? with _ | x
  · simp
  · have hm := h x (List.mem_of_getElem? hq)
    simp only [Lit.wf, Bool.and_eq_true, decide_eq_true_eq] at hm
    have e1 : IntKind.u8.min = 0 := rfl
    have e2 : IntKind.u8.max = 255 := rfl
    simp only [Option.getD_some]; omega
theorem b10At_eq {l : List Int} (h : U8 l) (k n : Int) (hk : 0 ≤ k ∧ k ≤ 1000000) (hn : 1 ≤ n) : ∃ x, laws_b10At.f l k n = some x ∧ 0 ≤ x ∧ x < n := by
  unfold laws_b10At.f
  by_cases h1 : n ≤ 1
  · exact ⟨0, by rw [if_pos h1], by omega, by omega⟩
  · rw [if_neg h1]
    by_cases h2 : k < (l.length : Int)
    · have hr := u8_rd h k
      rw [if_pos h2, if_pos hk.1, if_neg (by omega), w64' (by omega) (by omega), Int.tmod_eq_emod_of_nonneg hr.1]
      exact ⟨_, rfl, Int.emod_nonneg _ (by omega), Int.emod_lt_of_pos _ (by omega)⟩
    · rw [if_neg h2, if_neg (by omega), w64' (x := k * 37) (by omega) (by omega), w64' (by omega) (by omega), Int.tmod_eq_emod_of_nonneg (by omega)]
      exact ⟨_, rfl, Int.emod_nonneg _ (by omega), Int.emod_lt_of_pos _ (by omega)⟩
theorem low_parts (a e : Int) (he : 1 ≤ e) : ∃ g : Nat, 0 < g ∧ a = g * numI a e ∧ e = g * denI a e ∧ 1 ≤ denI a e ∧ Nat.gcd (numI a e).natAbs (denI a e).natAbs = 1 := by
  have hl := lowest a e (by omega)
  refine ⟨Nat.gcd a.natAbs e.natAbs, Nat.gcd_pos_of_pos_right _ (by omega), ?_, ?_, hl.1, hl.2⟩
  · unfold numI gcdI sgn
    rw [decide_eq_false (show ¬ e < 0 by omega)]
    have h := Nat.mul_div_cancel' (Nat.gcd_dvd_left a.natAbs e.natAbs)
    have h' : ((Nat.gcd a.natAbs e.natAbs : Nat) : Int) * ((a.natAbs : Int) / ((Nat.gcd a.natAbs e.natAbs : Nat) : Int)) = (a.natAbs : Int) := by rw [← Int.natCast_ediv, ← Int.natCast_mul, h]
    by_cases c : a < 0
    · rw [decide_eq_true c]; simp; rw [Int.mul_neg, h']; omega
    · rw [decide_eq_false c]; simp; rw [h']; omega
  · unfold denI gcdI
    have h := Nat.mul_div_cancel' (Nat.gcd_dvd_right a.natAbs e.natAbs)
    rw [← Int.natCast_ediv, ← Int.natCast_mul, h]; omega
theorem long_eq (l0 l1 : List Int) : ∃ t, laws_b10Long.f l0 l1 = some t ∧ (t = false → l0.length ≤ 1048576 ∧ l1.length ≤ 1048576) := by
  unfold laws_b10Long.f
  by_cases c : (l0.length : Int) > 1048576
  · exact ⟨true, if_pos c, fun z => by cases z⟩
  · rw [if_neg c]
    refine ⟨_, rfl, fun z => ?_⟩
    have := of_decide_eq_false z
    omega
theorem ev_const {α : Type} {g : Nat → Option α} {r : α} (h : ∀ k, g k = some r) : Ev g r := ⟨0, fun k _ => h k⟩
end Go.Proofs.Ytmadpelampanfaa.Pure

/- The pure side of FnPulses: pulses of an accumulator come at their told ticks, less than a tick behind their times, with gaps between the told least and greatest one. No conditions. -/
namespace Go.Proofs.Ytmadpelampanfaa.Pure
set_option linter.unusedVariables false
set_option linter.unusedSimpArgs false
open Go.RowKit Go.Proofs.Ytmadpelampanfaa.A Go.Proofs.YtmadpelampanfaaW.PrintWords Go.Proofs.YtmadpelampanfaaW.PrintLast Go.Proofs.YtmadpelampanfaaW.PrintMore
theorem bt_nums (xs : List Int) (i : Int) (h0 : 0 ≤ i) (h1 : i < xs.length) (hx : ∀ x ∈ xs, 0 ≤ x ∧ x ≤ 255) : bt (strOfNums xs) i = rd xs i := by
  have hs : (strOfNums xs).size = xs.length := by simp [strOfNums, ByteArray.size]
  have hi : i.toNat < xs.length := by omega
  unfold bt rd
  rw [dif_pos (by omega)]
  have hg : (strOfNums xs)[i.toNat]'(by omega) = UInt8.ofNat (xs[i.toNat]'hi).toNat := by
    simp [strOfNums, ByteArray.getElem_eq_getElem_data]
  rw [hg, List.getD_eq_getElem?_getD, List.getElem?_eq_getElem hi]
  have hb := hx _ (List.getElem_mem hi)
  simp only [Option.getD_some, UInt8.toNat_ofNat']
  omega
theorem size_nums (xs : List Int) : (strOfNums xs).size = xs.length := by simp [strOfNums, ByteArray.size]
theorem bytes_bd (n : Nat) (lev : Nat → Bool) : ∀ x ∈ impl_waveOf.bytes n lev, 0 ≤ x ∧ x ≤ 255 := by
  intro x hx
  unfold impl_waveOf.bytes at hx
  obtain ⟨i, _, rfl⟩ := List.mem_map.1 hx
  split <;> omega
theorem bt_text (n : Nat) (lev : Nat → Bool) (i : Nat) (hi : i < n) : bt (impl_waveOf.text n lev) (i : Int) = if lev i = true then 49 else 48 := by
  unfold impl_waveOf.text
  rw [bt_nums _ _ (by omega) (by rw [impl_waveOf.bytes_length]; omega) (bytes_bd n lev)]
  unfold rd impl_waveOf.bytes
  simp [List.getD_eq_getElem?_getD, hi]
/-- Rounded up, less 1: a pulse's tick. -/
def tk (s m p k : Int) : Int := ((k + 1) * m - p + s - 1) / s - 1
theorem tk_at {s m p k t a : Int} (hs : 1 ≤ s) (e : p + t * s = k * m + a) (h0 : m - s ≤ a) (h1 : a < m) : tk s m p k = t := by
  unfold tk
  have x1 : (k + 1) * m = k * m + m := by grind
  have x2 : (t + 1) * s = t * s + s := by grind
  have x3 : (t + 2) * s = t * s + 2 * s := by grind
  have h2 : t + 1 ≤ ((k + 1) * m - p + s - 1) / s := (Int.le_ediv_iff_mul_le (by omega)).2 (by omega)
  have h3 : ((k + 1) * m - p + s - 1) / s < t + 2 := (Int.ediv_lt_iff_lt_mul (by omega)).2 (by omega)
  omega
theorem tk_behind {s m p k t a : Int} (hs : 1 ≤ s) (e : p + t * s = k * m + a) (h1 : a < m) : t ≤ tk s m p k := by
  unfold tk
  have x1 : (k + 1) * m = k * m + m := by grind
  have x2 : (t + 1) * s = t * s + s := by grind
  have h2 : t + 1 ≤ ((k + 1) * m - p + s - 1) / s := (Int.le_ediv_iff_mul_le (by omega)).2 (by omega)
  omega
theorem tk_bounds {s m p k : Int} (hm : 1 ≤ m ∧ m ≤ 1000) (hs : 1 ≤ s ∧ s ≤ m) (hp : 0 ≤ p ∧ p ≤ m - 1) (hk : 0 ≤ k ∧ k ≤ 100000) : -1 ≤ tk s m p k ∧ tk s m p k ≤ 200000000 ∧ 0 ≤ (k + 1) * m ∧ (k + 1) * m ≤ 100001000 ∧ p ≤ (k + 1) * m := by
  have p0 : 1 * m ≤ (k + 1) * m := Int.mul_le_mul_of_nonneg_right (by omega) (by omega)
  have p1 : (k + 1) * m ≤ 100001 * 1000 := Int.mul_le_mul (by omega) (by omega) (by omega) (by omega)
  unfold tk
  have q0 : 0 ≤ ((k + 1) * m - p + s - 1) / s := Int.ediv_nonneg (by omega) (by omega)
  have q1 : ((k + 1) * m - p + s - 1) / s ≤ (k + 1) * m - p + s - 1 := Int.ediv_le_self _ (by omega)
  omega
theorem implTick {s m p k : Int} (hm : 1 ≤ m ∧ m ≤ 1000) (hs : 1 ≤ s ∧ s ≤ m) (hp : 0 ≤ p ∧ p ≤ m - 1) (hk : 0 ≤ k ∧ k ≤ 100000) : impl_pulseTick.f s m p k = some (tk s m p k) := by
  obtain ⟨b0, b1, b2, b3, b4⟩ := tk_bounds hm hs hp hk
  unfold impl_pulseTick.f
  have ht : tk s m p k = ((k + 1) * m - p + s - 1) / s - 1 := rfl
  rw [ht] at b0 b1 ⊢
  rw [w64' (x := k + 1) (by omega) (by omega), w64' (x := (k + 1) * m) (by omega) (by omega), w64' (x := (k + 1) * m - p) (by omega) (by omega), w64' (x := (k + 1) * m - p + s) (by omega) (by omega), w64' (x := (k + 1) * m - p + s - 1) (by omega) (by omega), if_neg (by omega), Int.tdiv_eq_ediv_of_nonneg (by omega)]
  obtain ⟨q, hq⟩ : ∃ q, ((k + 1) * m - p + s - 1) / s = q := ⟨_, rfl⟩
  rw [hq] at b0 b1 ⊢
  rw [w64' (x := q) (by omega) (by omega), w64' (by omega) (by omega)]
theorem specTick {s m p k : Int} (hm : 1 ≤ m ∧ m ≤ 1000) (hs : 1 ≤ s ∧ s ≤ m) (hp : 0 ≤ p ∧ p ≤ m - 1) (hk : 0 ≤ k ∧ k ≤ 100000) : spec_l03Tick.f s m p k = some (tk s m p k) := by
  obtain ⟨b0, b1, b2, b3, b4⟩ := tk_bounds hm hs hp hk
  unfold spec_l03Tick.f spec_l03Up.f
  have ht : tk s m p k = ((k + 1) * m - p + s - 1) / s - 1 := rfl
  rw [ht] at b0 b1 ⊢
  rw [w64' (x := k + 1) (by omega) (by omega), w64' (x := (k + 1) * m) (by omega) (by omega), w64' (x := (k + 1) * m - p) (by omega) (by omega), w64' (x := (k + 1) * m - p + s) (by omega) (by omega), w64' (x := (k + 1) * m - p + s - 1) (by omega) (by omega), if_neg (by omega), Int.tdiv_eq_ediv_of_nonneg (by omega)]
  obtain ⟨q, hq⟩ : ∃ q, ((k + 1) * m - p + s - 1) / s = q := ⟨_, rfl⟩
  rw [hq] at b0 b1 ⊢
  rw [w64' (x := q) (by omega) (by omega), Option.bind_some, w64' (by omega) (by omega)]
theorem stepB {s m : Int} (hm : 1 ≤ m ∧ m ≤ 1000) (hs : 1 ≤ s ∧ s ≤ m) : impl_isStep.f s m = some true ∧ spec_l03Steps.f s m = some true := by
  unfold impl_isStep.f spec_l03Steps.f
  rw [within_is, within_is, in_is, in_is, decide_eq_true hm, decide_eq_true hs]
  exact ⟨rfl, rfl⟩
theorem implAt {s m p k : Int} (hm : 1 ≤ m ∧ m ≤ 1000) (hs : 1 ≤ s ∧ s ≤ m) (hp : 0 ≤ p ∧ p ≤ m - 1) (hk : 0 ≤ k ∧ k ≤ 100000) : impl_PulseTick.f s m p k = some (tk s m p k, true) := by
  unfold impl_PulseTick.f
  rw [(stepB hm hs).1, within_is, within_is, w64' (x := m - 1) (by omega) (by omega), decide_eq_true hp, decide_eq_true hk, implTick hm hs hp hk]
  rfl
theorem specAt {s m p k : Int} (hm : 1 ≤ m ∧ m ≤ 1000) (hs : 1 ≤ s ∧ s ≤ m) (hp : 0 ≤ p ∧ p ≤ m - 1) (hk : 0 ≤ k ∧ k ≤ 100000) : spec_PulseTick.f s m p k = some (tk s m p k, true) := by
  unfold spec_PulseTick.f
  rw [(stepB hm hs).2, in_is, in_is, w64' (x := m - 1) (by omega) (by omega), decide_eq_true hp, decide_eq_true hk, specTick hm hs hp hk]
  rfl
/-- How late a pulse is, times the step. -/
def lateN (s m k : Int) : Int := (tk s m 0 k + 1) * s - (k + 1) * m
theorem late_bounds {s m k : Int} (hs : 1 ≤ s) : 0 ≤ lateN s m k ∧ lateN s m k < s := by
  unfold lateN tk
  have e := Int.emod_add_mul_ediv ((k + 1) * m - 0 + s - 1) s
  have h0 := Int.emod_nonneg ((k + 1) * m - 0 + s - 1) (show s ≠ 0 by omega)
  have h1 := Int.emod_lt_of_pos ((k + 1) * m - 0 + s - 1) (show 0 < s by omega)
  have x : (((k + 1) * m - 0 + s - 1) / s - 1 + 1) * s = s * (((k + 1) * m - 0 + s - 1) / s) := by grind
  rw [x]
  omega
theorem late_w {s m k : Int} (hm : 1 ≤ m ∧ m ≤ 1000) (hs : 1 ≤ s ∧ s ≤ m) (hk : 0 ≤ k ∧ k ≤ 100000) : wrap64 ((wrap64 ((wrap64 (tk s m 0 k + 1)) * s)) - (wrap64 ((wrap64 (k + 1)) * m))) = lateN s m k := by
  obtain ⟨b0, b1, b2, b3, b4⟩ := tk_bounds hm hs (show 0 ≤ (0 : Int) ∧ (0 : Int) ≤ m - 1 by omega) hk
  have l := late_bounds (m := m) (k := k) hs.1
  have hl : lateN s m k = (tk s m 0 k + 1) * s - (k + 1) * m := rfl
  rw [w64' (x := tk s m 0 k + 1) (by omega) (by omega), w64' (x := k + 1) (by omega) (by omega), w64' (x := (k + 1) * m) (by omega) (by omega), w64' (x := (tk s m 0 k + 1) * s) (by omega) (by omega), ← hl, w64' (by omega) (by omega)]
theorem errAt {s m k : Int} (hm : 1 ≤ m ∧ m ≤ 1000) (hs : 1 ≤ s ∧ s ≤ m) (hk : 0 ≤ k ∧ k ≤ 100000) (n : Nat) : impl_PulseError.f (n + 1) s m k = some (numI (lateN s m k) s, denI (lateN s m k) s, true) := by
  have l := late_bounds (m := m) (k := k) hs.1
  unfold impl_PulseError.f
  rw [(stepB hm hs).1, within_is, decide_eq_true hk]
  simp only [Option.bind_some, if_true, Bool.not_true, impl_PulseError.j0, Bool.false_eq_true, if_false]
  rw [implTick hm hs (show 0 ≤ (0 : Int) ∧ (0 : Int) ≤ m - 1 by omega) hk]
  simp only [Option.bind_some]
  rw [late_w hm hs hk, make_small _ _ (by omega) (by omega) (by omega)]
  rfl
theorem make_ev (a b : Int) (hb : 1 ≤ b ∧ b ≤ 1000000) (ha : 0 ≤ a ∧ a ≤ 1000000) : Ev (fun k => spec_MakeFraction.f k a b) (numI a b, denI a b, true) := by
  unfold spec_MakeFraction.f
  rw [in_is, in_is]
  simp only [Option.bind_some, if_neg (show ¬ b = 0 by omega)]
  rw [decide_eq_true (by omega), decide_eq_true (by omega)]
  simp only [if_true]
  exact Ev.bind (ev_at (specFMake a b (by omega) (by omega) (by omega))) (Ev.now _)
theorem late_lt (N s : Int) (hs : 1 ≤ s) (h0 : 0 ≤ N) (h1 : N < s) : 0 ≤ numI N s ∧ numI N s < denI N s := by
  obtain ⟨g, hg, e1, e2, e3, e4⟩ := low_parts N s hs
  obtain ⟨a, ha⟩ : ∃ a, numI N s = a := ⟨_, rfl⟩
  obtain ⟨b, hb⟩ : ∃ b, denI N s = b := ⟨_, rfl⟩
  rw [ha] at e1; rw [hb] at e2
  rw [ha, hb]
  have hg' : (0 : Int) < g := by omega
  constructor
  · by_cases c : a < 0
    · have := Int.mul_neg_of_pos_of_neg hg' c; omega
    · omega
  · by_cases c : a < b
    · exact c
    · have := Int.mul_le_mul_of_nonneg_left (show b ≤ a by omega) (Int.le_of_lt hg'); omega
/-- What is known ahead of tick t: k pulses came, the last one at 'last'. -/
structure Known (s m p : Int) (t : Nat) (k last : Int) : Prop where
  now : p + (t : Int) * s = k * m + accP s m p t
  k0 : 0 ≤ k
  k1 : k ≤ t
  past : last = -1 ∨ (0 ≤ last ∧ last < t ∧ last * s < k * m - p ∧ k * m - p ≤ (last + 1) * s)
theorem pulses_loop {s m p : Int} (hm : 1 ≤ m ∧ m ≤ 100) (hs : 1 ≤ s ∧ s ≤ m) (hp : 0 ≤ p ∧ p ≤ m - 1) : ∀ (d t : Nat) (k last : Int), t + d = 200 → Known s m p t k last →
    Ev (fun n => laws_FnPulses.l0 n m s p (impl_waveOf.text 200 (impl_AccumulateWave.lev s m p)) (m / s) ((m + s - 1) / s) k last (t : Int)) true
  | 0, t, k, last, ht, h => by
    obtain rfl : t = 200 := by omega
    have ha := accP_bound (s := s) hm.1 hp.1 hp.2 200
    have hb := tk_behind (s := s) hs.1 h.now (by omega)
    refine Ev.step (f := fun _ => some true) (fun n => ?_) (Ev.now _)
    simp only [laws_FnPulses.l0]
    rw [if_neg (by omega), implAt (by omega) hs hp ⟨h.k0, by have := h.k1; omega⟩]
    simp only [Option.bind_some, if_true]
    rw [decide_eq_true (by omega)]
  | d + 1, t, k, last, ht, h => by
    obtain ⟨a0, a1⟩ := accP_bound (s := s) hm.1 hp.1 hp.2 t
    have hk0 := h.k0
    have hk1 := h.k1
    have hsz : ((impl_waveOf.text 200 (impl_AccumulateWave.lev s m p)).size : Int) = 200 := by
      unfold impl_waveOf.text; rw [size_nums, impl_waveOf.bytes_length]; rfl
    have hbt := bt_text 200 (impl_AccumulateWave.lev s m p) t (by omega)
    have hlev : impl_AccumulateWave.lev s m p t = decide (m ≤ accP s m p t + s) := rfl
    have hnext : accP s m p (t + 1) = (accP s m p t + s) % m := rfl
    have hnow := h.now
    have hex : ((t + 1 : Nat) : Int) * s = (t : Int) * s + s := by
      rw [show ((t + 1 : Nat) : Int) = (t : Int) + 1 by omega]; grind
    rw [hlev] at hbt
    by_cases c : m ≤ accP s m p t + s
    · rw [decide_eq_true c, if_pos rfl] at hbt
      have hmod : (accP s m p t + s) % m = accP s m p t + s - m := by
        have : accP s m p t + s = accP s m p t + s - m + m := by omega
        rw [this, Int.add_emod_right, Int.emod_eq_of_lt (by omega) (by omega)]
        omega
      have hx1 : (k + 1) * m = k * m + m := by grind
      have hx2 : ((t : Int) + 1) * s = (t : Int) * s + s := by grind
      have kn : Known s m p (t + 1) (k + 1) (t : Int) := ⟨by rw [hex, hnext, hmod]; omega, by omega, by omega, .inr ⟨by omega, by omega, by omega, by omega⟩⟩
      have ih := pulses_loop hm hs hp d (t + 1) (k + 1) (t : Int) (by omega) kn
      have hat : tk s m p k = t := tk_at hs.1 hnow (by omega) (by omega)
      have lb := late_bounds (m := m) (k := k) hs.1
      have ll := late_lt (lateN s m k) s hs.1 lb.1 lb.2
      have hE : ∀ n, impl_PulseError.f (n + 1) s m k = _ := errAt (by omega) hs ⟨hk0, by omega⟩
      have hA := implAt (s := s) (m := m) (p := p) (k := k) (by omega) hs hp ⟨hk0, by omega⟩
      have hSA := specAt (s := s) (m := m) (p := 0) (k := k) (by omega) hs (by omega) ⟨hk0, by omega⟩
      have hw := late_w (s := s) (m := m) (k := k) (by omega) hs ⟨hk0, by omega⟩
      have hmk := make_ev (lateN s m k) s (by omega) (by omega)
      -- the gap to the pulse before
      have gap : last = -1 ∨ (0 ≤ last ∧ m / s ≤ (t : Int) - last ∧ (t : Int) - last ≤ (m + s - 1) / s) := by
        rcases h.past with h1 | ⟨h1, h2, h3, h4⟩
        · exact .inl h1
        · refine .inr ⟨h1, ?_, ?_⟩
          · have y1 : ((t : Int) - last + 1) * s = (t : Int) * s - last * s + s := by grind
            have y2 : (last + 1) * s = last * s + s := by grind
            have := (Int.ediv_lt_iff_lt_mul (a := m) (b := (t : Int) - last + 1) (c := s) (by omega)).2 (by omega)
            omega
          · refine (Int.le_ediv_iff_mul_le (by omega)).2 ?_
            have y1 : ((t : Int) - last) * s = (t : Int) * s - last * s := by grind
            have y2 : (last + 1) * s = last * s + s := by grind
            omega
      have hlast : -1 ≤ last ∧ last < 200 := by rcases h.past with h1 | h1 <;> omega
      have h2 : Ev (fun n => laws_FnPulses.j2 n m s p (impl_waveOf.text 200 (impl_AccumulateWave.lev s m p)) (m / s) ((m + s - 1) / s) k (t : Int) false (numI (lateN s m k) s) (denI (lateN s m k) s)) true := by
        refine Ev.step (f := fun n => (spec_MakeFraction.f n (lateN s m k) s).bind fun r => (if r.2.2 = true then (if (!(r.1 == numI (lateN s m k) s) || (!(r.2.1 == denI (lateN s m k) s))) = true then (some false) else laws_FnPulses.l0 n m s p (impl_waveOf.text 200 (impl_AccumulateWave.lev s m p)) (m / s) ((m + s - 1) / s) (k + 1) (t : Int) (((t + 1 : Nat) : Int))) else some false)) (fun n => ?_) (Ev.bind hmk ?_)
        · simp only [laws_FnPulses.j2]
          rw [if_neg (by decide), hSA]
          simp only [Option.bind_some, if_true]
          rw [hw, w64' (x := k + 1) (by omega) (by omega), w64' (x := (t : Int) + 1) (by omega) (by omega)]
          rfl
        · simp only [if_true, beq_self_eq_true, Bool.not_true, Bool.or_false, Bool.false_eq_true, if_false]
          exact ih
      obtain ⟨K, hK⟩ := h2
      refine ⟨K + 2, fun n hn => ?_⟩
      obtain ⟨n, rfl⟩ : ∃ n', n = n' + 1 + 1 := ⟨n - 2, by omega⟩
      have hk2 := hK (n + 1) (by omega)
      dsimp only at hk2
      simp only [laws_FnPulses.l0]
      rw [if_pos (by omega), if_pos (by omega), if_pos (by omega), if_neg (by omega), hA, hE n]
      simp only [Option.bind_some, if_true]
      rw [if_pos hat, if_neg (show ¬ numI (lateN s m k) s < 0 by omega), decide_eq_false (show ¬ numI (lateN s m k) s ≥ denI (lateN s m k) s by omega), hk2, w64' (x := (t : Int) - last) (by omega) (by omega)]
      rcases gap with g1 | ⟨g1, g2, g3⟩
      · rw [if_neg (by omega)]
      · rw [if_pos (by omega), if_neg (by omega), if_neg (by omega)]
    · rw [decide_eq_false c, if_neg (by decide)] at hbt
      have hmod : (accP s m p t + s) % m = accP s m p t + s := Int.emod_eq_of_lt (by omega) (by omega)
      have kn : Known s m p (t + 1) k last := ⟨by rw [hex, hnext, hmod]; omega, hk0, by omega, by
        rcases h.past with h1 | ⟨h1, h2, h3, h4⟩
        · exact .inl h1
        · exact .inr ⟨h1, by omega, h3, h4⟩⟩
      have ih := pulses_loop hm hs hp d (t + 1) k last (by omega) kn
      refine Ev.step (fun n => ?_) ih
      simp only [laws_FnPulses.l0]
      rw [if_pos (by omega), if_pos (by omega), if_pos (by omega), if_pos hbt, w64' (x := (t : Int) + 1) (by omega) (by omega)]
      rfl
theorem FnPulses : laws_FnPulses.Pure := by
  intro l0 l1 a1 _ u0 b1 _ u1
  refine Ev.rounds ?_
  show Ev (fun k => laws_FnPulses.f k l0 l1) true
  unfold laws_FnPulses.f
  obtain ⟨t, ht, hsz⟩ := long_eq l0 l1
  simp only [ht, Option.bind_some]
  by_cases htt : t = true
  · subst htt; exact Ev.now _
  have htt : t = false := by simpa using htt
  subst htt
  obtain ⟨x0, e0, p0, q0⟩ := b10At_eq u0 0 100 (by omega) (by omega)
  simp only [e0, Option.bind_some, Bool.false_eq_true, if_false]
  simp only [w64' (x := 1 + x0) (by omega) (by omega)]
  obtain ⟨m, hm⟩ : ∃ m, 1 + x0 = m := ⟨_, rfl⟩
  obtain ⟨x1, e1, p1, q1⟩ := b10At_eq u0 1 m (by omega) (by omega)
  obtain ⟨p, e2, p2, q2⟩ := b10At_eq u1 0 m (by omega) (by omega)
  simp only [hm, e1, e2, Option.bind_some]
  simp only [w64' (x := 1 + x1) (by omega) (by omega)]
  obtain ⟨s, hs⟩ : ∃ s, 1 + x1 = s := ⟨_, rfl⟩
  simp only [hs]
  have hmB : 1 ≤ m ∧ m ≤ 100 := by omega
  have hsB : 1 ≤ s ∧ s ≤ m := by omega
  have hpB : 0 ≤ p ∧ p ≤ m - 1 := by omega
  clear e0 e1 e2 hm hs p0 q0 p1 q1 p2 q2 hsz ht u0 u1
  have hA : impl_AccumulateWave.f s m p 200 = some (impl_waveOf.text 200 (impl_AccumulateWave.lev s m p), true) := by
    unfold impl_AccumulateWave.f
    rw [if_pos ⟨by omega, hsB⟩, if_pos hpB, if_pos (by omega)]
    rfl
  have q0 : 0 ≤ m / s := Int.ediv_nonneg (by omega) (by omega)
  have q1 : m / s ≤ m := Int.ediv_le_self _ (by omega)
  have q2 : m / s ≤ (m + s - 1) / s := Int.ediv_le_ediv (by omega) (by omega)
  have q3 : (m + s - 1) / s ≤ m / s + 1 := by
    have h_ : (m + s) / s = m / s + 1 := Int.add_ediv_of_dvd_right ⟨1, by omega⟩ |>.trans (by rw [Int.ediv_self (by omega)])
    have := Int.ediv_le_ediv (c := s) (by omega) (show m + s - 1 ≤ m + s by omega)
    omega
  have hG : impl_GapRange.f s m = some (m / s, (m + s - 1) / s, true) := by
    unfold impl_GapRange.f
    rw [(stepB (by omega) hsB).1, Option.bind_some, if_pos rfl, if_neg (by omega), Int.tdiv_eq_ediv_of_nonneg (by omega), w64' (x := m + s) (by omega) (by omega), w64' (x := m + s - 1) (by omega) (by omega), Int.tdiv_eq_ediv_of_nonneg (by omega), w64' (x := m / s) (by omega) (by omega), w64' (x := (m + s - 1) / s) (by omega) (by omega)]
  have hsz : ((impl_waveOf.text 200 (impl_AccumulateWave.lev s m p)).size : Int) = 200 := by
    unfold impl_waveOf.text; rw [size_nums, impl_waveOf.bytes_length]; rfl
  simp only [hA, hG, Option.bind_some, if_true, hsz]
  simp only [w64' (x := (m + s - 1) / s - m / s) (by omega) (by omega), if_neg (show ¬ (m + s - 1) / s - m / s > 1 by omega), decide_eq_false (show ¬ (m + s - 1) / s < m / s by omega)]
  refine Ev.step (fun n => ?_) (pulses_loop hmB hsB hpB 200 0 0 (-1) (by omega) ⟨by simp [accP], by omega, by omega, .inl rfl⟩)
  simp only [laws_FnPulses.j0]
  rfl
end Go.Proofs.Ytmadpelampanfaa.Pure
