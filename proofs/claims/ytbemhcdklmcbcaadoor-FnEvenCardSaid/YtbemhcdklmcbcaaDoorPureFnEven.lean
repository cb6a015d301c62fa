import Derived.Test.YtbemhcdklmcbcaaDoorA12
import Derived.Test.YtbemhcdklmcbcaaDoorA22
import Derived.Test.YtbemhcdklmcbcaaDoorWMore
import Derived.Test.YtbemhcdklmcbcaaDoorA19
import Derived.Test.YtbemhcdklmcbcaaDoorA41
import Derived.Test.YtbemhcdklmcbcaaDoorA45
import Derived.Test.YtbemhcdklmcbcaaDoorA47
import Derived.Test.YtbemhcdklmcbcaaDoorA70
import Derived.Test.YtbemhcdklmcbcaaDoorAPureOfFnEven
/- The reference's fractions in lowest terms are the program's. Conditions: parts of at most MaxPart. -/
namespace Go.Proofs.YtbemhcdklmcbcaaDoor.A
set_option linter.unusedVariables false
set_option linter.unusedSimpArgs false
open Go.RowKit Go.Proofs.YtbemhcdklmcbcaaDoorW.PrintWords Go.Proofs.YtbemhcdklmcbcaaDoorW.PrintLast Go.Proofs.YtbemhcdklmcbcaaDoorW.PrintMore
theorem specGcd_loop : ∀ (m a b : Nat), b ≤ m → ∀ K, spec_l01Gcd.l0 (K + (m + 1)) (a : Int) (b : Int) = some ((Nat.gcd a b : Nat) : Int) := by
  intro m
  induction m with
  | zero =>
    intro a b hb K
    have e : b = 0 := by omega
    subst e
    show spec_l01Gcd.l0 (K + 0 + 1) (a : Int) 0 = _
    unfold spec_l01Gcd.l0
    rw [if_neg (by omega)]
    simp
  | succ m ih =>
    intro a b hb K
    rw [show K + (m + 1 + 1) = K + (m + 1) + 1 by omega]
    unfold spec_l01Gcd.l0
    by_cases h : b = 0
    · subst h
      rw [if_neg (by omega)]; simp
    · have hlt : a % b < b := Nat.mod_lt _ (by omega)
      have e : Int.tmod (a : Int) (b : Int) = ((a % b : Nat) : Int) := by rw [Int.tmod_eq_emod_of_nonneg (by omega)]; exact (Int.natCast_emod a b).symm
      rw [if_pos (by omega), if_neg (by omega), e, ih b (a % b) (by omega) K, Nat.gcd_comm b, ← Nat.gcd_rec, Nat.gcd_comm]
theorem specMax (a : Int) (h : a.natAbs ≤ 9223372036854775807) : spec_l00Max.f a (wrap64 (-a)) = some (a.natAbs : Int) := by
  have hw : wrap64 (-a) = -a := w64 (by omega) (by omega)
  rw [hw]
  unfold spec_l00Max.f
  by_cases c : a > -a
  · rw [if_pos c]; congr 1; omega
  · rw [if_neg c]; congr 1; omega
theorem tdiv_sgn (a : Int) (g : Nat) : Int.tdiv a (g : Int) = sgn (decide (a < 0)) ((a.natAbs : Int) / (g : Int)) := by
  unfold sgn
  by_cases c : a < 0
  · rw [decide_eq_true c, if_pos rfl]
    have e : a = -(a.natAbs : Int) := by omega
    rw [show (Int.tdiv a (g : Int)) = Int.tdiv (-(a.natAbs : Int)) (g : Int) by rw [← e], Int.neg_tdiv, Int.tdiv_eq_ediv_of_nonneg (by omega)]
  · rw [decide_eq_false c, if_neg (by decide), Int.tdiv_eq_ediv_of_nonneg (by omega)]
    congr 1; omega
theorem gcdI_pos (a b : Int) (hb : b ≠ 0) : 0 < gcdI a b := by
  have := Nat.gcd_pos_of_pos_right a.natAbs (show 0 < b.natAbs by omega)
  unfold gcdI; omega
theorem specFMake (a b : Int) (hb : b ≠ 0) (ha : a.natAbs ≤ 9223372036854775807) (hb' : b.natAbs ≤ 9223372036854775807) : ∃ m, ∀ K, spec_l01FMake.f (K + m) a b = some (numI a b, denI a b) := by
  refine ⟨b.natAbs + 1, fun K => ?_⟩
  have hg := gcdI_pos a b hb
  have hn := numI_le a b
  have hd := denI_le a b
  have ew : wrap64 (numI a b) = numI a b := w64 (by omega) (by omega)
  have ew2 : wrap64 (denI a b) = denI a b := w64 (by omega) (by omega)
  have hg0 : ¬ ((Nat.gcd a.natAbs b.natAbs : Nat) : Int) = 0 := by unfold gcdI at hg; omega
  unfold spec_l01FMake.f spec_l01Gcd.f
  by_cases c : b < 0
  · have wa : wrap64 (-a) = -a := w64 (by omega) (by omega)
    have wb : wrap64 (-b) = -b := w64 (by omega) (by omega)
    have eb : -b = (b.natAbs : Int) := by omega
    rw [if_pos c, wa, specMax (-a) (by omega), Option.bind_some, wb, eb, Int.natAbs_neg, specGcd_loop b.natAbs a.natAbs b.natAbs (Nat.le_refl _) K, Option.bind_some, if_neg hg0]
    have e1 : Int.tdiv (-a) ((Nat.gcd a.natAbs b.natAbs : Nat) : Int) = numI a b := by
      rw [tdiv_sgn, Int.natAbs_neg]
      unfold numI gcdI
      rw [decide_eq_true c]
      by_cases h0 : a = 0
      · subst h0; simp [sgn]
      · congr 1
        by_cases h : a < 0 <;> simp [h] <;> omega
    have e2 : Int.tdiv (b.natAbs : Int) ((Nat.gcd a.natAbs b.natAbs : Nat) : Int) = denI a b := by rw [Int.tdiv_eq_ediv_of_nonneg (by omega)]; rfl
    rw [e1, e2, ew, ew2]
  · rw [if_neg c, specMax a ha, Option.bind_some]
    have eb : b = (b.natAbs : Int) := by omega
    have e1 : Int.tdiv a ((Nat.gcd a.natAbs b.natAbs : Nat) : Int) = numI a b := by
      rw [tdiv_sgn]
      unfold numI gcdI
      rw [decide_eq_false c]
      congr 1
      cases decide (a < 0) <;> rfl
    have e2 : Int.tdiv b ((Nat.gcd a.natAbs b.natAbs : Nat) : Int) = denI a b := by
      rw [Int.tdiv_eq_ediv_of_nonneg (by omega)]; unfold denI gcdI; congr 1
    have hgl := specGcd_loop b.natAbs a.natAbs b.natAbs (Nat.le_refl _) K
    rw [← eb] at hgl
    rw [hgl, Option.bind_some, if_neg hg0, e1, e2, ew, ew2]
theorem lowest (a b : Int) (hb : b ≠ 0) : 1 ≤ denI a b ∧ Nat.gcd (numI a b).natAbs (denI a b).natAbs = 1 := by
  have hg : 0 < Nat.gcd a.natAbs b.natAbs := Nat.gcd_pos_of_pos_right _ (by omega)
  have e1 : (denI a b).natAbs = b.natAbs / Nat.gcd a.natAbs b.natAbs := by
    unfold denI gcdI; rw [← Int.natCast_ediv, Int.natAbs_natCast]
  have e2 : (numI a b).natAbs = a.natAbs / Nat.gcd a.natAbs b.natAbs := by
    unfold numI gcdI sgn; rw [← Int.natCast_ediv]
    split
    · rw [Int.natAbs_neg, Int.natAbs_natCast]
    · rw [Int.natAbs_natCast]
  have h1 : 0 < b.natAbs / Nat.gcd a.natAbs b.natAbs := Nat.div_pos (Nat.le_of_dvd (by omega) (Nat.gcd_dvd_right _ _)) hg
  have h0 : 0 ≤ denI a b := by unfold denI gcdI; exact Int.ediv_nonneg (by omega) (by omega)
  exact ⟨by omega, by rw [e1, e2]; exact Nat.coprime_div_gcd_div_gcd hg⟩
theorem chkF_yes {n d : Int} (h1 : 1 ≤ d) (h2 : d ≤ 1000000000000000000) (h3 : -1000000000000000000 ≤ n) (h4 : n ≤ 1000000000000000000) (hg : Nat.gcd n.natAbs d.natAbs = 1) : chkF n d = (n, d, true) := by
  have c1 : in64 n = true := decide_eq_true ⟨by omega, by omega⟩
  have c2 : in64 d = true := decide_eq_true ⟨by omega, by omega⟩
  exact if_pos ⟨c1, c2, okF_iff.2 ⟨⟨h1, h2⟩, ⟨h3, h4⟩, hg⟩⟩
theorem mkF_small (a b : Int) (hb : b ≠ 0) (ha : a.natAbs ≤ 1000000000000000000) (hb' : b.natAbs ≤ 1000000000000000000) : mkF a b = (numI a b, denI a b, true) := by
  obtain ⟨h1, h2⟩ := lowest a b hb
  have h3 := numI_le a b
  have h4 := denI_le a b
  exact chkF_yes h1 (by omega) (by omega) (by omega) h2
theorem make_small (a b : Int) (hb : b ≠ 0) (ha : a.natAbs ≤ 1000000000000000000) (hb' : b.natAbs ≤ 1000000000000000000) : impl_MakeFraction.f a b = some (numI a b, denI a b, true) := by
  unfold impl_MakeFraction.f
  rw [if_pos ⟨hb, decide_eq_true ⟨by omega, by omega⟩, decide_eq_true ⟨by omega, by omega⟩⟩, mkF_small a b hb ha hb']

theorem in_is (a b c : Int) : spec_l00In.f a b c = some (decide (b ≤ a ∧ a ≤ c)) := by
  unfold spec_l00In.f
  by_cases h : a ≥ b
  · rw [if_pos h]; have h' : b ≤ a := h; simp [h']
  · rw [if_neg h]; have h' : ¬ b ≤ a := h; simp [h']
end Go.Proofs.YtbemhcdklmcbcaaDoor.A

/- Drawn bytes, and a fraction in lowest terms: plain lemmas. No conditions. -/
namespace Go.Proofs.YtbemhcdklmcbcaaDoor.Pure
set_option linter.unusedVariables false
set_option linter.unusedSimpArgs false
open Go.RowKit Go.Proofs.YtbemhcdklmcbcaaDoor.A Go.Proofs.YtbemhcdklmcbcaaDoorW.PrintWords Go.Proofs.YtbemhcdklmcbcaaDoorW.PrintLast Go.Proofs.YtbemhcdklmcbcaaDoorW.PrintMore
theorem w64' {x : Int} (h0 : -9223372036854775808 ≤ x) (h1 : x < 9223372036854775808) : wrap64 x = x := by unfold wrap64; omega
theorem ev_at {α : Type} {g : Nat → Option α} {r : α} (h : ∃ m, ∀ K, g (K + m) = some r) : Ev g r := by
  obtain ⟨m, h⟩ := h
  refine ⟨m, fun k hk => ?_⟩
  have := h (k - m)
  rwa [Nat.sub_add_cancel hk] at this
def U8 (l : List Int) : Prop := ∀ x ∈ l, (Lit.int .u8 x).wf = true
theorem u8_rd {l : List Int} (h : U8 l) (i : Int) : 0 ≤ rd l i ∧ rd l i ≤ 255 := by
  unfold rd
  rw [List.getD_eq_getElem?_getD]
  rcases hq : l[i.toNat]? with _ | x
  · simp
  · have hm := h x (List.mem_of_getElem? hq)
    simp only [Lit.wf, Bool.and_eq_true, decide_eq_true_eq] at hm
    have e1 : IntKind.u8.min = 0 := rfl
    have e2 : IntKind.u8.max = 255 := rfl
    simp only [Option.getD_some]; omega
theorem b10At_eq {l : List Int} (h : U8 l) (k n : Int) (hk : 0 ≤ k ∧ k ≤ 1000000) (hn : 1 ≤ n) : ∃ x, laws_b10At.f l k n = some x ∧ 0 ≤ x ∧ x < n := by
  unfold laws_b10At.f
  by_cases h1 : n ≤ 1
  · exact ⟨0, by rw [if_pos h1], by omega, by omega⟩
  · rw [if_neg h1]
    by_cases h2 : k < (l.length : Int)
    · have hr := u8_rd h k
      rw [if_pos h2, if_pos hk.1, if_neg (by omega), w64' (by omega) (by omega), Int.tmod_eq_emod_of_nonneg hr.1]
      exact ⟨_, rfl, Int.emod_nonneg _ (by omega), Int.emod_lt_of_pos _ (by omega)⟩
    · rw [if_neg h2, if_neg (by omega), w64' (x := k * 37) (by omega) (by omega), w64' (by omega) (by omega), Int.tmod_eq_emod_of_nonneg (by omega)]
      exact ⟨_, rfl, Int.emod_nonneg _ (by omega), Int.emod_lt_of_pos _ (by omega)⟩
theorem low_parts (a e : Int) (he : 1 ≤ e) : ∃ g : Nat, 0 < g ∧ a = g * numI a e ∧ e = g * denI a e ∧ 1 ≤ denI a e ∧ Nat.gcd (numI a e).natAbs (denI a e).natAbs = 1 := by
  have hl := lowest a e (by omega)
  refine ⟨Nat.gcd a.natAbs e.natAbs, Nat.gcd_pos_of_pos_right _ (by omega), ?_, ?_, hl.1, hl.2⟩
  · unfold numI gcdI sgn
    rw [decide_eq_false (show ¬ e < 0 by omega)]
    have h := Nat.mul_div_cancel' (Nat.gcd_dvd_left a.natAbs e.natAbs)
    have h' : ((Nat.gcd a.natAbs e.natAbs : Nat) : Int) * ((a.natAbs : Int) / ((Nat.gcd a.natAbs e.natAbs : Nat) : Int)) = (a.natAbs : Int) := by rw [← Int.natCast_ediv, ← Int.natCast_mul, h]
    by_cases c : a < 0
    · rw [decide_eq_true c]; simp; rw [Int.mul_neg, h']; omega
    · rw [decide_eq_false c]; simp; rw [h']; omega
  · unfold denI gcdI
    have h := Nat.mul_div_cancel' (Nat.gcd_dvd_right a.natAbs e.natAbs)
    rw [← Int.natCast_ediv, ← Int.natCast_mul, h]; omega
theorem long_eq (l0 l1 : List Int) : ∃ t, laws_b10Long.f l0 l1 = some t ∧ (t = false → l0.length ≤ 1048576 ∧ l1.length ≤ 1048576) := by
  unfold laws_b10Long.f
  by_cases c : (l0.length : Int) > 1048576
  · exact ⟨true, if_pos c, fun z => by cases z⟩
  · rw [if_neg c]
    refine ⟨_, rfl, fun z => ?_⟩
    have := of_decide_eq_false z
    omega
theorem ev_const {α : Type} {g : Nat → Option α} {r : α} (h : ∀ k, g k = some r) : Ev g r := ⟨0, fun k _ => h k⟩
end Go.Proofs.YtbemhcdklmcbcaaDoor.Pure

/- Windows of a turned wave, how uneven it is, and even patterns: plain lemmas, no program in sight. No conditions. -/
namespace Go.Proofs.YtbemhcdklmcbcaaDoor.Pure
set_option linter.unusedVariables false
set_option linter.unusedSimpArgs false
open Go.RowKit Go.Proofs.YtbemhcdklmcbcaaDoorW.PrintWords Go.Proofs.YtbemhcdklmcbcaaDoorW.PrintLast Go.Proofs.YtbemhcdklmcbcaaDoorW.PrintMore
def b1 (b : Bool) : Int := if b = true then 1 else 0
theorem b1_bd (b : Bool) : 0 ≤ b1 b ∧ b1 b ≤ 1 := by unfold b1; split <;> omega
/-- How many of so many slots from a on are marked, round and round. -/
def cw (f : Nat → Bool) (n a : Nat) : Nat → Int
  | 0 => 0
  | s + 1 => cw f n a s + b1 (f ((a + s) % n))
theorem cw_bd (f : Nat → Bool) (n a : Nat) : ∀ s : Nat, 0 ≤ cw f n a s ∧ cw f n a s ≤ s
  | 0 => ⟨Int.le_refl _, Int.le_refl _⟩
  | s + 1 => by
    have := cw_bd f n a s
    have := b1_bd (f ((a + s) % n))
    show 0 ≤ cw f n a s + b1 (f ((a + s) % n)) ∧ cw f n a s + b1 (f ((a + s) % n)) ≤ ((s + 1 : Nat) : Int)
    omega
theorem cw_congr {f g : Nat → Bool} {n a b : Nat} : ∀ s : Nat, (∀ j, j < s → f ((a + j) % n) = g ((b + j) % n)) → cw f n a s = cw g n b s
  | 0, _ => rfl
  | s + 1, h => by
    have ih := cw_congr (f := f) (g := g) (n := n) (a := a) (b := b) s (fun j hj => h j (by omega))
    show cw f n a s + b1 (f ((a + s) % n)) = cw g n b s + b1 (g ((b + s) % n))
    rw [ih, h s (by omega)]
theorem cw_not {f g : Nat → Bool} {n a : Nat} : ∀ s : Nat, (∀ j, j < s → g ((a + j) % n) = !f ((a + j) % n)) → cw g n a s = s - cw f n a s
  | 0, _ => rfl
  | s + 1, h => by
    have ih := cw_not (f := f) (g := g) (n := n) (a := a) s (fun j hj => h j (by omega))
    have hb : b1 (!f ((a + s) % n)) = 1 - b1 (f ((a + s) % n)) := by cases f ((a + s) % n) <;> rfl
    show cw g n a s + b1 (g ((a + s) % n)) = ((s + 1 : Nat) : Int) - (cw f n a s + b1 (f ((a + s) % n)))
    rw [ih, h s (by omega), hb]; omega
/-- The least and the greatest number of marks of windows of a size, of those that begin before k. -/
def lo (f : Nat → Bool) (n size : Nat) : Nat → Int
  | 0 => size
  | k + 1 => mn (lo f n size k) (cw f n k size)
def hi (f : Nat → Bool) (n size : Nat) : Nat → Int
  | 0 => 0
  | k + 1 => mx (hi f n size k) (cw f n k size)
theorem mn_is (a b : Int) : mn a b ≤ a ∧ mn a b ≤ b ∧ (mn a b = a ∨ mn a b = b) := by unfold mn; split <;> omega
theorem mx_is (a b : Int) : a ≤ mx a b ∧ b ≤ mx a b ∧ (mx a b = a ∨ mx a b = b) := by unfold mx; split <;> omega
theorem lo_le (f : Nat → Bool) (n size : Nat) : ∀ k a, a < k → lo f n size k ≤ cw f n a size
  | 0, a, h => by omega
  | k + 1, a, h => by
    have m := mn_is (lo f n size k) (cw f n k size)
    show mn (lo f n size k) (cw f n k size) ≤ _
    by_cases c : a = k
    · subst c; omega
    · have := lo_le f n size k a (by omega); omega
theorem hi_ge (f : Nat → Bool) (n size : Nat) : ∀ k a, a < k → cw f n a size ≤ hi f n size k
  | 0, a, h => by omega
  | k + 1, a, h => by
    have m := mx_is (hi f n size k) (cw f n k size)
    show _ ≤ mx (hi f n size k) (cw f n k size)
    by_cases c : a = k
    · subst c; omega
    · have := hi_ge f n size k a (by omega); omega
theorem lo_at (f : Nat → Bool) (n size : Nat) : ∀ k, 1 ≤ k → ∃ a, a < k ∧ lo f n size k = cw f n a size
  | 0, h => by omega
  | k + 1, _ => by
    have m := mn_is (lo f n size k) (cw f n k size)
    have e : lo f n size (k + 1) = mn (lo f n size k) (cw f n k size) := rfl
    by_cases c : k = 0
    · subst c
      have b := cw_bd f n 0 size
      have e0 : lo f n size 0 = size := rfl
      exact ⟨0, by omega, by rw [e]; omega⟩
    · obtain ⟨a, ha, h⟩ := lo_at f n size k (by omega)
      rcases m.2.2 with h1 | h1
      · exact ⟨a, by omega, by rw [e, h1, h]⟩
      · exact ⟨k, by omega, by rw [e, h1]⟩
theorem hi_at (f : Nat → Bool) (n size : Nat) : ∀ k, 1 ≤ k → ∃ a, a < k ∧ hi f n size k = cw f n a size
  | 0, h => by omega
  | k + 1, _ => by
    have m := mx_is (hi f n size k) (cw f n k size)
    have e : hi f n size (k + 1) = mx (hi f n size k) (cw f n k size) := rfl
    by_cases c : k = 0
    · subst c
      have b := cw_bd f n 0 size
      have e0 : hi f n size 0 = 0 := rfl
      exact ⟨0, by omega, by rw [e]; omega⟩
    · obtain ⟨a, ha, h⟩ := hi_at f n size k (by omega)
      rcases m.2.2 with h1 | h1
      · exact ⟨a, by omega, by rw [e, h1, h]⟩
      · exact ⟨k, by omega, by rw [e, h1]⟩
theorem lo_bd (f : Nat → Bool) (n size : Nat) : ∀ k, 0 ≤ lo f n size k ∧ lo f n size k ≤ size
  | 0 => ⟨by show (0 : Int) ≤ size; omega, Int.le_refl _⟩
  | k + 1 => by
    have m := mn_is (lo f n size k) (cw f n k size)
    have := lo_bd f n size k
    have := cw_bd f n k size
    show 0 ≤ mn (lo f n size k) (cw f n k size) ∧ mn (lo f n size k) (cw f n k size) ≤ size
    omega
theorem hi_bd (f : Nat → Bool) (n size : Nat) : ∀ k, 0 ≤ hi f n size k ∧ hi f n size k ≤ size
  | 0 => ⟨Int.le_refl _, by show (0 : Int) ≤ size; omega⟩
  | k + 1 => by
    have m := mx_is (hi f n size k) (cw f n k size)
    have := hi_bd f n size k
    have := cw_bd f n k size
    show 0 ≤ mx (hi f n size k) (cw f n k size) ∧ mx (hi f n size k) (cw f n k size) ≤ size
    omega
/-- How uneven windows of at most a size are. -/
def mu (f : Nat → Bool) (n : Nat) : Nat → Int
  | 0 => 0
  | s + 1 => mx (mu f n s) (hi f n (s + 1) n - lo f n (s + 1) n)
theorem mu_bd (f : Nat → Bool) (n : Nat) : ∀ s, 0 ≤ mu f n s ∧ mu f n s ≤ s
  | 0 => ⟨Int.le_refl _, Int.le_refl _⟩
  | s + 1 => by
    have m := mx_is (mu f n s) (hi f n (s + 1) n - lo f n (s + 1) n)
    have := mu_bd f n s
    have := hi_bd f n (s + 1) n
    have := lo_bd f n (s + 1) n
    show 0 ≤ mx (mu f n s) (hi f n (s + 1) n - lo f n (s + 1) n) ∧ mx (mu f n s) (hi f n (s + 1) n - lo f n (s + 1) n) ≤ ((s + 1 : Nat) : Int)
    omega
theorem mu_ge (f : Nat → Bool) (n : Nat) : ∀ s size, 1 ≤ size → size ≤ s → ∀ a b, a < n → b < n → cw f n a size - cw f n b size ≤ mu f n s
  | 0, size, h1, h2, _, _, _, _ => by omega
  | s + 1, size, h1, h2, a, b, ha, hb => by
    have m := mx_is (mu f n s) (hi f n (s + 1) n - lo f n (s + 1) n)
    show _ ≤ mx (mu f n s) (hi f n (s + 1) n - lo f n (s + 1) n)
    by_cases c : size = s + 1
    · subst c
      have := hi_ge f n (s + 1) n a ha
      have := lo_le f n (s + 1) n b hb
      omega
    · have := mu_ge f n s size h1 (by omega) a b ha hb
      omega
theorem mu_at (f : Nat → Bool) (n : Nat) (hn : 1 ≤ n) : ∀ s, mu f n s = 0 ∨ ∃ size a b, 1 ≤ size ∧ size ≤ s ∧ a < n ∧ b < n ∧ mu f n s = cw f n a size - cw f n b size
  | 0 => .inl rfl
  | s + 1 => by
    have m := mx_is (mu f n s) (hi f n (s + 1) n - lo f n (s + 1) n)
    have e : mu f n (s + 1) = mx (mu f n s) (hi f n (s + 1) n - lo f n (s + 1) n) := rfl
    rcases m.2.2 with h1 | h1
    · rcases mu_at f n hn s with h | ⟨size, a, b, x1, x2, x3, x4, x5⟩
      · exact .inl (by rw [e, h1, h])
      · exact .inr ⟨size, a, b, x1, by omega, x3, x4, by rw [e, h1, x5]⟩
    · obtain ⟨a, ha, h⟩ := hi_at f n (s + 1) n hn
      obtain ⟨b, hb, h'⟩ := lo_at f n (s + 1) n hn
      exact .inr ⟨s + 1, a, b, by omega, by omega, ha, hb, by rw [e, h1, h, h']⟩
theorem mu_le (f : Nat → Bool) (n : Nat) (hn : 1 ≤ n) (s : Nat) (m : Int) (h0 : 0 ≤ m) (h : ∀ size a b, 1 ≤ size → size ≤ s → a < n → b < n → cw f n a size - cw f n b size ≤ m) : mu f n s ≤ m := by
  rcases mu_at f n hn s with h1 | ⟨size, a, b, x1, x2, x3, x4, x5⟩
  · omega
  · have := h size a b x1 x2 x3 x4; omega
/-- The greatest difference from the first window, as the law finds it. -/
def fi (f : Nat → Bool) (n size : Nat) (F : Int) : Nat → Int
  | 0 => F
  | i + 1 => mx (mx (fi f n size F i) (cw f n i size - cw f n 0 size)) (cw f n 0 size - cw f n i size)
def fs (f : Nat → Bool) (n : Nat) : Nat → Int
  | 0 => 0
  | s + 1 => fi f n (s + 1) (fs f n s) n
theorem fi_ge (f : Nat → Bool) (n size : Nat) (F : Int) : ∀ i, F ≤ fi f n size F i ∧ ∀ a, a < i → cw f n a size - cw f n 0 size ≤ fi f n size F i ∧ cw f n 0 size - cw f n a size ≤ fi f n size F i
  | 0 => ⟨Int.le_refl _, fun a h => by omega⟩
  | i + 1 => by
    obtain ⟨h1, h2⟩ := fi_ge f n size F i
    have m1 := mx_is (fi f n size F i) (cw f n i size - cw f n 0 size)
    have m2 := mx_is (mx (fi f n size F i) (cw f n i size - cw f n 0 size)) (cw f n 0 size - cw f n i size)
    have e : fi f n size F (i + 1) = mx (mx (fi f n size F i) (cw f n i size - cw f n 0 size)) (cw f n 0 size - cw f n i size) := rfl
    rw [e]
    refine ⟨by omega, fun a ha => ?_⟩
    by_cases c : a = i
    · subst c; omega
    · have := h2 a (by omega); omega
theorem fi_le (f : Nat → Bool) (n size : Nat) (F M : Int) (hF : F ≤ M) : ∀ i, (∀ a, a < i → cw f n a size - cw f n 0 size ≤ M ∧ cw f n 0 size - cw f n a size ≤ M) → fi f n size F i ≤ M
  | 0, _ => hF
  | i + 1, h => by
    have ih := fi_le f n size F M hF i (fun a ha => h a (by omega))
    have m1 := mx_is (fi f n size F i) (cw f n i size - cw f n 0 size)
    have m2 := mx_is (mx (fi f n size F i) (cw f n i size - cw f n 0 size)) (cw f n 0 size - cw f n i size)
    have := h i (by omega)
    show mx (mx (fi f n size F i) (cw f n i size - cw f n 0 size)) (cw f n 0 size - cw f n i size) ≤ M
    omega
theorem fs_ge (f : Nat → Bool) (n : Nat) : ∀ s, 0 ≤ fs f n s ∧ ∀ size a, 1 ≤ size → size ≤ s → a < n → cw f n a size - cw f n 0 size ≤ fs f n s ∧ cw f n 0 size - cw f n a size ≤ fs f n s
  | 0 => ⟨Int.le_refl _, fun size a h1 h2 => by omega⟩
  | s + 1 => by
    obtain ⟨h1, h2⟩ := fs_ge f n s
    obtain ⟨g1, g2⟩ := fi_ge f n (s + 1) (fs f n s) n
    have e : fs f n (s + 1) = fi f n (s + 1) (fs f n s) n := rfl
    rw [e]
    refine ⟨by omega, fun size a x1 x2 ha => ?_⟩
    by_cases c : size = s + 1
    · subst c; exact g2 a ha
    · have := h2 size a x1 (by omega) ha; omega
theorem fs_le (f : Nat → Bool) (n : Nat) (hn : 1 ≤ n) : ∀ s, fs f n s ≤ mu f n s
  | 0 => Int.le_refl _
  | s + 1 => by
    have ih := fs_le f n hn s
    have m := mx_is (mu f n s) (hi f n (s + 1) n - lo f n (s + 1) n)
    have e : mu f n (s + 1) = mx (mu f n s) (hi f n (s + 1) n - lo f n (s + 1) n) := rfl
    refine fi_le f n (s + 1) (fs f n s) _ (by rw [e]; omega) n (fun a ha => ?_)
    exact ⟨mu_ge f n (s + 1) (s + 1) (by omega) (Nat.le_refl _) a 0 ha (by omega), mu_ge f n (s + 1) (s + 1) (by omega) (Nat.le_refl _) 0 a (by omega) ha⟩
theorem twice_fs (f : Nat → Bool) (n : Nat) (hn : 1 ≤ n) (s : Nat) : mu f n s ≤ 2 * fs f n s := by
  obtain ⟨h1, h2⟩ := fs_ge f n s
  rcases mu_at f n hn s with h | ⟨size, a, b, x1, x2, x3, x4, x5⟩
  · omega
  · have := h2 size a x1 x2 x3
    have := h2 size b x1 x2 x4
    omega
theorem fi_bd (f : Nat → Bool) (n size : Nat) (F : Int) (hF : 0 ≤ F ∧ F ≤ 1000) (hs : size ≤ 1000) (i : Nat) : 0 ≤ fi f n size F i ∧ fi f n size F i ≤ 1000 := by
  refine ⟨by have := (fi_ge f n size F i).1; omega, fi_le f n size F 1000 hF.2 i (fun a ha => ?_)⟩
  have := cw_bd f n a size
  have := cw_bd f n 0 size
  omega
theorem fs_bd (f : Nat → Bool) (n : Nat) : ∀ s, s ≤ 1000 → 0 ≤ fs f n s ∧ fs f n s ≤ 1000
  | 0, _ => ⟨Int.le_refl _, by show (0 : Int) ≤ 1000; decide⟩
  | s + 1, h => fi_bd f n (s + 1) (fs f n s) (fs_bd f n s (by omega)) h n
/-! Even patterns. -/
/-- The mark of slot i of an even pattern, of whatever i. -/
def ev1 (n m i : Nat) : Bool := decide (i * m / n < (i + 1) * m / n)
theorem ev1_b1 {n m : Nat} (hn : 1 ≤ n) (hm : m ≤ n) (i : Nat) : b1 (ev1 n m i) = (((i + 1) * m / n : Nat) : Int) - ((i * m / n : Nat) : Int) := by
  have e : (i + 1) * m = i * m + m := by rw [Nat.add_mul, Nat.one_mul]
  have h1 : i * m / n ≤ (i + 1) * m / n := Nat.div_le_div_right (by omega)
  have h2 : (i + 1) * m / n ≤ i * m / n + 1 := by
    rw [e]
    have := Nat.div_le_div_right (c := n) (show i * m + m ≤ i * m + n by omega)
    rw [Nat.add_div_right _ (by omega)] at this
    omega
  unfold ev1 b1
  by_cases c : i * m / n < (i + 1) * m / n
  · rw [decide_eq_true c, if_pos rfl]; omega
  · rw [decide_eq_false c, if_neg (by decide)]; omega
theorem ev1_mod {n m : Nat} (hn : 1 ≤ n) (i : Nat) : ev1 n m (i % n) = ev1 n m i := by
  have e : i = n * (i / n) + i % n := (Nat.div_add_mod i n).symm
  have k : ∀ j, (n * (i / n) + j) * m / n = (i / n) * m + j * m / n := by
    intro j
    have : (n * (i / n) + j) * m = n * ((i / n) * m) + j * m := by rw [Nat.add_mul, Nat.mul_assoc]
    rw [this, Nat.mul_add_div (by omega)]
  unfold ev1
  have k1 := k (i % n)
  have k2 := k (i % n + 1)
  rw [← Nat.add_assoc] at k2
  rw [← e] at k1 k2
  rw [decide_eq_decide, k1, k2]
  omega
theorem ev1_cw {n m : Nat} (hn : 1 ≤ n) (hm : m ≤ n) (a : Nat) : ∀ s, cw (ev1 n m) n a s = (((a + s) * m / n : Nat) : Int) - ((a * m / n : Nat) : Int)
  | 0 => by show (0 : Int) = _; simp
  | s + 1 => by
    have ih := ev1_cw hn hm a s
    show cw (ev1 n m) n a s + b1 (ev1 n m ((a + s) % n)) = _
    rw [ih, ev1_mod hn, ev1_b1 hn hm, Nat.add_assoc]; omega
theorem ev1_near {n m : Nat} (hn : 1 ≤ n) (hm : m ≤ n) (a b s : Nat) : cw (ev1 n m) n a s - cw (ev1 n m) n b s ≤ 1 := by
  rw [ev1_cw hn hm, ev1_cw hn hm]
  have k : ∀ a : Nat, a * m / n + s * m / n ≤ (a + s) * m / n ∧ (a + s) * m / n ≤ a * m / n + s * m / n + 1 := by
    intro a
    rw [Nat.add_mul, Nat.add_div (by omega)]
    split <;> omega
  have := k a
  have := k b
  omega
end Go.Proofs.YtbemhcdklmcbcaaDoor.Pure

/- Waves as lists of levels: of the program's IsWave, DutyOf, and texts that are made by levels. No conditions. -/
namespace Go.Proofs.YtbemhcdklmcbcaaDoor.Pure
set_option linter.unusedVariables false
set_option linter.unusedSimpArgs false
open Go.RowKit Go.Proofs.YtbemhcdklmcbcaaDoor.A Go.Proofs.YtbemhcdklmcbcaaDoorW.PrintWords Go.Proofs.YtbemhcdklmcbcaaDoorW.PrintLast Go.Proofs.YtbemhcdklmcbcaaDoorW.PrintMore
def waveB (s : ByteArray) : Bool := s.data.toList.all (fun b => decide (b.toNat = 48 ∨ b.toNat = 49)) && decide (s.size ≤ 400)
theorem bt_get (s : ByteArray) (i : Nat) (h : i < s.size) : bt s (i : Int) = ((s.data.toList[i]'(by simpa using h)).toNat : Int) := by
  unfold bt
  rw [Int.toNat_natCast, dif_pos h]
  rfl
theorem drop_nil {p : UInt8 → Bool} : ∀ (l : List UInt8), l.dropWhile p = [] → l.all p = true
  | [], _ => rfl
  | x :: l, h => by
    rw [List.dropWhile_cons] at h
    cases hx : p x
    · rw [hx] at h; simp at h
    · rw [hx, if_pos rfl] at h
      rw [List.all_cons, hx, drop_nil l h]; rfl
theorem drop_head {p : UInt8 → Bool} : ∀ (l : List UInt8) (x : UInt8) (r : List UInt8), l.dropWhile p = x :: r → p x = false
  | [], _, _, h => by simp at h
  | y :: l, x, r, h => by
    rw [List.dropWhile_cons] at h
    cases hy : p y
    · rw [hy, if_neg (by decide)] at h
      injection h with h1 h2
      rw [← h1]; exact hy
    · rw [hy, if_pos rfl] at h
      exact drop_head l x r h
theorem drop_all {p : UInt8 → Bool} : ∀ (l : List UInt8), l.all p = true → l.dropWhile p = []
  | [], _ => rfl
  | x :: l, h => by
    rw [List.all_cons, Bool.and_eq_true] at h
    rw [List.dropWhile_cons, if_pos h.1]
    exact drop_all l h.2
theorem trim_nil (l cs : List UInt8) : (Lib.trimS l cs == []) = l.all (cs.contains ·) := by
  unfold Lib.trimS Lib.trimLeftS Lib.trimRightS
  cases h : l.all (cs.contains ·)
  · rw [beq_eq_false_iff_ne]
    intro h2
    have h3 := drop_nil _ h2
    cases hd : l.reverse.dropWhile (cs.contains ·) with
    | nil =>
      have h4 := drop_nil _ hd
      rw [List.all_reverse, h] at h4
      exact absurd h4 (by decide)
    | cons x r =>
      rw [hd, List.all_reverse, List.all_cons, drop_head _ x r hd, Bool.false_and] at h3
      exact absurd h3 (by decide)
  · rw [beq_iff_eq, drop_all l.reverse (by rw [List.all_reverse]; exact h)]
    rfl
theorem all_u8 {p : UInt8 → Bool} (h : (List.range 256).all (fun n => p (UInt8.ofNat n)) = true) (x : UInt8) : p x = true := by
  have := List.all_eq_true.1 h x.toNat (List.mem_range.2 x.toNat_lt)
  rwa [UInt8.ofNat_toNat] at this
theorem has_level (x : UInt8) : ([48, 49] : List UInt8).contains x = decide (x.toNat = 48 ∨ x.toNat = 49) :=
  beq_iff_eq.1 (all_u8 (p := fun x => ([48, 49] : List UInt8).contains x == decide (x.toNat = 48 ∨ x.toNat = 49)) (by decide +kernel) x)
theorem data_size (s : ByteArray) : s.data.toList.length = s.size := by simp
theorem implWave (s : ByteArray) (hs : s.size ≤ 1048576) : impl_IsWave.f s = some (waveB s) := by
  unfold impl_IsWave.f waveB strings_Trim.f
  by_cases c : s.size ≤ 400
  · rw [if_pos (by omega), if_pos ⟨by omega, by decide, by decide⟩, Option.bind_some, decide_eq_true c, Bool.and_true, ByteArray.toList_mk, trim_nil]
    congr 2
    funext x
    exact has_level x
  · rw [if_neg (by omega), decide_eq_false c, Bool.and_false]
theorem wave_has {s : ByteArray} (h : waveB s = true) : (∀ x ∈ s.data.toList, x.toNat = 48 ∨ x.toNat = 49) ∧ s.size ≤ 400 := by
  unfold waveB at h
  rw [Bool.and_eq_true] at h
  exact ⟨fun x hx => of_decide_eq_true (List.all_eq_true.1 h.1 x hx), of_decide_eq_true h.2⟩
/-- What both return. -/
def dutyR (s : ByteArray) : Int × Int × Bool := if waveB s = true ∧ s.size ≠ 0 then (numI ((s.data.toList.count 49 : Nat) : Int) (s.size : Int), denI ((s.data.toList.count 49 : Nat) : Int) (s.size : Int), true) else (0, 0, false)
theorem ev_implDuty (s : ByteArray) (hs : s.size ≤ 1048576) : Ev (fun k => impl_DutyOf.f k s) (dutyR s) := by
  unfold impl_DutyOf.f dutyR
  simp only [implWave s hs, Option.bind_some]
  have hL : (s.toList == ([] : List UInt8)) = decide (s.size = 0) := by
    rw [Lib.toList_data, Lib.size_eq]
    cases s.data.toList <;> rfl
  cases h : waveB s
  · rw [if_neg (by simp)]
    simp only [Bool.false_eq_true, if_false]
    exact Ev.step (f := fun _ => some (0, 0, false)) (fun k => by simp only [impl_DutyOf.j0, if_true]) (Ev.now _)
  · simp only [if_true]
    obtain ⟨hw, h4⟩ := wave_has h
    rw [hL]
    by_cases c : s.size = 0
    · rw [if_neg (fun z => z.2 c), decide_eq_true c]
      exact Ev.step (f := fun _ => some (0, 0, false)) (fun k => by simp only [impl_DutyOf.j0, if_true]) (Ev.now _)
    · rw [if_pos ⟨trivial, c⟩, decide_eq_false c]
      have hc : List.count 49 s.data.toList ≤ s.size := by have := List.count_le_length (a := (49 : UInt8)) (l := s.data.toList); simpa using this
      have hC : strings_Count.f s (⟨#[49]⟩ : ByteArray) = some ((s.data.toList.count 49 : Nat) : Int) := by
        unfold strings_Count.f; rw [if_pos (show (⟨#[49]⟩ : ByteArray).size = 1 from rfl)]; rfl
      refine Ev.step (f := fun _ => some (numI ((s.data.toList.count 49 : Nat) : Int) (s.size : Int), denI ((s.data.toList.count 49 : Nat) : Int) (s.size : Int), true)) (fun k => ?_) (Ev.now _)
      simp only [impl_DutyOf.j0, Bool.false_eq_true, if_false, hC, Option.bind_some]
      rw [make_small _ _ (by omega) (by omega) (by omega)]
      rfl

/-- The byte of a level. -/
def lb (b : Bool) : UInt8 := if b = true then 49 else 48
def wvL (n : Nat) (f : Nat → Bool) : List UInt8 := (List.range n).map (fun i => lb (f i))
def wv (n : Nat) (f : Nat → Bool) : ByteArray := ⟨(wvL n f).toArray⟩
theorem wvL_length (n : Nat) (f : Nat → Bool) : (wvL n f).length = n := by simp [wvL]
theorem wvL_get (n : Nat) (f : Nat → Bool) (i : Nat) (h : i < (wvL n f).length) : (wvL n f)[i] = lb (f i) := by simp [wvL]
theorem wv_data (n : Nat) (f : Nat → Bool) : (wv n f).data.toList = wvL n f := by simp [wv]
theorem wv_size (n : Nat) (f : Nat → Bool) : (wv n f).size = n := by simp [wv, ByteArray.size, wvL]
theorem ba_ext {s t : ByteArray} (h : s.data.toList = t.data.toList) : s = t := by
  obtain ⟨⟨a⟩⟩ := s; obtain ⟨⟨b⟩⟩ := t
  simp at h; subst h; rfl
theorem text_wv (n : Nat) (f : Nat → Bool) : impl_waveOf.text n f = wv n f := by
  apply ba_ext
  rw [wv_data]
  unfold impl_waveOf.text impl_waveOf.bytes strOfNums wvL lb
  simp only [List.map_map]
  apply List.map_congr_left
  intro i _
  simp only [Function.comp]
  split <;> rfl
theorem wv_congr {n : Nat} {f g : Nat → Bool} (h : ∀ i, i < n → f i = g i) : wv n f = wv n g := by
  apply ba_ext
  rw [wv_data, wv_data]
  unfold wvL
  apply List.map_congr_left
  intro i hi
  rw [h i (List.mem_range.1 hi)]
theorem wv_wave (n : Nat) (f : Nat → Bool) (hn : n ≤ 400) : waveB (wv n f) = true := by
  unfold waveB
  rw [wv_size, wv_data, decide_eq_true hn, Bool.and_true, List.all_eq_true]
  intro x hx
  unfold wvL at hx
  obtain ⟨i, _, rfl⟩ := List.mem_map.1 hx
  cases f i <;> rfl
theorem wv_isWave (n : Nat) (f : Nat → Bool) (hn : n ≤ 400) : impl_IsWave.f (wv n f) = some true := by
  rw [implWave _ (by rw [wv_size]; omega), wv_wave n f hn]
theorem wv_bt (n : Nat) (f : Nat → Bool) (i : Nat) (hi : i < n) : bt (wv n f) (i : Int) = 48 + b1 (f i) := by
  rw [bt_get _ i (by rw [wv_size]; exact hi)]
  have : ∀ (L : List UInt8) (e : L = wvL n f) (h : i < L.length), ((L[i]'h).toNat : Int) = 48 + b1 (f i) := by
    intro L e h; subst e
    rw [wvL_get]; cases f i <;> rfl
  exact this _ (wv_data n f) _
/-- A wave twice. -/
theorem wv_twice (n : Nat) (f : Nat → Bool) : (wv n f ++ wv n f).data.toList = wvL n f ++ wvL n f := by simp [wv]
theorem twice_get (n : Nat) (f : Nat → Bool) (hn : 1 ≤ n) (i : Nat) (h : i < (wvL n f ++ wvL n f).length) : (wvL n f ++ wvL n f)[i] = lb (f (i % n)) := by
  have hl := wvL_length n f
  rw [List.length_append, hl] at h
  rw [List.getElem_append]
  split
  · rename_i c
    rw [wvL_get, Nat.mod_eq_of_lt (by omega)]
  · rename_i c
    rw [wvL_get, hl]
    congr 1
    have : i % n = (i - n) % n := by rw [Nat.mod_eq_sub_mod (by omega)]
    rw [this, Nat.mod_eq_of_lt (by omega)]
theorem twice_bt (n : Nat) (f : Nat → Bool) (hn : 1 ≤ n) (i : Nat) (hi : i < n + n) : bt (wv n f ++ wv n f) (i : Int) = 48 + b1 (f (i % n)) := by
  rw [bt_get _ i (by rw [ByteArray.size_append, wv_size]; exact hi)]
  have : ∀ (L : List UInt8) (e : L = wvL n f ++ wvL n f) (h : i < L.length), ((L[i]'h).toNat : Int) = 48 + b1 (f (i % n)) := by
    intro L e h; subst e
    rw [twice_get n f hn]; cases f (i % n) <;> rfl
  exact this _ (wv_twice n f) _
/-- Marks of a part of a wave twice. -/
theorem count_part (n : Nat) (f : Nat → Bool) (hn : 1 ≤ n) (a : Nat) : ∀ s, a + s ≤ n + n → ((((wvL n f ++ wvL n f).drop a).take s).count 49 : Nat) = cw f n a s
  | 0, _ => rfl
  | s + 1, h => by
    have ih := count_part n f hn a s (by omega)
    have hl : (wvL n f ++ wvL n f).length = n + n := by rw [List.length_append, wvL_length]
    have hd : s < ((wvL n f ++ wvL n f).drop a).length := by rw [List.length_drop]; omega
    rw [List.take_succ_eq_append_getElem hd, List.count_append, Int.natCast_add, ih, List.getElem_drop, twice_get n f hn]
    show _ = cw f n a s + b1 (f ((a + s) % n))
    congr 1
    cases f ((a + s) % n) <;> rfl
theorem count_twice (n : Nat) (f : Nat → Bool) (hn : 1 ≤ n) (a s : Nat) (h : a + s ≤ n + n) : strings_Count.f ((wv n f ++ wv n f).extract a (a + s)) (⟨#[49]⟩ : ByteArray) = some (cw f n a s) := by
  unfold strings_Count.f
  rw [if_pos (show (⟨#[49]⟩ : ByteArray).size = 1 from rfl), ← count_part n f hn a s h]
  congr 3
  rw [ByteArray.data_extract, Array.toList_extract, wv_twice, List.extract_eq_take_drop, Nat.add_sub_cancel_left]
theorem count_all (n : Nat) (f : Nat → Bool) : (((wv n f).data.toList.count 49 : Nat) : Int) = cw f n 0 n := by
  rw [wv_data]
  have : ∀ s, s ≤ n → (((wvL s f).count 49 : Nat) : Int) = cw f n 0 s := by
    intro s
    induction s with
    | zero => intro _; rfl
    | succ s ih =>
      intro h
      have e : wvL (s + 1) f = wvL s f ++ [lb (f s)] := by simp [wvL, List.range_succ]
      rw [e, List.count_append, Int.natCast_add, ih (by omega)]
      show _ = cw f n 0 s + b1 (f ((0 + s) % n))
      rw [Nat.zero_add, Nat.mod_eq_of_lt (by omega)]
      congr 1
      cases f s <;> rfl
  exact this n (Nat.le_refl _)
/-- A wave that is turned. -/
theorem wv_turn (n : Nat) (f : Nat → Bool) (a : Nat) (ha : a < n) : (wv n f).extract a (wv n f).size ++ (wv n f).extract 0 a = wv n (fun i => f ((i + a) % n)) := by
  apply ba_ext
  rw [wv_size, wv_data]
  have e : ((wv n f).extract a n ++ (wv n f).extract 0 a).data.toList = (wvL n f).drop a ++ (wvL n f).take a := by
    simp only [ByteArray.data_append, Array.toList_append, ByteArray.data_extract, Array.toList_extract, wv_data, List.extract_eq_take_drop]
    rw [List.take_of_length_le (by rw [List.length_drop, wvL_length]; omega)]
    simp
  rw [e]
  have hl := wvL_length n f
  apply List.ext_getElem
  · rw [List.length_append, List.length_drop, List.length_take, wvL_length, wvL_length]; omega
  · intro i h1 h2
    rw [wvL_get]
    rw [List.length_append, List.length_drop, List.length_take, hl] at h1
    rw [List.getElem_append]
    split
    · rename_i c
      rw [List.length_drop, hl] at c
      rw [List.getElem_drop, wvL_get, Nat.add_comm, Nat.mod_eq_of_lt (by omega)]
    · rename_i c
      rw [List.length_drop, hl] at c
      rw [List.getElem_take, wvL_get]
      congr 2
      rw [List.length_drop, hl, Nat.mod_eq_sub_mod (by omega), Nat.mod_eq_of_lt (by omega)]
      omega
theorem strOf_wv (xs : List Int) (hx : ∀ x ∈ xs, x = 48 ∨ x = 49) : strOfNums xs = wv xs.length (fun i => rd xs (i : Int) == 49) := by
  apply ba_ext
  rw [wv_data]
  unfold strOfNums
  simp only
  apply List.ext_getElem
  · simp [wvL]
  · intro i h1 h2
    have h3 : i < xs.length := by simpa using h1
    rw [wvL_get]
    simp only [List.getElem_map]
    have e : rd xs (i : Int) = xs[i] := by unfold rd; simp [h3]
    rw [e]
    rcases hx _ (List.getElem_mem h3) with h | h <;> rw [h] <;> rfl
theorem duty_wv (n : Nat) (f : Nat → Bool) (hn : 1 ≤ n) (hn' : n ≤ 400) : Ev (fun k => impl_DutyOf.f k (wv n f)) (numI (cw f n 0 n) (n : Int), denI (cw f n 0 n) (n : Int), true) := by
  have h := ev_implDuty (wv n f) (by rw [wv_size]; omega)
  unfold dutyR at h
  rw [wv_wave n f hn', if_pos ⟨rfl, by rw [wv_size]; omega⟩, count_all, wv_size] at h
  exact h
end Go.Proofs.YtbemhcdklmcbcaaDoor.Pure

/- What the reference draws: bytes, numbers. No conditions. -/
namespace Go.Proofs.YtbemhcdklmcbcaaDoor.Pure
set_option linter.unusedVariables false
set_option linter.unusedSimpArgs false
open Go.RowKit Go.Proofs.YtbemhcdklmcbcaaDoor.A Go.Proofs.YtbemhcdklmcbcaaDoorW.PrintWords Go.Proofs.YtbemhcdklmcbcaaDoorW.PrintLast Go.Proofs.YtbemhcdklmcbcaaDoorW.PrintMore
theorem w64 {x : Int} (h1 : -9223372036854775808 ≤ x) (h2 : x ≤ 9223372036854775807) : wrap64 x = x := by unfold wrap64; omega
theorem wu64 (n : Int) : IntKind.u64.wrap n = n % 18446744073709551616 := by simp [IntKind.wrap, IntKind.bits, IntKind.signed]
theorem and255 (x : Int) (h0 : 0 ≤ x) (h1 : x < 16777216) : bits .and .u64 x 255 = x % 256 :=
  bits_mask .u64 24 (by decide) (fun n a b => by rw [wu64]; simp at b; omega) 8 (by decide) x h0 (by simpa using h1)
theorem tmod_pos (x n : Int) (h0 : 0 ≤ x) : Int.tmod x n = x % n := Int.tmod_eq_emod_of_nonneg h0

theorem next_eq {l : List Int} (h : U8 l) (at_ seed : Int) (h0 : 0 ≤ at_) (h1 : at_ ≤ 1000) : ∃ v s, spec_l00Src_next.f l at_ seed = some (v, at_ + 1, s) ∧ 0 ≤ v ∧ v ≤ 255 := by
  unfold spec_l00Src_next.f
  have hr := u8_rd h at_
  have hw : wrap64 (at_ + 1) = at_ + 1 := w64 (by omega) (by omega)
  have hb : ∀ e : Int, 0 ≤ wrap64 (bits .and .u64 ((IntKind.u64.wrap e) / 1099511627776) 255) ∧ wrap64 (bits .and .u64 ((IntKind.u64.wrap e) / 1099511627776) 255) ≤ 255 := by
    intro e
    rw [wu64, and255 _ (by omega) (by omega), w64 (by omega) (by omega)]; omega
  rw [hw]
  by_cases c1 : at_ < (l.length : Int)
  · rw [if_pos c1, if_pos h0]
    split
    · exact ⟨_, _, rfl, by rw [w64 (by omega) (by omega)]; omega, by rw [w64 (by omega) (by omega)]; omega⟩
    · exact ⟨_, _, rfl, (hb _).1, (hb _).2⟩
  · rw [if_neg c1]
    split
    · exact ⟨_, _, rfl, by omega, by omega⟩
    · exact ⟨_, _, rfl, (hb _).1, (hb _).2⟩

theorem pick_small {l : List Int} (h : U8 l) (at_ seed n : Int) (h0 : 0 ≤ at_) (h1 : at_ ≤ 1000) (hn : 2 ≤ n) (hn' : n ≤ 200) : ∃ v s, spec_l00Src_pick.f l at_ seed n = some (v, at_ + 1, s) ∧ 0 ≤ v ∧ v < n := by
  obtain ⟨v, s, e, v0, v1⟩ := next_eq h at_ seed h0 h1
  refine ⟨v % n, s, ?_, Int.emod_nonneg _ (by omega), Int.emod_lt_of_pos _ (by omega)⟩
  unfold spec_l00Src_pick.f
  rw [if_neg (by omega), e]
  simp only [Option.bind_some]
  rw [if_neg (by omega), if_neg (by omega), tmod_pos _ _ v0]
theorem one_small {l : List Int} (h : U8 l) (at_ seed n : Int) (h0 : 0 ≤ at_) (h1 : at_ ≤ 1000) (hn : 2 ≤ n) (hn' : n ≤ 200) : ∃ v s, spec_l00Src_one.f l at_ seed n = some (v, at_ + 1, s) := by
  obtain ⟨v, s, e, -, -⟩ := pick_small h at_ seed n h0 h1 hn hn'
  refine ⟨v == 0, s, ?_⟩
  unfold spec_l00Src_one.f
  rw [e]; rfl
theorem pick_any {l : List Int} (h : U8 l) (at_ seed n : Int) (h0 : 0 ≤ at_) (h1 : at_ ≤ 1000) (hn : 1 ≤ n) (hn' : n ≤ 200) : ∃ v a s, spec_l00Src_pick.f l at_ seed n = some (v, a, s) ∧ 0 ≤ v ∧ v < n ∧ at_ ≤ a ∧ a ≤ at_ + 1 := by
  by_cases c : n = 1
  · subst c
    refine ⟨0, at_, seed, ?_, by omega, by omega, by omega, by omega⟩
    unfold spec_l00Src_pick.f; rw [if_pos (by omega)]
  · obtain ⟨v, s, e, v0, v1⟩ := pick_small h at_ seed n h0 h1 (by omega) hn'
    exact ⟨v, at_ + 1, s, e, v0, v1, by omega, by omega⟩
theorem one_any {l : List Int} (h : U8 l) (at_ seed n : Int) (h0 : 0 ≤ at_) (h1 : at_ ≤ 1000) (hn : 1 ≤ n) (hn' : n ≤ 200) : ∃ v a s, spec_l00Src_one.f l at_ seed n = some (v, a, s) ∧ at_ ≤ a ∧ a ≤ at_ + 1 := by
  obtain ⟨v, a, s, e, -, -, a0, a1⟩ := pick_any h at_ seed n h0 h1 hn hn'
  refine ⟨v == 0, a, s, ?_, a0, a1⟩
  unfold spec_l00Src_one.f
  rw [e]; rfl
end Go.Proofs.YtbemhcdklmcbcaaDoor.Pure

/- What the reference draws: levels. No conditions. -/
namespace Go.Proofs.YtbemhcdklmcbcaaDoor.Pure
set_option linter.unusedVariables false
set_option linter.unusedSimpArgs false
open Go.RowKit Go.Proofs.YtbemhcdklmcbcaaDoor.A Go.Proofs.YtbemhcdklmcbcaaDoorW.PrintWords Go.Proofs.YtbemhcdklmcbcaaDoorW.PrintLast Go.Proofs.YtbemhcdklmcbcaaDoorW.PrintMore
theorem ev_levels {l : List Int} (h : U8 l) : ∀ (d : Nat) (acc : List Int) (lev at_ seed : Int), (lev = 48 ∨ lev = 49) → (∀ x ∈ acc, x = 48 ∨ x = 49) → 0 ≤ at_ → at_ + d ≤ 1000 → acc.length + d ≤ 1000 →
    ∃ xs p q, xs.length = acc.length + d ∧ (∀ x ∈ xs, x = 48 ∨ x = 49) ∧ Ev (fun k => spec_l07DrawLevels.l0 k (d : Int) acc lev l at_ seed) (strOfNums xs, p, q)
  | 0, acc, lev, at_, seed, hl, ha, h0, h1, h2 => by
    refine ⟨acc, at_, seed, by omega, ha, Ev.step (f := fun _ => some (strOfNums acc, at_, seed)) (fun k => ?_) (Ev.now _)⟩
    simp only [spec_l07DrawLevels.l0]
    rw [if_neg (by omega)]
  | d + 1, acc, lev, at_, seed, hl, ha, h0, h1, h2 => by
    obtain ⟨v, s, e⟩ := one_small h at_ seed 6 h0 (by omega) (by omega) (by omega)
    have hacc : ∀ y : Int, (y = 48 ∨ y = 49) → ∀ x ∈ acc ++ [y], x = 48 ∨ x = 49 := by
      intro y hy x hx
      rcases List.mem_append.1 hx with h_ | h_
      · exact ha x h_
      · rw [List.mem_singleton.1 h_]; exact hy
    have hw : wrap64 (((d + 1 : Nat) : Int) - 1) = (d : Int) := by rw [w64 (by omega) (by omega)]; omega
    have step : ∀ y : Int, (y = 48 ∨ y = 49) → (∀ k, spec_l07DrawLevels.l0 (k + 1) ((d + 1 : Nat) : Int) acc lev l at_ seed = spec_l07DrawLevels.l0 k (d : Int) (acc ++ [y]) y l (at_ + 1) s) →
        ∃ xs p q, xs.length = acc.length + (d + 1) ∧ (∀ x ∈ xs, x = 48 ∨ x = 49) ∧ Ev (fun k => spec_l07DrawLevels.l0 k ((d + 1 : Nat) : Int) acc lev l at_ seed) (strOfNums xs, p, q) := by
      intro y hy hk
      obtain ⟨xs, p, q, x1, x2, x3⟩ := ev_levels h d (acc ++ [y]) y (at_ + 1) s hy (hacc y hy) (by omega) (by omega) (by rw [List.length_append]; simp; omega)
      exact ⟨xs, p, q, by rw [x1, List.length_append]; simp; omega, x2, Ev.step hk x3⟩
    cases v
    · refine step lev hl (fun k => ?_)
      simp only [spec_l07DrawLevels.l0]
      rw [if_pos (by omega), e]
      simp only [Option.bind_some, Bool.false_eq_true, if_false]
      rw [if_pos (by omega), hw]
    · refine step ((97 - lev) % 256) (by rcases hl with rfl | rfl <;> simp) (fun k => ?_)
      simp only [spec_l07DrawLevels.l0]
      rw [if_pos (by omega), e]
      simp only [Option.bind_some, if_true]
      rw [if_pos (by omega), hw]
theorem b10Levels {l : List Int} (h : U8 l) (n : Nat) (hn : n ≤ 400) : ∃ xs : List Int, xs.length = n ∧ (∀ x ∈ xs, x = 48 ∨ x = 49) ∧ Ev (fun k => spec_B10Levels.f k l (n : Int)) (strOfNums xs) := by
  obtain ⟨v, s, e, v0, v1⟩ := pick_small h 0 0 2 (by omega) (by omega) (by omega) (by omega)
  have hlev : (wrap64 (48 + v)) % 256 = 48 ∨ (wrap64 (48 + v)) % 256 = 49 := by
    rw [w64 (by omega) (by omega)]; omega
  obtain ⟨xs, p, q, x1, x2, x3⟩ := ev_levels h n [] ((wrap64 (48 + v)) % 256) (0 + 1) s hlev (fun x hx => by simp at hx) (by omega) (by omega) (by simp; omega)
  refine ⟨xs, by simpa using x1, x2, ?_⟩
  unfold spec_B10Levels.f spec_l00From.f
  simp only [Option.bind_some]
  refine Ev.bind (a := (strOfNums xs, p, q)) ?_ (Ev.now _)
  unfold spec_l07DrawLevels.f
  simp only [e, Option.bind_some]
  exact x3
end Go.Proofs.YtbemhcdklmcbcaaDoor.Pure

/- The pure side of FnEven: an even pattern has its marks and is even, turned or with marks and gaps exchanged as well, and a drawn pattern is even exactly if it is nowhere more uneven than by 1. No conditions. -/
namespace Go.Proofs.YtbemhcdklmcbcaaDoor.Pure
set_option linter.unusedVariables false
set_option linter.unusedSimpArgs false
open Go.RowKit Go.Proofs.YtbemhcdklmcbcaaDoor.A Go.Proofs.YtbemhcdklmcbcaaDoorW.PrintWords Go.Proofs.YtbemhcdklmcbcaaDoorW.PrintLast Go.Proofs.YtbemhcdklmcbcaaDoorW.PrintMore
theorem pattern_wv (n : Nat) (f : Nat → Bool) (h1 : 1 ≤ n) (h2 : n ≤ 64) : impl_isPattern.f (wv n f) = some true := by
  unfold impl_isPattern.f
  rw [wv_isWave n f (by omega), within_eq', wv_size, decide_eq_true (by omega)]
  rfl
theorem ev_un1 (n : Nat) (f : Nat → Bool) (h1 : 1 ≤ n) (h2 : n ≤ 64) (x : Int) (size : Nat) (hs1 : 1 ≤ size) (hs : size ≤ n) (hx : 0 ≤ x ∧ x ≤ 1000) (r : Int) : ∀ d k : Nat, k + d = n →
    Ev (fun j => impl_mostUneven.l0 j (wv n f) (mx x (hi f n size n - lo f n size n)) ((size : Int) + 1)) r →
    Ev (fun j => impl_mostUneven.l1 j (wv n f) x (size : Int) (lo f n size k) (hi f n size k) (n : Int) (k : Int)) r
  | 0, k, hk, h => by
    obtain rfl : k = n := by omega
    have b1 := lo_bd f k size k
    have b2 := hi_bd f k size k
    refine Ev.step (fun j => ?_) h
    simp only [impl_mostUneven.l1]
    rw [if_neg (by omega), w64' (x := hi f k size k - lo f k size k) (by omega) (by omega), w64' (x := (size : Int) + 1) (by omega) (by omega)]
  | d + 1, k, hk, h => by
    have ih := ev_un1 n f h1 h2 x size hs1 hs hx r d (k + 1) (by omega) h
    have e1 : lo f n size (k + 1) = mn (lo f n size k) (cw f n k size) := rfl
    have e2 : hi f n size (k + 1) = mx (hi f n size k) (cw f n k size) := rfl
    rw [e1, e2] at ih
    have hw : wrap64 ((k : Int) + (size : Int)) = ((k + size : Nat) : Int) := by rw [w64' (by omega) (by omega)]; omega
    have hc := count_twice n f h1 k size (by omega)
    refine Ev.step (fun j => ?_) ih
    simp only [impl_mostUneven.l1]
    rw [hw, if_pos (by omega), if_pos (by rw [wv_size]; omega), if_pos (by omega), if_pos (by omega), if_pos (by rw [ByteArray.size_append, wv_size]; omega), Int.toNat_natCast, Int.toNat_natCast, hc, Option.bind_some, w64' (x := (k : Int) + 1) (by omega) (by omega)]
    rfl
theorem ev_un0 (n : Nat) (f : Nat → Bool) (h1 : 1 ≤ n) (h2 : n ≤ 64) : ∀ d s : Nat, s + d = n → Ev (fun j => impl_mostUneven.l0 j (wv n f) (mu f n s) ((s : Int) + 1)) (mu f n n)
  | 0, s, hs => by
    obtain rfl : s = n := by omega
    refine Ev.step (f := fun _ => some (mu f s s)) (fun j => ?_) (Ev.now _)
    simp only [impl_mostUneven.l0]
    rw [if_neg (by rw [wv_size]; omega)]
  | d + 1, s, hs => by
    have ih := ev_un0 n f h1 h2 d (s + 1) (by omega)
    have e : mu f n (s + 1) = mx (mu f n s) (hi f n (s + 1) n - lo f n (s + 1) n) := rfl
    have b := mu_bd f n s
    rw [e] at ih
    have h := ev_un1 n f h1 h2 (mu f n s) (s + 1) (by omega) (by omega) (by omega) (mu f n n) n 0 (by omega) ih
    refine Ev.step (fun j => ?_) h
    simp only [impl_mostUneven.l0]
    rw [if_pos (by rw [wv_size]; omega), wv_size]
    rfl
theorem ev_uneven (n : Nat) (f : Nat → Bool) (h1 : 1 ≤ n) (h2 : n ≤ 64) : Ev (fun k => impl_mostUneven.f k (wv n f)) (mu f n n) := ev_un0 n f h1 h2 n 0 (by omega)
theorem ev_isEven (n : Nat) (f : Nat → Bool) (h1 : 1 ≤ n) (h2 : n ≤ 64) : Ev (fun k => impl_IsEvenPattern.f k (wv n f)) (decide (mu f n n ≤ 1)) := by
  unfold impl_IsEvenPattern.f
  simp only [pattern_wv n f h1 h2, Option.bind_some, if_true]
  exact Ev.bind (ev_uneven n f h1 h2) (Ev.now _)
theorem ev_most (n : Nat) (f : Nat → Bool) (h1 : 1 ≤ n) (h2 : n ≤ 64) : Ev (fun k => impl_MostUneven.f k (wv n f)) (mu f n n, true) := by
  unfold impl_MostUneven.f
  simp only [pattern_wv n f h1 h2, Option.bind_some, if_true]
  exact Ev.bind (ev_uneven n f h1 h2) (Ev.now _)
theorem mod48 (b : Bool) : (48 + b1 b - 48) % 256 = b1 b := by cases b <;> rfl
/-- The law's own count of two windows. -/
theorem ev_two (n : Nat) (f : Nat → Bool) (h1 : 1 ≤ n) (h2 : n ≤ 64) (M F : Int) (size i : Nat) (hs : size ≤ n) (hi : i < n) (r : Bool) : ∀ d k : Nat, k + d = size →
    Ev (fun j => laws_FnEven.l1 j (n : Int) M (mx (mx F (cw f n i size - cw f n 0 size)) (cw f n 0 size - cw f n i size)) (wv n f ++ wv n f) (size : Int) ((i : Int) + 1)) r →
    Ev (fun j => laws_FnEven.l2 j (n : Int) M F (wv n f ++ wv n f) (size : Int) (i : Int) (cw f n i k) (cw f n 0 k) (k : Int)) r
  | 0, k, hk, h => by
    obtain rfl : k = size := by omega
    have c1 := cw_bd f n i k
    have c2 := cw_bd f n 0 k
    refine Ev.step (fun j => ?_) h
    simp only [laws_FnEven.l2]
    rw [if_neg (by omega), w64' (x := cw f n i k - cw f n 0 k) (by omega) (by omega), w64' (x := cw f n 0 k - cw f n i k) (by omega) (by omega), w64' (x := (i : Int) + 1) (by omega) (by omega)]
  | d + 1, k, hk, h => by
    have ih := ev_two n f h1 h2 M F size i hs hi r d (k + 1) (by omega) h
    have e1 : cw f n i (k + 1) = cw f n i k + b1 (f ((i + k) % n)) := rfl
    have e2 : cw f n 0 (k + 1) = cw f n 0 k + b1 (f ((0 + k) % n)) := rfl
    have c1 := cw_bd f n i k
    have c2 := cw_bd f n 0 k
    have d1 := b1_bd (f ((i + k) % n))
    have d2 := b1_bd (f ((0 + k) % n))
    have g1 := twice_bt n f h1 (i + k) (by omega)
    have g2 := twice_bt n f h1 k (by omega)
    have hz : (wv n f ++ wv n f).size = n + n := by rw [ByteArray.size_append, wv_size]
    have m1 := mod48 (f ((i + k) % n))
    have m2 := mod48 (f (k % n))
    rw [e1, e2] at ih
    rw [Nat.zero_add] at ih d2
    obtain ⟨R1, hR1⟩ : ∃ R, mx (mx F (cw f n i size - cw f n 0 size)) (cw f n 0 size - cw f n i size) = R := ⟨_, rfl⟩
    obtain ⟨C1, hC1⟩ : ∃ C, cw f n i k = C := ⟨_, rfl⟩
    obtain ⟨C2, hC2⟩ : ∃ C, cw f n 0 k = C := ⟨_, rfl⟩
    obtain ⟨B1, hB1⟩ : ∃ C, b1 (f ((i + k) % n)) = C := ⟨_, rfl⟩
    obtain ⟨B2, hB2⟩ : ∃ C, b1 (f (k % n)) = C := ⟨_, rfl⟩
    obtain ⟨T, hT⟩ : ∃ T, wv n f ++ wv n f = T := ⟨_, rfl⟩
    rw [hC1, hC2, hB1, hB2, hT] at ih
    rw [hC1] at c1 ⊢; rw [hC2] at c2 ⊢; rw [hB1] at d1 g1 m1; rw [hB2] at d2 g2 m2; rw [hT] at g1 g2 hz ⊢
    clear e1 e2 hC1 hC2 hB1 hB2 hT h hR1
    have hs1 : (i : Int) + (k : Int) = ((i + k : Nat) : Int) := by omega
    refine Ev.step (fun j => ?_) ih
    simp only [laws_FnEven.l2]
    have x1 : (k : Int) < (size : Int) := by clear g1 g2 ih; omega
    have x2 : (0 : Int) ≤ ((i + k : Nat) : Int) := by clear g1 g2 ih; omega
    have x3 : ((i + k : Nat) : Int) < (T.size : Int) := by clear g1 g2 ih; omega
    have x4 : (0 : Int) ≤ (k : Int) := by clear g1 g2 ih; omega
    have x5 : (k : Int) < (T.size : Int) := by clear g1 g2 ih; omega
    have w1 : wrap64 ((i + k : Nat) : Int) = ((i + k : Nat) : Int) := by clear g1 g2 ih; exact w64' (by omega) (by omega)
    have w2 : wrap64 (C1 + B1) = C1 + B1 := by clear g1 g2 ih w1; exact w64' (by omega) (by omega)
    have w3 : wrap64 (C2 + B2) = C2 + B2 := by clear g1 g2 ih w1 w2; exact w64' (by omega) (by omega)
    have w4 : wrap64 ((k : Int) + 1) = ((k + 1 : Nat) : Int) := by clear g1 g2 ih w1 w2 w3; exact (w64' (by omega) (by omega)).trans (by omega)
    rw [hs1, w1, g1, g2, m1, m2, if_pos x1, if_pos x2, if_pos x3, if_pos x4, if_pos x5, w2, w3, w4]
theorem ev_starts (n : Nat) (f : Nat → Bool) (h1 : 1 ≤ n) (h2 : n ≤ 64) (M F : Int) (size : Nat) (hs : size ≤ n) (r : Bool) : ∀ d i : Nat, i + d = n →
    Ev (fun j => laws_FnEven.l0 j (n : Int) M (fi f n size F n) (wv n f ++ wv n f) ((size : Int) + 1)) r →
    Ev (fun j => laws_FnEven.l1 j (n : Int) M (fi f n size F i) (wv n f ++ wv n f) (size : Int) (i : Int)) r
  | 0, i, hi, h => by
    obtain rfl : i = n := by omega
    refine Ev.step (fun j => ?_) h
    simp only [laws_FnEven.l1]
    rw [if_neg (by omega), w64' (x := (size : Int) + 1) (by omega) (by omega)]
  | d + 1, i, hi, h => by
    have ih := ev_starts n f h1 h2 M F size hs r d (i + 1) (by omega) h
    have e : fi f n size F (i + 1) = mx (mx (fi f n size F i) (cw f n i size - cw f n 0 size)) (cw f n 0 size - cw f n i size) := rfl
    rw [e] at ih
    have t := ev_two n f h1 h2 M (fi f n size F i) size i hs (by omega) r size 0 (by omega) ih
    refine Ev.step (fun j => ?_) t
    simp only [laws_FnEven.l1]
    rw [if_pos (by omega)]
    rfl
theorem ev_sizes (n : Nat) (f : Nat → Bool) (h1 : 1 ≤ n) (h2 : n ≤ 64) : ∀ d s : Nat, s + d = n →
    Ev (fun j => laws_FnEven.l0 j (n : Int) (mu f n n) (fs f n s) (wv n f ++ wv n f) ((s : Int) + 1)) true
  | 0, s, hs => by
    obtain rfl : s = n := by omega
    have b := fs_bd f s s (by omega)
    have l1 := fs_le f s h1 s
    have l2 := twice_fs f s h1 s
    refine Ev.step (f := fun _ => some true) (fun j => ?_) (Ev.now _)
    simp only [laws_FnEven.l0]
    rw [if_neg (by omega), if_pos l1, w64' (x := 2 * fs f s s) (by omega) (by omega), decide_eq_true (by omega)]
  | d + 1, s, hs => by
    have ih := ev_sizes n f h1 h2 d (s + 1) (by omega)
    have e : fs f n (s + 1) = fi f n (s + 1) (fs f n s) n := rfl
    rw [e] at ih
    have t := ev_starts n f h1 h2 (mu f n n) (fs f n s) (s + 1) (by omega) true n 0 (by omega) ih
    refine Ev.step (fun j => ?_) t
    simp only [laws_FnEven.l0]
    rw [if_pos (by omega)]
    rfl
/-- A drawn pattern. -/
theorem ev_own (l : List Int) (h : U8 l) (n : Nat) (h1 : 1 ≤ n) (h2 : n ≤ 64) : Ev (fun k => laws_FnEven.j1 k l (n : Int) false) true := by
  obtain ⟨xs, x1, x2, x3⟩ := b10Levels h n (by omega)
  rw [strOf_wv xs x2, x1] at x3
  obtain ⟨f, hf⟩ : ∃ f : Nat → Bool, (fun i : Nat => rd xs (i : Int) == 49) = f := ⟨_, rfl⟩
  rw [hf] at x3
  refine Ev.step (f := fun k => (spec_B10Levels.f k l (n : Int)).bind fun t => (impl_MostUneven.f k t).bind fun b => if b.2 = true then (impl_IsEvenPattern.f k t).bind fun t2 => laws_FnEven.j2 k (n : Int) t b.1 (t2 != (decide (b.1 ≤ 1))) else none) (fun k => ?_) ?_
  · simp only [laws_FnEven.j1]
    rw [if_neg (by decide)]
  refine Ev.bind x3 (Ev.bind (ev_most n f h1 h2) ?_)
  simp only [if_true]
  refine Ev.bind (ev_isEven n f h1 h2) ?_
  refine Ev.step (fun k => ?_) (ev_sizes n f h1 h2 n 0 (by omega))
  simp only [laws_FnEven.j2, bne_self_eq_false, Bool.false_eq_true, if_false]
  rw [if_pos (by rw [wv_size]; omega)]
  rfl
theorem FnEven : laws_FnEven.Pure := by
  intro l0 l1 w0 w1
  refine Ev.rounds ?_
  show Ev (fun k => laws_FnEven.f k l0 l1) true
  have u0 : U8 l0 := w0.2
  have u1 : U8 l1 := w1.2
  unfold laws_FnEven.f
  obtain ⟨t, ht, hsz⟩ := long_eq l0 l1
  simp only [ht, Option.bind_some]
  by_cases htt : t = true
  · subst htt; exact Ev.now _
  have htt : t = false := by simpa using htt
  subst htt
  obtain ⟨x0, e0, p0, q0⟩ := b10At_eq u0 0 24 (by omega) (by omega)
  simp only [e0, Option.bind_some, Bool.false_eq_true, if_false]
  simp only [w64' (x := 1 + x0) (by omega) (by omega)]
  obtain ⟨n, hn⟩ := Int.eq_ofNat_of_zero_le (show 0 ≤ 1 + x0 by omega)
  simp only [hn]
  simp only [w64' (x := (n : Int) + 1) (by omega) (by omega)]
  obtain ⟨x1, e1, p1, q1⟩ := b10At_eq u0 1 ((n : Int) + 1) (by omega) (by omega)
  simp only [e1, Option.bind_some]
  obtain ⟨m, rfl⟩ := Int.eq_ofNat_of_zero_le p1
  have hn1 : 1 ≤ n := by omega
  have hn2 : n ≤ 24 := by omega
  have hm : m ≤ n := by omega
  clear e0 e1 hsz ht u0 w0 w1
  have hE : impl_EvenPattern.f (n : Int) (m : Int) = some (wv n (ev1 n m), true) := by
    unfold impl_EvenPattern.f
    rw [if_pos (by omega), if_pos (by omega), Int.toNat_natCast, text_wv]
    congr 2
    apply wv_congr
    intro i _
    unfold impl_EvenPattern.lev ev1
    rw [decide_eq_decide]
    rw [← Int.natCast_mul, ← Int.natCast_ediv, show ((i : Int) + 1) = ((i + 1 : Nat) : Int) by omega, ← Int.natCast_mul, ← Int.natCast_ediv]
    omega
  simp only [hE, Option.bind_some, if_true, wv_size, bne_self_eq_false]
  obtain ⟨x2, e2, p2, q2⟩ := b10At_eq u1 0 (n : Int) (by omega) (by omega)
  obtain ⟨a, rfl⟩ := Int.eq_ofNat_of_zero_le p2
  have own := ev_own l1 u1 n hn1 (by omega)
  -- the turned one, and the other one
  have g1 : ∀ i, ev1 n m ((i % n + a) % n) = ev1 n m (i + a) := by
    intro i
    rw [ev1_mod hn1, ← ev1_mod hn1 (i % n + a), Nat.mod_add_mod, ev1_mod hn1]
  have cwT : ∀ b s, cw (fun i => ev1 n m ((i + a) % n)) n b s = cw (ev1 n m) n (b + a) s := by
    intro b s
    refine cw_congr s (fun j _ => ?_)
    rw [g1, ev1_mod hn1]
    congr 1; omega
  have muE : mu (ev1 n m) n n ≤ 1 := mu_le _ n hn1 n 1 (by omega) (fun size b c _ _ _ _ => ev1_near hn1 hm b c size)
  have muT : mu (fun i => ev1 n m ((i + a) % n)) n n ≤ 1 := mu_le _ n hn1 n 1 (by omega) (fun size b c _ _ _ _ => by rw [cwT, cwT]; exact ev1_near hn1 hm _ _ size)
  have hN : impl_NotWave.f (wv n (fun i => ev1 n m ((i + a) % n))) = some (wv n (fun i => !ev1 n m ((i + a) % n)), true) := by
    unfold impl_NotWave.f
    rw [wv_isWave _ _ (by omega), Option.bind_some, if_pos rfl, wv_size, text_wv]
    congr 2
    apply wv_congr
    intro i hi
    unfold impl_NotWave.lev
    rw [wv_bt _ _ i hi]
    cases ev1 n m ((i + a) % n) <;> rfl
  have muN : mu (fun i => !ev1 n m ((i + a) % n)) n n ≤ 1 := mu_le _ n hn1 n 1 (by omega) (fun size b c _ _ _ _ => by
    have k := fun b => cw_not (f := fun i => ev1 n m ((i + a) % n)) (g := fun i => !ev1 n m ((i + a) % n)) (n := n) (a := b) size (fun _ _ => rfl)
    rw [k, k, cwT, cwT]
    have := ev1_near hn1 hm (c + a) (b + a) size
    omega)
  have marks : cw (ev1 n m) n 0 n = (m : Int) := by
    rw [ev1_cw hn1 hm, Nat.zero_add, Nat.mul_comm n m, Nat.mul_div_cancel _ (by omega)]
    simp
  have duty := duty_wv n (ev1 n m) hn1 (by omega)
  rw [marks] at duty
  have share : Ev (fun k => spec_MakeFraction.f k (m : Int) (n : Int)) (numI (m : Int) (n : Int), denI (m : Int) (n : Int), true) := by
    unfold spec_MakeFraction.f
    rw [in_is, in_is]
    simp only [Option.bind_some, if_neg (show ¬ (n : Int) = 0 by omega)]
    rw [decide_eq_true (by omega), decide_eq_true (by omega)]
    simp only [if_true]
    exact Ev.bind (ev_at (specFMake _ _ (by omega) (by omega) (by omega))) (Ev.now _)
  have turn := wv_turn n (ev1 n m) a (by omega)
  rw [wv_size] at turn
  refine Ev.step (f := fun k => (impl_DutyOf.f k (wv n (ev1 n m))).bind fun d => (spec_MakeFraction.f k (m : Int) (n : Int)).bind fun s => (if d.2.2 = true then (if s.2.2 = true then (if (!(d.1 == s.1) || (!(d.2.1 == s.2.1))) = true then (none) else ((impl_IsEvenPattern.f k (wv n (ev1 n m))).bind fun t256 => (if t256 = true then ((impl_IsEvenPattern.f k (wv n (fun i => ev1 n m ((i + a) % n)))).bind fun t257 => (if t257 = true then ((impl_IsEvenPattern.f k (wv n (fun i => !ev1 n m ((i + a) % n)))).bind fun t258 => (laws_FnEven.j1 k l1 (n : Int) (!t258))) else (none))) else (none)))) else (none)) else (none))) (fun k => ?_) ?_
  · simp only [laws_FnEven.j0]
    rw [if_neg (by decide), e2, Option.bind_some, if_pos (by omega), wv_size, if_pos (by omega), Int.toNat_natCast, turn, hN]
    rw [if_pos (by simp only [ByteArray.size_extract, wv_size]; omega)]
    simp only [Option.bind_some, if_true]
  refine Ev.bind duty (Ev.bind share ?_)
  simp only [if_true, beq_self_eq_true, Bool.not_true, Bool.or_false, Bool.false_eq_true, if_false]
  refine Ev.bind (ev_isEven n _ hn1 (by omega)) ?_
  rw [decide_eq_true muE]
  simp only [if_true]
  refine Ev.bind (ev_isEven n _ hn1 (by omega)) ?_
  rw [decide_eq_true muT]
  simp only [if_true]
  refine Ev.bind (ev_isEven n _ hn1 (by omega)) ?_
  rw [decide_eq_true muN]
  exact own
end Go.Proofs.YtbemhcdklmcbcaaDoor.Pure
