/- Texts of this claim, put together by this session's pack2.py: each part is introduced by its own comment. No conditions. -/
import Derived.Test.YtbemhcdklmcbcaaGreatDoorQ22
import Derived.Test.YtbemhcdklmcbcaaGreatDoorRats7
import Derived.Test.YtbemhcdklmcbcaaGreatDoorQ23
-- Printed by this session's oprint.py through the kit's printer.
namespace Go.Proofs.YtbemhcdklmcbcaaGreatDoor.A
open Go.RowKit Go.Proofs.YtbemhcdklmcbcaaGreatDoorW.PrintWords Go.Proofs.YtbemhcdklmcbcaaGreatDoorW.PrintLast Go.Proofs.YtbemhcdklmcbcaaGreatDoorW.PrintMore
attribute [local go_sem] max2_int min2_int max_two min_two max_three min_three max_four min_four   -- for this text's walks alone
set_option linter.unusedVariables false
set_option linter.unusedSimpArgs false

/-! ### impl_MakeFraction: function 18 -/
-- given: proved by hand (makefraction.tpl)
/-- A part of a fraction is at most this. -/
def isPart (n : Int) : Bool := decide (-1000000000000000000 ≤ n ∧ n ≤ 1000000000000000000)
def impl_MakeFraction.f (a0 : Int) (a1 : Int) : Option (Int × Int × Bool) := some (if a1 ≠ 0 ∧ isPart a0 = true ∧ isPart a1 = true then mkF a0 a1 else (0, 0, false))
theorem isPart_within (n : Int) : impl_within.f n (-1000000000000000000) 1000000000000000000 = some (isPart n) := within_is _ _ _
theorem isPart_le {n : Int} (h : isPart n = true) : -1000000000000000000 ≤ n ∧ n ≤ 1000000000000000000 := of_decide_eq_true h
set_option maxHeartbeats 3200000 in
set_option maxRecDepth 100000 in
theorem impl_MakeFraction.no (a0 a1 : Int) (w : World) (hno : ¬ (a1 ≠ 0 ∧ isPart a0 = true ∧ isPart a1 = true)) :
    Calls Tryz.prog 18 #[.int .i64 a0, .int .i64 a1] w fun e w' => e = .returned (.tuple #[.agg #[.int .i64 0, .int .i64 0], .bool false]) ∧ Below w.heap.size w w' := by
  have hu23 := Tryz.underlying25
  have CA := Aside0.mk (below_alloc (Below.refl w.heap.size w) zeroF)
  have BK := Aside0.mk (blk_new w zeroF)
  by_cases c0 : a1 = 0
  · have c0' : (a1 == 0) = true := beq_iff_eq.2 c0
    obtain ⟨z0, z1, z2, z3⟩ := two_cells BK.out
    clear hno c0
    go_enter Tryz.func18, Tryz.ntmps18
    go_wp2
    refine bodyPost_ret (results_ct rfl _ _ w.heap.size 25 #[.int .i64 0, .int .i64 0] (0, 0) _ rfl (by first | exact BK.out | (refine blk_put (cs := #[.int .i64 0, .int .i64 0]) ?_ 1 _ rfl; refine blk_put (cs := #[.int .i64 0, .int .i64 0]) ?_ 0 _ rfl; exact BK.out)) Tryz.underlying25 rfl (by kernel_rfl)) rfl ?_
    exact ⟨rfl, by first | exact CA.out | exact below_set2 CA.out (Nat.le_refl _) _ _⟩
  · have c0' : (a1 == 0) = false := beq_eq_false_iff_ne.2 c0
    by_cases c1 : isPart a0 = true
    · have c2 : isPart a1 = false := by
        cases h : isPart a1
        · rfl
        · exact absurd ⟨c0, c1, h⟩ hno
      clear hno c0
      go_enter Tryz.func18, Tryz.ntmps18
      go_wp2_with (first
        | (go_at_call 33; refine (impl_within.calls a1 (-1000000000000000000) 1000000000000000000 false w1 (by rw [isPart_within, c2])).mono ?_; rintro e w2 ⟨rfl, n2, h2⟩; have C2 := Aside0.mk (show Below w.heap.size w w2 by rw [h2]; exact pw_below_drewN C1.out n2); have BK2 := Aside0.mk (show w2.heap[w.heap.size]? = some zeroF by rw [h2]; exact BK1.out); obtain ⟨z0, z1, z2, z3⟩ := two_cells BK2.out; clear h2)
        | (go_at_call 33; refine (impl_within.calls a0 (-1000000000000000000) 1000000000000000000 true _ (by rw [isPart_within, c1])).mono ?_; rintro e w1 ⟨rfl, n1, h1⟩; have C1 := Aside0.mk (show Below w.heap.size w w1 by rw [h1]; exact pw_below_drewN CA.out n1); have BK1 := Aside0.mk (show w1.heap[w.heap.size]? = some zeroF by rw [h1]; exact BK.out); clear h1))
      refine bodyPost_ret (results_ct rfl _ _ w.heap.size 25 #[.int .i64 0, .int .i64 0] (0, 0) _ rfl (by refine blk_put (cs := #[.int .i64 0, .int .i64 0]) ?_ 1 _ rfl; refine blk_put (cs := #[.int .i64 0, .int .i64 0]) ?_ 0 _ rfl; exact BK2.out) Tryz.underlying25 rfl (by kernel_rfl)) rfl ?_
      exact ⟨rfl, below_set2 C2.out (Nat.le_refl _) _ _⟩
    · have c1' : isPart a0 = false := by simpa using c1
      clear hno c0 c1
      go_enter Tryz.func18, Tryz.ntmps18
      go_wp2_with (first
        | (go_at_call 33; refine (impl_within.calls a0 (-1000000000000000000) 1000000000000000000 false _ (by rw [isPart_within, c1'])).mono ?_; rintro e w2 ⟨rfl, n2, h2⟩; have C2 := Aside0.mk (show Below w.heap.size w w2 by rw [h2]; exact pw_below_drewN CA.out n2); have BK2 := Aside0.mk (show w2.heap[w.heap.size]? = some zeroF by rw [h2]; exact BK.out); obtain ⟨z0, z1, z2, z3⟩ := two_cells BK2.out; clear h2))
      refine bodyPost_ret (results_ct rfl _ _ w.heap.size 25 #[.int .i64 0, .int .i64 0] (0, 0) _ rfl (by refine blk_put (cs := #[.int .i64 0, .int .i64 0]) ?_ 1 _ rfl; refine blk_put (cs := #[.int .i64 0, .int .i64 0]) ?_ 0 _ rfl; exact BK2.out) Tryz.underlying25 rfl (by kernel_rfl)) rfl ?_
      exact ⟨rfl, below_set2 C2.out (Nat.le_refl _) _ _⟩
set_option maxHeartbeats 3200000 in
set_option maxRecDepth 100000 in
theorem impl_MakeFraction.yes (a0 a1 : Int) (w : World) (c0 : a1 ≠ 0) (c1 : isPart a0 = true) (c2 : isPart a1 = true) :
    Calls Tryz.prog 18 #[.int .i64 a0, .int .i64 a1] w fun e w' => e = .returned (.tuple #[.agg #[.int .i64 (mkF a0 a1).1, .int .i64 (mkF a0 a1).2.1], .bool (mkF a0 a1).2.2]) ∧ Below w.heap.size w w' := by
  have hu23 := Tryz.underlying25
  have CA := Aside0.mk (below_alloc (Below.refl w.heap.size w) zeroF)
  have BK := Aside0.mk (blk_new w zeroF)
  have c0' : (a1 == 0) = false := beq_eq_false_iff_ne.2 c0
  have p0 := isPart_le c1
  have p1 := isPart_le c2
  have f0 := Aside0.mk (Fits2.of (X := a0) (by omega))
  have f1 := Aside0.mk (Fits2.of (X := a1) (by omega))
  have hn := Aside0.mk (fun W => impl_newRat.law a0 a1 W (by omega) (by omega) (by omega) (by omega) c0)
  clear c0 p0 p1
  go_enter Tryz.func18, Tryz.ntmps18
  go_wp2_with (first
    | (go_at_call 33; refine (impl_within.calls a1 (-1000000000000000000) 1000000000000000000 true w1 (by rw [isPart_within, c2])).mono ?_; rintro e w2 ⟨rfl, n2, h2⟩; have C2 := Aside0.mk (show Below w.heap.size w w2 by rw [h2]; exact pw_below_drewN C1.out n2); have BK2 := Aside0.mk (show w2.heap[w.heap.size]? = some zeroF by rw [h2]; exact BK1.out); clear h2)
    | (go_at_call 33; refine (impl_within.calls a0 (-1000000000000000000) 1000000000000000000 true _ (by rw [isPart_within, c1])).mono ?_; rintro e w1 ⟨rfl, n1, h1⟩; have C1 := Aside0.mk (show Below w.heap.size w w1 by rw [h1]; exact pw_below_drewN CA.out n1); have BK1 := Aside0.mk (show w1.heap[w.heap.size]? = some zeroF by rw [h1]; exact BK.out); clear h1)
    | (go_at_call 38; refine (hn.out w2).mono ?_; rintro e w3 ⟨g, rfl, k1_, k2_, k3_⟩; have K := Aside0.mk k2_; have C3 := Aside0.mk (below_step C2.out k3_); have BK3 := Aside0.mk (blk_below BK2.out k3_); clear k1_ k2_ k3_)
    | (go_at_call 22; refine (checked_new g a0 a1 w3 K.out f0.out f1.out).mono ?_; rintro e w4 ⟨rfl, hB⟩; have C4 := Aside0.mk (below_step C3.out hB); have BK4 := Aside0.mk (blk_below BK3.out hB); obtain ⟨z0, z1, z2, z3⟩ := two_cells BK4.out; clear hB))
  refine bodyPost_ret (results_ct rfl _ _ w.heap.size 25 #[.int .i64 (mkF a0 a1).1, .int .i64 (mkF a0 a1).2.1] (0, 0) _ rfl (by refine blk_put (cs := #[.int .i64 (mkF a0 a1).1, .int .i64 0]) ?_ 1 _ rfl; refine blk_put (cs := #[.int .i64 0, .int .i64 0]) ?_ 0 _ rfl; exact BK4.out) Tryz.underlying25 rfl (by kernel_rfl)) rfl ?_
  exact ⟨rfl, below_set2 C4.out (Nat.le_refl _) _ _⟩
theorem impl_MakeFraction.calls (a0 : Int) (a1 : Int) (r1 : Int) (r2 : Int) (r3 : Bool) (w : World) (h : impl_MakeFraction.f a0 a1 = some (r1, r2, r3)) :
    Calls Tryz.prog 18 #[.int .i64 a0, .int .i64 a1] w fun e w' => e = .returned (.tuple #[.agg #[.int .i64 r1, .int .i64 r2], .bool r3]) ∧ Below w.heap.size w w' := by
  have h := Option.some.inj h
  by_cases c : a1 ≠ 0 ∧ isPart a0 = true ∧ isPart a1 = true
  · rw [if_pos c] at h
    have := impl_MakeFraction.yes a0 a1 w c.1 c.2.1 c.2.2
    rw [h] at this
    exact this
  · rw [if_neg c] at h
    have := impl_MakeFraction.no a0 a1 w c
    injection h with h1 h2
    injection h2 with h2 h3
    subst h1; subst h2; subst h3
    exact this

end Go.Proofs.YtbemhcdklmcbcaaGreatDoor.A
/- The reference's fractions in lowest terms are the program's. Conditions: parts of at most MaxPart. -/
namespace Go.Proofs.YtbemhcdklmcbcaaGreatDoor.A
set_option linter.unusedVariables false
set_option linter.unusedSimpArgs false
open Go.RowKit Go.Proofs.YtbemhcdklmcbcaaGreatDoorW.PrintWords Go.Proofs.YtbemhcdklmcbcaaGreatDoorW.PrintLast Go.Proofs.YtbemhcdklmcbcaaGreatDoorW.PrintMore
theorem specGcd_loop : ∀ (m a b : Nat), b ≤ m → ∀ K, spec_l01Gcd.l0 (K + (m + 1)) (a : Int) (b : Int) = some ((Nat.gcd a b : Nat) : Int) := by
  intro m
  induction m with
  | zero =>
    intro a b hb K
    have e : b = 0 := by omega
    subst e
    show spec_l01Gcd.l0 (K + 0 + 1) (a : Int) 0 = _
    unfold spec_l01Gcd.l0
    rw [if_neg (by omega)]
    simp
  | succ m ih =>
    intro a b hb K
    rw [show K + (m + 1 + 1) = K + (m + 1) + 1 by omega]
    unfold spec_l01Gcd.l0
    by_cases h : b = 0
    · subst h
      rw [if_neg (by omega)]; simp
    · have hlt : a % b < b := Nat.mod_lt _ (by omega)
      have e : Int.tmod (a : Int) (b : Int) = ((a % b : Nat) : Int) := by rw [Int.tmod_eq_emod_of_nonneg (by omega)]; exact (Int.natCast_emod a b).symm
      rw [if_pos (by omega), if_neg (by omega), e, ih b (a % b) (by omega) K, Nat.gcd_comm b, ← Nat.gcd_rec, Nat.gcd_comm]
theorem specMax (a : Int) (h : a.natAbs ≤ 9223372036854775807) : spec_l00Max.f a (wrap64 (-a)) = some (a.natAbs : Int) := by
  have hw : wrap64 (-a) = -a := w64 (by omega) (by omega)
  rw [hw]
  unfold spec_l00Max.f
  by_cases c : a > -a
  · rw [if_pos c]; congr 1; omega
  · rw [if_neg c]; congr 1; omega
theorem tdiv_sgn (a : Int) (g : Nat) : Int.tdiv a (g : Int) = sgn (decide (a < 0)) ((a.natAbs : Int) / (g : Int)) := by
  unfold sgn
  by_cases c : a < 0
  · rw [decide_eq_true c, if_pos rfl]
    have e : a = -(a.natAbs : Int) := by omega
    rw [show (Int.tdiv a (g : Int)) = Int.tdiv (-(a.natAbs : Int)) (g : Int) by rw [← e], Int.neg_tdiv, Int.tdiv_eq_ediv_of_nonneg (by omega)]
  · rw [decide_eq_false c, if_neg (by decide), Int.tdiv_eq_ediv_of_nonneg (by omega)]
    congr 1; omega
theorem gcdI_pos (a b : Int) (hb : b ≠ 0) : 0 < gcdI a b := by
  have := Nat.gcd_pos_of_pos_right a.natAbs (show 0 < b.natAbs by omega)
  unfold gcdI; omega
theorem specFMake (a b : Int) (hb : b ≠ 0) (ha : a.natAbs ≤ 9223372036854775807) (hb' : b.natAbs ≤ 9223372036854775807) : ∃ m, ∀ K, spec_l01FMake.f (K + m) a b = some (numI a b, denI a b) := by
  refine ⟨b.natAbs + 1, fun K => ?_⟩
  have hg := gcdI_pos a b hb
  have hn := numI_le a b
  have hd := denI_le a b
  have ew : wrap64 (numI a b) = numI a b := w64 (by omega) (by omega)
  have ew2 : wrap64 (denI a b) = denI a b := w64 (by omega) (by omega)
  have hg0 : ¬ ((Nat.gcd a.natAbs b.natAbs : Nat) : Int) = 0 := by unfold gcdI at hg; omega
  unfold spec_l01FMake.f spec_l01Gcd.f
  by_cases c : b < 0
  · have wa : wrap64 (-a) = -a := w64 (by omega) (by omega)
    have wb : wrap64 (-b) = -b := w64 (by omega) (by omega)
    have eb : -b = (b.natAbs : Int) := by omega
    rw [if_pos c, wa, specMax (-a) (by omega), Option.bind_some, wb, eb, Int.natAbs_neg, specGcd_loop b.natAbs a.natAbs b.natAbs (Nat.le_refl _) K, Option.bind_some, if_neg hg0]
    have e1 : Int.tdiv (-a) ((Nat.gcd a.natAbs b.natAbs : Nat) : Int) = numI a b := by
      rw [tdiv_sgn, Int.natAbs_neg]
      unfold numI gcdI
      rw [decide_eq_true c]
      by_cases h0 : a = 0
      · subst h0; simp [sgn]
      · congr 1
        by_cases h : a < 0 <;> simp [h] <;> omega
    have e2 : Int.tdiv (b.natAbs : Int) ((Nat.gcd a.natAbs b.natAbs : Nat) : Int) = denI a b := by rw [Int.tdiv_eq_ediv_of_nonneg (by omega)]; rfl
    rw [e1, e2, ew, ew2]
  · rw [if_neg c, specMax a ha, Option.bind_some]
    have eb : b = (b.natAbs : Int) := by omega
    have e1 : Int.tdiv a ((Nat.gcd a.natAbs b.natAbs : Nat) : Int) = numI a b := by
      rw [tdiv_sgn]
      unfold numI gcdI
      rw [decide_eq_false c]
      congr 1
      cases decide (a < 0) <;> rfl
    have e2 : Int.tdiv b ((Nat.gcd a.natAbs b.natAbs : Nat) : Int) = denI a b := by
      rw [Int.tdiv_eq_ediv_of_nonneg (by omega)]; unfold denI gcdI; congr 1
    have hgl := specGcd_loop b.natAbs a.natAbs b.natAbs (Nat.le_refl _) K
    rw [← eb] at hgl
    rw [hgl, Option.bind_some, if_neg hg0, e1, e2, ew, ew2]
theorem lowest (a b : Int) (hb : b ≠ 0) : 1 ≤ denI a b ∧ Nat.gcd (numI a b).natAbs (denI a b).natAbs = 1 := by
  have hg : 0 < Nat.gcd a.natAbs b.natAbs := Nat.gcd_pos_of_pos_right _ (by omega)
  have e1 : (denI a b).natAbs = b.natAbs / Nat.gcd a.natAbs b.natAbs := by
    unfold denI gcdI; rw [← Int.natCast_ediv, Int.natAbs_natCast]
  have e2 : (numI a b).natAbs = a.natAbs / Nat.gcd a.natAbs b.natAbs := by
    unfold numI gcdI sgn; rw [← Int.natCast_ediv]
    split
    · rw [Int.natAbs_neg, Int.natAbs_natCast]
    · rw [Int.natAbs_natCast]
  have h1 : 0 < b.natAbs / Nat.gcd a.natAbs b.natAbs := Nat.div_pos (Nat.le_of_dvd (by omega) (Nat.gcd_dvd_right _ _)) hg
  have h0 : 0 ≤ denI a b := by unfold denI gcdI; exact Int.ediv_nonneg (by omega) (by omega)
  exact ⟨by omega, by rw [e1, e2]; exact Nat.coprime_div_gcd_div_gcd hg⟩
theorem chkF_yes {n d : Int} (h1 : 1 ≤ d) (h2 : d ≤ 1000000000000000000) (h3 : -1000000000000000000 ≤ n) (h4 : n ≤ 1000000000000000000) (hg : Nat.gcd n.natAbs d.natAbs = 1) : chkF n d = (n, d, true) := by
  have c1 : in64 n = true := decide_eq_true ⟨by omega, by omega⟩
  have c2 : in64 d = true := decide_eq_true ⟨by omega, by omega⟩
  exact if_pos ⟨c1, c2, okF_iff.2 ⟨⟨h1, h2⟩, ⟨h3, h4⟩, hg⟩⟩
theorem mkF_small (a b : Int) (hb : b ≠ 0) (ha : a.natAbs ≤ 1000000000000000000) (hb' : b.natAbs ≤ 1000000000000000000) : mkF a b = (numI a b, denI a b, true) := by
  obtain ⟨h1, h2⟩ := lowest a b hb
  have h3 := numI_le a b
  have h4 := denI_le a b
  exact chkF_yes h1 (by omega) (by omega) (by omega) h2
theorem make_small (a b : Int) (hb : b ≠ 0) (ha : a.natAbs ≤ 1000000000000000000) (hb' : b.natAbs ≤ 1000000000000000000) : impl_MakeFraction.f a b = some (numI a b, denI a b, true) := by
  unfold impl_MakeFraction.f
  rw [if_pos ⟨hb, decide_eq_true ⟨by omega, by omega⟩, decide_eq_true ⟨by omega, by omega⟩⟩, mkF_small a b hb ha hb']

end Go.Proofs.YtbemhcdklmcbcaaGreatDoor.A
/- Drawn bytes, and a fraction in lowest terms: plain lemmas. No conditions. -/
namespace Go.Proofs.YtbemhcdklmcbcaaGreatDoor.Pure
set_option linter.unusedVariables false
set_option linter.unusedSimpArgs false
open Go.RowKit Go.Proofs.YtbemhcdklmcbcaaGreatDoor.A Go.Proofs.YtbemhcdklmcbcaaGreatDoorW.PrintWords Go.Proofs.YtbemhcdklmcbcaaGreatDoorW.PrintLast Go.Proofs.YtbemhcdklmcbcaaGreatDoorW.PrintMore
theorem w64' {x : Int} (h0 : -9223372036854775808 ≤ x) (h1 : x < 9223372036854775808) : wrap64 x = x := by unfold wrap64; omega
theorem ev_at {α : Type} {g : Nat → Option α} {r : α} (h : ∃ m, ∀ K, g (K + m) = some r) : Ev g r := by
  obtain ⟨m, h⟩ := h
  refine ⟨m, fun k hk => ?_⟩
  have := h (k - m)
  rwa [Nat.sub_add_cancel hk] at this
def U8 (l : List Int) : Prop := ∀ x ∈ l, (Lit.int .u8 x).wf = true
theorem u8_rd {l : List Int} (h : U8 l) (i : Int) : 0 ≤ rd l i ∧ rd l i ≤ 255 := by
  unfold rd
  rw [List.getD_eq_getElem?_getD]
  rcases hq : l[i.toNat]? with _ | x
  · simp
  · have hm := h x (List.mem_of_getElem? hq)
    simp only [Lit.wf, Bool.and_eq_true, decide_eq_true_eq] at hm
    have e1 : IntKind.u8.min = 0 := rfl
    have e2 : IntKind.u8.max = 255 := rfl
    simp only [Option.getD_some]; omega
theorem b10At_eq {l : List Int} (h : U8 l) (k n : Int) (hk : 0 ≤ k ∧ k ≤ 1000000) (hn : 1 ≤ n) : ∃ x, laws_b10At.f l k n = some x ∧ 0 ≤ x ∧ x < n := by
  unfold laws_b10At.f
  by_cases h1 : n ≤ 1
  · exact ⟨0, by rw [if_pos h1], by omega, by omega⟩
  · rw [if_neg h1]
    by_cases h2 : k < (l.length : Int)
    · have hr := u8_rd h k
      rw [if_pos h2, if_pos hk.1, if_neg (by omega), w64' (by omega) (by omega), Int.tmod_eq_emod_of_nonneg hr.1]
      exact ⟨_, rfl, Int.emod_nonneg _ (by omega), Int.emod_lt_of_pos _ (by omega)⟩
    · rw [if_neg h2, if_neg (by omega), w64' (x := k * 37) (by omega) (by omega), w64' (by omega) (by omega), Int.tmod_eq_emod_of_nonneg (by omega)]
      exact ⟨_, rfl, Int.emod_nonneg _ (by omega), Int.emod_lt_of_pos _ (by omega)⟩
theorem low_parts (a e : Int) (he : 1 ≤ e) : ∃ g : Nat, 0 < g ∧ a = g * numI a e ∧ e = g * denI a e ∧ 1 ≤ denI a e ∧ Nat.gcd (numI a e).natAbs (denI a e).natAbs = 1 := by
  have hl := lowest a e (by omega)
  refine ⟨Nat.gcd a.natAbs e.natAbs, Nat.gcd_pos_of_pos_right _ (by omega), ?_, ?_, hl.1, hl.2⟩
  · unfold numI gcdI sgn
    rw [decide_eq_false (show ¬ e < 0 by omega)]
    have h := Nat.mul_div_cancel' (Nat.gcd_dvd_left a.natAbs e.natAbs)
    have h' : ((Nat.gcd a.natAbs e.natAbs : Nat) : Int) * ((a.natAbs : Int) / ((Nat.gcd a.natAbs e.natAbs : Nat) : Int)) = (a.natAbs : Int) := by rw [← Int.natCast_ediv, ← Int.natCast_mul, h]
    by_cases c : a < 0
    · rw [decide_eq_true c]; simp; rw [Int.mul_neg, h']; omega
    · rw [decide_eq_false c]; simp; rw [h']; omega
  · unfold denI gcdI
    have h := Nat.mul_div_cancel' (Nat.gcd_dvd_right a.natAbs e.natAbs)
    rw [← Int.natCast_ediv, ← Int.natCast_mul, h]; omega
theorem long_eq (l0 l1 : List Int) : ∃ t, laws_b10Long.f l0 l1 = some t ∧ (t = false → l0.length ≤ 1048576 ∧ l1.length ≤ 1048576) := by
  unfold laws_b10Long.f
  by_cases c : (l0.length : Int) > 1048576
  · exact ⟨true, if_pos c, fun z => by cases z⟩
  · rw [if_neg c]
    refine ⟨_, rfl, fun z => ?_⟩
    have := of_decide_eq_false z
    omega
end Go.Proofs.YtbemhcdklmcbcaaGreatDoor.Pure
/- What the reference draws: bytes, numbers. No conditions. -/
namespace Go.Proofs.YtbemhcdklmcbcaaGreatDoor.Pure
set_option linter.unusedVariables false
set_option linter.unusedSimpArgs false
open Go.RowKit Go.Proofs.YtbemhcdklmcbcaaGreatDoor.A Go.Proofs.YtbemhcdklmcbcaaGreatDoorW.PrintWords Go.Proofs.YtbemhcdklmcbcaaGreatDoorW.PrintLast Go.Proofs.YtbemhcdklmcbcaaGreatDoorW.PrintMore
theorem w64 {x : Int} (h1 : -9223372036854775808 ≤ x) (h2 : x ≤ 9223372036854775807) : wrap64 x = x := by unfold wrap64; omega
theorem wu64 (n : Int) : IntKind.u64.wrap n = n % 18446744073709551616 := by simp [IntKind.wrap, IntKind.bits, IntKind.signed]
theorem and255 (x : Int) (h0 : 0 ≤ x) (h1 : x < 16777216) : bits .and .u64 x 255 = x % 256 :=
  bits_mask .u64 24 (by decide) (fun n a b => by rw [wu64]; simp at b; omega) 8 (by decide) x h0 (by simpa using h1)
theorem tmod_pos (x n : Int) (h0 : 0 ≤ x) : Int.tmod x n = x % n := Int.tmod_eq_emod_of_nonneg h0

theorem next_eq {l : List Int} (h : U8 l) (at_ seed : Int) (h0 : 0 ≤ at_) (h1 : at_ ≤ 1000) : ∃ v s, spec_l00Src_next.f l at_ seed = some (v, at_ + 1, s) ∧ 0 ≤ v ∧ v ≤ 255 := by
  unfold spec_l00Src_next.f
  have hr := u8_rd h at_
  have hw : wrap64 (at_ + 1) = at_ + 1 := w64 (by omega) (by omega)
  have hb : ∀ e : Int, 0 ≤ wrap64 (bits .and .u64 ((IntKind.u64.wrap e) / 1099511627776) 255) ∧ wrap64 (bits .and .u64 ((IntKind.u64.wrap e) / 1099511627776) 255) ≤ 255 := by
    intro e
    rw [wu64, and255 _ (by omega) (by omega), w64 (by omega) (by omega)]; omega
  rw [hw]
  by_cases c1 : at_ < (l.length : Int)
  · rw [if_pos c1, if_pos h0]
    split
    · exact ⟨_, _, rfl, by rw [w64 (by omega) (by omega)]; omega, by rw [w64 (by omega) (by omega)]; omega⟩
    · exact ⟨_, _, rfl, (hb _).1, (hb _).2⟩
  · rw [if_neg c1]
    split
    · exact ⟨_, _, rfl, by omega, by omega⟩
    · exact ⟨_, _, rfl, (hb _).1, (hb _).2⟩

theorem pick_small {l : List Int} (h : U8 l) (at_ seed n : Int) (h0 : 0 ≤ at_) (h1 : at_ ≤ 1000) (hn : 2 ≤ n) (hn' : n ≤ 200) : ∃ v s, spec_l00Src_pick.f l at_ seed n = some (v, at_ + 1, s) ∧ 0 ≤ v ∧ v < n := by
  obtain ⟨v, s, e, v0, v1⟩ := next_eq h at_ seed h0 h1
  refine ⟨v % n, s, ?_, Int.emod_nonneg _ (by omega), Int.emod_lt_of_pos _ (by omega)⟩
  unfold spec_l00Src_pick.f
  rw [if_neg (by omega), e]
  simp only [Option.bind_some]
  rw [if_neg (by omega), if_neg (by omega), tmod_pos _ _ v0]
end Go.Proofs.YtbemhcdklmcbcaaGreatDoor.Pure
/- Texts of small fractions, and how they are read. No conditions. -/
namespace Go.Proofs.YtbemhcdklmcbcaaGreatDoor.Pure
set_option linter.unusedVariables false
set_option linter.unusedSimpArgs false
open Go.RowKit Go.Proofs.YtbemhcdklmcbcaaGreatDoor.A Go.Proofs.YtbemhcdklmcbcaaGreatDoorW.PrintWords Go.Proofs.YtbemhcdklmcbcaaGreatDoorW.PrintLast Go.Proofs.YtbemhcdklmcbcaaGreatDoorW.PrintMore
/-- The digits of a number below 100. -/
def dd (u : Nat) : List UInt8 := if u < 10 then [UInt8.ofNat (48 + u)] else [UInt8.ofNat (48 + u / 10), UInt8.ofNat (48 + u % 10)]
theorem dd_eq (u : Nat) (h : u < 100) : Lib.decDigits u = dd u := by
  unfold dd
  by_cases c : u < 10
  · rw [if_pos c, Lib.decDigits_one c]
  · rw [if_neg c, Lib.decDigits_two c h]
/-- The text of a number of at most two digits. -/
def it (v : Int) : List UInt8 := if v < 0 then 45 :: dd v.natAbs else dd v.toNat
theorem it_eq (v : Int) (h : v.natAbs < 100) : Lib.itoa v = it v := by
  unfold Lib.itoa it
  by_cases c : v < 0
  · rw [if_pos c, if_pos c, dd_eq _ h]
  · rw [if_neg c, if_neg c, dd_eq _ (by omega)]
theorem parse_small : ∀ i : Nat, i < 200 → Lib.parseIntB 64 (it ((i : Int) - 100 + 1)) = .ok ((i : Int) - 100 + 1) ∨ 198 < i := by decide +kernel
theorem parse_it (v : Int) (h : v.natAbs < 100) : Lib.parseIntB 64 (it v) = .ok v := by
  obtain ⟨i, hi⟩ := Int.eq_ofNat_of_zero_le (show 0 ≤ v + 99 by omega)
  have := parse_small i (by omega)
  rw [show (i : Int) - 100 + 1 = v by omega] at this
  rcases this with h1 | h1
  · exact h1
  · omega
theorem len_small : ∀ i : Nat, i < 199 → 1 ≤ (it ((i : Int) - 99)).length ∧ (it ((i : Int) - 99)).length ≤ 3 ∧ (it ((i : Int) - 99)).all (fun b => b != 47) = true := by decide +kernel
theorem len_it (v : Int) (h : v.natAbs < 100) : 1 ≤ (it v).length ∧ (it v).length ≤ 3 ∧ (it v).all (fun b => b != 47) = true := by
  obtain ⟨i, hi⟩ := Int.eq_ofNat_of_zero_le (show 0 ≤ v + 99 by omega)
  have := len_small i (by omega)
  rwa [show (i : Int) - 99 = v by omega] at this
def tx (v : Int) : ByteArray := ⟨(it v).toArray⟩
theorem tx_size (v : Int) : (tx v).size = (it v).length := by simp [tx, ByteArray.size]
theorem dec_tx (v : Int) (h : v.natAbs < 100) : impl_Decimal.f v = some (tx v) := by
  unfold impl_Decimal.f
  rw [if_pos (by omega), it_eq v h]; rfl
theorem read_tx (v : Int) (h : v.natAbs < 100) : impl_readWide.f (tx v) 1000000000000000000 = some (v, true) := by
  have hl := len_it v h
  unfold impl_readWide.f
  rw [if_pos ⟨by omega, by omega, by rw [tx_size]; omega⟩]
  have e : (tx v).data.toList = it v := by simp [tx]
  rw [e, parse_it v h]
  dsimp only
  rw [if_pos ⟨by unfold tx decB; rw [it_eq v h], by omega, by omega⟩]
theorem read_nil : impl_readWide.f (⟨#[]⟩ : ByteArray) 1000000000000000000 = some (0, false) := by
  unfold impl_readWide.f
  rw [if_pos ⟨by omega, by omega, by decide⟩]
  rfl
/-- The text of a small fraction. -/
def ft (n d : Int) : ByteArray := if d = 1 then tx n else (tx n ++ (⟨#[47]⟩ : ByteArray)) ++ tx d
theorem text_ft (n d : Int) (hn : n.natAbs < 100) (hd : d.natAbs < 100) : impl_fractionText.f n d = some (ft n d) := by
  have l1 := len_it n hn
  have l2 := len_it d hd
  unfold impl_fractionText.f ft
  rw [dec_tx n hn, dec_tx d hd]
  by_cases c : d = 1
  · rw [if_pos c, if_pos c]; rfl
  · rw [if_neg c, if_neg c]
    simp only [Option.bind_some]
    rw [if_pos (by rw [tx_size]; omega), if_pos (by rw [ByteArray.size_append, tx_size, tx_size]; have : (⟨#[47]⟩ : ByteArray).size = 1 := rfl; omega)]
theorem index_none : ∀ (l : List UInt8) (c : UInt8), l.all (fun b => b != c) = true → Lib.indexByte l c = -1
  | [], _, _ => rfl
  | b :: l, c, h => by
    rw [List.all_cons, Bool.and_eq_true] at h
    have ih := index_none l c h.2
    have hb : (b == c) = false := by have := h.1; simpa using this
    unfold Lib.indexByte
    rw [hb, ih]; rfl
theorem index_at : ∀ (l r : List UInt8) (c : UInt8), l.all (fun b => b != c) = true → Lib.indexByte (l ++ c :: r) c = (l.length : Int)
  | [], r, c, _ => by
    show Lib.indexByte (c :: r) c = 0
    unfold Lib.indexByte
    rw [beq_self_eq_true, if_pos rfl]
  | b :: l, r, c, h => by
    rw [List.all_cons, Bool.and_eq_true] at h
    have ih := index_at l r c h.2
    have hb : (b == c) = false := by have := h.1; simpa using this
    have hn : ((l.length : Int) == -1) = false := by rw [beq_eq_false_iff_ne]; omega
    show Lib.indexByte (b :: (l ++ c :: r)) c = _
    unfold Lib.indexByte
    rw [hb, ih, hn]
    simp
theorem ba_ext {s t : ByteArray} (h : s.data.toList = t.data.toList) : s = t := by
  obtain ⟨⟨a⟩⟩ := s; obtain ⟨⟨b⟩⟩ := t
  simp at h; subst h; rfl
theorem cut_ft (n d : Int) (hn : n.natAbs < 100) (hd : d.natAbs < 100) : strings_Cut.f (ft n d) (⟨#[47]⟩ : ByteArray) = some (if d = 1 then (tx n, ⟨#[]⟩, false) else (tx n, tx d, true)) := by
  have l1 := len_it n hn
  have l2 := len_it d hd
  have e0 : (tx n).data.toList = it n := by simp [tx]
  have e1 : (tx d).data.toList = it d := by simp [tx]
  unfold strings_Cut.f ft
  by_cases c : d = 1
  · rw [if_pos c, if_pos c, if_pos ⟨rfl, by rw [tx_size]; omega⟩]
    unfold cutR cutI
    rw [e0]
    show some (if 0 ≤ Lib.indexByte (it n) 47 then _ else _) = _
    rw [index_none _ _ l1.2.2, if_neg (by decide)]
  · rw [if_neg c, if_neg c]
    have hs : ((tx n ++ (⟨#[47]⟩ : ByteArray)) ++ tx d).size = (it n).length + 1 + (it d).length := by
      rw [ByteArray.size_append, ByteArray.size_append, tx_size, tx_size]; rfl
    rw [if_pos ⟨rfl, by rw [hs]; omega⟩]
    have e : ((tx n ++ (⟨#[47]⟩ : ByteArray)) ++ tx d).data.toList = it n ++ 47 :: it d := by simp [tx]
    unfold cutR cutI
    rw [e]
    show some (if 0 ≤ Lib.indexByte (it n ++ 47 :: it d) 47 then _ else _) = _
    have hi := index_at (it n) (it d) 47 l1.2.2
    rw [if_pos (by rw [hi]; omega)]
    congr 2
    · apply ba_ext
      rw [ByteArray.data_extract, Array.toList_extract, e, List.extract_eq_take_drop, e0]
      show List.take ((Lib.indexByte (it n ++ 47 :: it d) 47).toNat - 0) (List.drop 0 _) = _
      rw [hi, Int.toNat_natCast]
      simp
    · congr 1
      apply ba_ext
      rw [ByteArray.data_extract, Array.toList_extract, e, List.extract_eq_take_drop, e1, hs]
      show List.take _ (List.drop ((Lib.indexByte (it n ++ 47 :: it d) 47).toNat + 1) _) = _
      rw [hi, Int.toNat_natCast]
      have : List.drop ((it n).length + 1) (it n ++ 47 :: it d) = it d := by
        rw [List.drop_append]; simp
      rw [this]
      apply List.take_of_length_le
      show (it d).length ≤ (it n).length + 1 + (it d).length - ((Lib.indexByte (it n ++ 47 :: it d) 47).toNat + 1)
      rw [hi, Int.toNat_natCast]
      omega
theorem read_ft (n d : Int) (hn : n.natAbs < 100) (hd : d.natAbs < 100) (hk : okF n d = true) : Ev (fun k => impl_ReadFraction.f k (ft n d)) (n, d, true) := by
  unfold impl_ReadFraction.f
  rw [cut_ft n d hn hd]
  simp only [Option.bind_some]
  have fin : ∀ k, impl_ValidFraction.f k n d = some true → impl_ReadFraction.j0 (k + 1) (ft n d) n true d true = some (n, d, true) := by
    intro k hv
    simp only [impl_ReadFraction.j0, if_true]
    rw [hv, Option.bind_some, if_pos rfl, text_ft n d hn hd, Option.bind_some, if_pos rfl]
  have hV : Ev (fun k => impl_ReadFraction.j0 k (ft n d) n true d true) (n, d, true) := by
    obtain ⟨K, hK⟩ : Ev (fun k => impl_ValidFraction.f k n d) true := by
      have h_ := valid_is n d; rw [hk] at h_; exact ev_at h_
    refine ⟨K + 1, fun k h => ?_⟩
    obtain ⟨k, rfl⟩ : ∃ k', k = k' + 1 := ⟨k - 1, by omega⟩
    exact fin k (hK k (by omega))
  by_cases c : d = 1
  · rw [if_pos c]
    simp only [read_tx n hn, read_nil, Option.bind_some, Bool.false_eq_true, if_false]
    rw [c] at hV
    rw [c]
    exact hV
  · rw [if_neg c]
    simp only [read_tx n hn, read_tx d hd, Option.bind_some, if_true]
    exact hV
theorem ev_text (n d : Int) (hn : n.natAbs < 100) (hd : d.natAbs < 100) (hk : okF n d = true) : Ev (fun k => impl_FractionText.f k n d) (ft n d, true) := by
  unfold impl_FractionText.f
  have h_ := valid_is n d
  rw [hk] at h_
  refine Ev.bind (ev_at h_) ?_
  simp only [if_true, text_ft n d hn hd, Option.bind_some]
  exact Ev.now _
end Go.Proofs.YtbemhcdklmcbcaaGreatDoor.Pure
/- What the functions over two fractions share. Conditions: valid fractions. -/
namespace Go.Proofs.YtbemhcdklmcbcaaGreatDoor.A
set_option linter.unusedVariables false
set_option linter.unusedSimpArgs false
open Go.RowKit Go.Proofs.YtbemhcdklmcbcaaGreatDoorW.PrintWords Go.Proofs.YtbemhcdklmcbcaaGreatDoorW.PrintLast Go.Proofs.YtbemhcdklmcbcaaGreatDoorW.PrintMore
abbrev boxF (n d : Int) : Obj := .cells #[.int .i64 n, .int .i64 d] 25 (0, 0)
theorem size_alloc' (W : World) (o : Obj) : (W.alloc o).heap.size = W.heap.size + 1 := by simp
theorem below_box (W : World) (n d n' d' : Int) : Below W.heap.size W (((W.alloc (boxF n d)).alloc (boxF n' d')).alloc zeroF) := below_alloc (below_alloc (below_alloc (Below.refl _ _) _) _) _
theorem box0 (W : World) (n d n' d' : Int) : (((W.alloc (boxF n d)).alloc (boxF n' d')).alloc zeroF).heap[W.heap.size]? = some (boxF n d) := blk_alloc (blk_alloc (blk_new W _) _) _
theorem box1 (W : World) (n d n' d' : Int) : (((W.alloc (boxF n d)).alloc (boxF n' d')).alloc zeroF).heap[W.heap.size + 1]? = some (boxF n' d') := by
  have h := blk_new (W.alloc (boxF n d)) (boxF n' d')
  rw [size_alloc'] at h
  exact blk_alloc h _
theorem box2 (W : World) (n d n' d' : Int) : (((W.alloc (boxF n d)).alloc (boxF n' d')).alloc zeroF).heap[W.heap.size + 2]? = some zeroF := by
  have h := blk_new ((W.alloc (boxF n d)).alloc (boxF n' d')) zeroF
  rw [size_alloc', size_alloc'] at h
  exact h
theorem four_cells {w : World} {a b : Nat} {n d n' d' : Int} (h : w.heap[a]? = some (boxF n d)) (h' : w.heap[b]? = some (boxF n' d')) : w.cell? ⟨a, 0, none⟩ = some (.int .i64 n) ∧ w.cell? ⟨a, 1, none⟩ = some (.int .i64 d) ∧ w.cell? ⟨b, 0, none⟩ = some (.int .i64 n') ∧ w.cell? ⟨b, 1, none⟩ = some (.int .i64 d') := ⟨(blk_cell h 0).trans rfl, (blk_cell h 1).trans rfl, (blk_cell h' 0).trans rfl, (blk_cell h' 1).trans rfl⟩
theorem blk_put_ne {w : World} {g b i : Nat} {o : Obj} {v : Value} (h : w.heap[g]? = some o) (hne : g ≠ b) : (w.setCell ⟨b, i, none⟩ v).heap[g]? = some o := blk_grown h (grown_set (World.grownBy.refl w (some b)) i v) (by simpa using hne)
def Part (x : Int) : Prop := -1000000000000000000 ≤ x ∧ x ≤ 1000000000000000000
theorem lo_part {X : Int} (h : Part X) : Lo X := Lo.of (by unfold Part at h; omega)
theorem part_mul {x y : Int} (hx : Part x) (hy : Part y) : -1000000000000000000000000000000000000 ≤ x * y ∧ x * y ≤ 1000000000000000000000000000000000000 := by
  unfold Part at *
  have h : (x * y).natAbs ≤ 1000000000000000000 * 1000000000000000000 := by
    rw [Int.natAbs_mul]
    exact Nat.mul_le_mul (by omega) (by omega)
  omega
theorem fits2_mul {x y : Int} (hx : Part x) (hy : Part y) : Fits2 (x * y) := by
  have := part_mul hx hy
  generalize x * y = p at *
  exact Fits2.of (by omega)
theorem fits2_add {x y z v : Int} (hx : Part x) (hy : Part y) (hz : Part z) (hv : Part v) : Fits2 (x * y + z * v) := by
  have h1 := part_mul hx hy
  have h2 := part_mul hz hv
  generalize x * y = p at *
  generalize z * v = q at *
  exact Fits2.of (by omega)
theorem fits2_sub {x y z v : Int} (hx : Part x) (hy : Part y) (hz : Part z) (hv : Part v) : Fits2 (x * y - z * v) := by
  have h1 := part_mul hx hy
  have h2 := part_mul hz hv
  generalize x * y = p at *
  generalize z * v = q at *
  exact Fits2.of (by omega)
theorem okF_parts {n d : Int} (h : okF n d = true) : Part n ∧ Part d ∧ 1 ≤ d := by
  obtain ⟨⟨a0, a1⟩, ⟨a2, a3⟩, a4⟩ := okF_iff.1 h
  exact ⟨⟨a2, a3⟩, ⟨by omega, a1⟩, a0⟩
theorem low_num {n d : Int} (h : okF n d = true) : numI n d = n ∧ denI n d = d := by
  obtain ⟨⟨a0, a1⟩, ⟨a2, a3⟩, a4⟩ := okF_iff.1 h
  have hd : decide (d < 0) = false := decide_eq_false (by omega)
  unfold numI denI gcdI sgn
  rw [a4, hd]
  by_cases c : n < 0
  · simp [c]; omega
  · simp [c]; omega
theorem rat_ok (n d : Int) (w : World) (h : okF n d = true) : Calls Tryz.prog 24 #[.agg #[.int .i64 n, .int .i64 d]] w (NewR n d w) := by
  obtain ⟨⟨a2, a3⟩, ⟨_, a1⟩, a0⟩ := okF_parts h
  have h1 := impl_Fraction_rat.law n d w (by omega) (by omega) (by omega) (by omega) (by omega)
  rw [(low_num h).1, (low_num h).2] at h1
  exact h1
end Go.Proofs.YtbemhcdklmcbcaaGreatDoor.A
-- Printed by this session's oprint.py through the kit's printer.
namespace Go.Proofs.YtbemhcdklmcbcaaGreatDoor.A
open Go.RowKit Go.Proofs.YtbemhcdklmcbcaaGreatDoorW.PrintWords Go.Proofs.YtbemhcdklmcbcaaGreatDoorW.PrintLast Go.Proofs.YtbemhcdklmcbcaaGreatDoorW.PrintMore
attribute [local go_sem] max2_int min2_int max_two min_two max_three min_three max_four min_four   -- for this text's walks alone
set_option linter.unusedVariables false
set_option linter.unusedSimpArgs false

/-! ### impl_CompareFractions: function 12 -/
-- given: proved by hand (comparefractions.tpl)
def impl_CompareFractions.f (n d n' d' : Int) : Option (Int × Bool) := some (if okF n d = true ∧ okF n' d' = true then (sign (n * d' - n' * d), true) else (0, false))
set_option maxHeartbeats 3200000 in
set_option maxRecDepth 100000 in
theorem impl_CompareFractions.no1 (n d n' d' : Int) (W : World) (c1 : okF n d = false) :
    Calls Tryz.prog 12 #[.agg #[.int .i64 n, .int .i64 d], .agg #[.int .i64 n', .int .i64 d']] W fun e w' => e = .returned (.tuple #[.int .i64 0, .bool false]) ∧ Below W.heap.size W w' := by
  have hu23 := Tryz.underlying25
  have B0 := Aside0.mk (show Below W.heap.size W ((W.alloc (boxF n d)).alloc (boxF n' d')) from below_alloc (below_alloc (Below.refl _ _) _) _)
  have X0 := Aside0.mk (show ((W.alloc (boxF n d)).alloc (boxF n' d')).heap[W.heap.size]? = some (boxF n d) from blk_alloc (blk_new W _) _)
  have Y0 := Aside0.mk (show ((W.alloc (boxF n d)).alloc (boxF n' d')).heap[W.heap.size + 1]? = some (boxF n' d') by have h := blk_new (W.alloc (boxF n d)) (boxF n' d'); rw [size_alloc'] at h; exact h)
  go_enter Tryz.func12, Tryz.ntmps12
  go_wp2_with (first
    | (go_at_call 13; refine (impl_ValidFraction.law n d _).mono ?_; rintro e w1 ⟨rfl, hB⟩; rw [c1]; have B1 := Aside0.mk (below_step B0.out hB); have X1 := Aside0.mk (blk_below X0.out hB); have Y1 := Aside0.mk (blk_below Y0.out hB); obtain ⟨p0, p1, -, -⟩ := two_cells X1.out; obtain ⟨q0, q1, -, -⟩ := two_cells Y1.out; clear hB))
  go_ret2
  exact ⟨rfl, B1.out⟩
set_option maxHeartbeats 3200000 in
set_option maxRecDepth 100000 in
theorem impl_CompareFractions.no2 (n d n' d' : Int) (W : World) (c1 : okF n d = true) (c2 : okF n' d' = false) :
    Calls Tryz.prog 12 #[.agg #[.int .i64 n, .int .i64 d], .agg #[.int .i64 n', .int .i64 d']] W fun e w' => e = .returned (.tuple #[.int .i64 0, .bool false]) ∧ Below W.heap.size W w' := by
  have hu23 := Tryz.underlying25
  have B0 := Aside0.mk (show Below W.heap.size W ((W.alloc (boxF n d)).alloc (boxF n' d')) from below_alloc (below_alloc (Below.refl _ _) _) _)
  have X0 := Aside0.mk (show ((W.alloc (boxF n d)).alloc (boxF n' d')).heap[W.heap.size]? = some (boxF n d) from blk_alloc (blk_new W _) _)
  have Y0 := Aside0.mk (show ((W.alloc (boxF n d)).alloc (boxF n' d')).heap[W.heap.size + 1]? = some (boxF n' d') by have h := blk_new (W.alloc (boxF n d)) (boxF n' d'); rw [size_alloc'] at h; exact h)
  go_enter Tryz.func12, Tryz.ntmps12
  go_wp2_with (first
    | (go_at_call 13; refine (impl_ValidFraction.law n' d' w1).mono ?_; rintro e w2 ⟨rfl, hB⟩; rw [c2]; have B2 := Aside0.mk (below_step B1.out hB); have X2 := Aside0.mk (blk_below X1.out hB); have Y2 := Aside0.mk (blk_below Y1.out hB); obtain ⟨s0, s1, -, -⟩ := two_cells X2.out; obtain ⟨t0, t1, -, -⟩ := two_cells Y2.out; clear hB)
    | (go_at_call 13; refine (impl_ValidFraction.law n d _).mono ?_; rintro e w1 ⟨rfl, hB⟩; rw [c1]; have B1 := Aside0.mk (below_step B0.out hB); have X1 := Aside0.mk (blk_below X0.out hB); have Y1 := Aside0.mk (blk_below Y0.out hB); obtain ⟨p0, p1, -, -⟩ := two_cells X1.out; obtain ⟨q0, q1, -, -⟩ := two_cells Y1.out; clear hB))
  go_ret2
  exact ⟨rfl, B2.out⟩
set_option maxHeartbeats 3200000 in
set_option maxRecDepth 100000 in
theorem impl_CompareFractions.yes (n d n' d' : Int) (W : World) (c1 : okF n d = true) (c2 : okF n' d' = true) :
    Calls Tryz.prog 12 #[.agg #[.int .i64 n, .int .i64 d], .agg #[.int .i64 n', .int .i64 d']] W fun e w' => e = .returned (.tuple #[.int .i64 (sign (n * d' - n' * d)), .bool true]) ∧ Below W.heap.size W w' := by
  have hu23 := Tryz.underlying25
  have B0 := Aside0.mk (show Below W.heap.size W ((W.alloc (boxF n d)).alloc (boxF n' d')) from below_alloc (below_alloc (Below.refl _ _) _) _)
  have X0 := Aside0.mk (show ((W.alloc (boxF n d)).alloc (boxF n' d')).heap[W.heap.size]? = some (boxF n d) from blk_alloc (blk_new W _) _)
  have Y0 := Aside0.mk (show ((W.alloc (boxF n d)).alloc (boxF n' d')).heap[W.heap.size + 1]? = some (boxF n' d') by have h := blk_new (W.alloc (boxF n d)) (boxF n' d'); rw [size_alloc'] at h; exact h)
  obtain ⟨pn, pd, a0⟩ := okF_parts c1
  obtain ⟨pn', pd', b0⟩ := okF_parts c2
  have hr1 := Aside0.mk (fun w => rat_ok n d w c1)
  have hr2 := Aside0.mk (fun w => rat_ok n' d' w c2)
  have ln := lo_part pn
  have ld := lo_part pd
  have ln' := lo_part pn'
  have ld' := lo_part pd'
  have hop := Aside0.mk (fun gx gy w hx hy => impl_exactRat_Cmp.law gx gy n d n' d' w hx hy ln ld ln' ld')
  clear a0 b0 pn pd pn' pd' ln ld ln' ld'
  go_enter Tryz.func12, Tryz.ntmps12
  go_wp2_with (first
    | (go_at_call 13; refine (impl_ValidFraction.law n' d' w1).mono ?_; rintro e w2 ⟨rfl, hB⟩; rw [c2]; have B2 := Aside0.mk (below_step B1.out hB); have X2 := Aside0.mk (blk_below X1.out hB); have Y2 := Aside0.mk (blk_below Y1.out hB); obtain ⟨s0, s1, -, -⟩ := two_cells X2.out; obtain ⟨t0, t1, -, -⟩ := two_cells Y2.out; clear hB)
    | (go_at_call 13; refine (impl_ValidFraction.law n d _).mono ?_; rintro e w1 ⟨rfl, hB⟩; rw [c1]; have B1 := Aside0.mk (below_step B0.out hB); have X1 := Aside0.mk (blk_below X0.out hB); have Y1 := Aside0.mk (blk_below Y0.out hB); obtain ⟨p0, p1, -, -⟩ := two_cells X1.out; obtain ⟨q0, q1, -, -⟩ := two_cells Y1.out; clear hB))
  go_region_held3 (fun w' => w'.cell? ⟨W.heap.size, 0, none⟩ = some (.int .i64 n) ∧ w'.cell? ⟨W.heap.size, 1, none⟩ = some (.int .i64 d) ∧ w'.cell? ⟨W.heap.size + 1, 0, none⟩ = some (.int .i64 n') ∧ w'.cell? ⟨W.heap.size + 1, 1, none⟩ = some (.int .i64 d'))
    (first
      | exact ⟨P5.out.1, P5.out.2.1, P5.out.2.2.1, P5.out.2.2.2⟩
      | exact ⟨P4.out.1, P4.out.2.1, P4.out.2.2.1, P4.out.2.2.2⟩
      | exact ⟨P3.out.1, P3.out.2.1, P3.out.2.2.1, P3.out.2.2.2⟩
      | exact ⟨s0, s1, t0, t1⟩
      | go_keep)
    (first
      | (go_at_call 24; refine (hr2.out w3).mono ?_; rintro e w4 ⟨g2, rfl, j1_, j2_, j3_⟩; have R2 := Aside0.mk j2_; have R1' := Aside0.mk (R1.out.below j3_); have C4 := Aside0.mk (below_step C3.out j3_); have X4 := Aside0.mk (blk_below X3.out j3_); have Y4 := Aside0.mk (blk_below Y3.out j3_); have P4 := Aside0.mk (four_cells X4.out Y4.out); clear j1_ j2_ j3_)
      | (go_at_call 24; refine (hr1.out w2.drew).mono ?_; rintro e w3 ⟨g1, rfl, j1_, j2_, j3_⟩; have R1 := Aside0.mk j2_; have C3 := Aside0.mk (below_step (below_drew B2.out) j3_); have X3 := Aside0.mk (blk_below (w := w2.drew) X2.out j3_); have Y3 := Aside0.mk (blk_below (w := w2.drew) Y2.out j3_); have P3 := Aside0.mk (four_cells X3.out Y3.out); clear j1_ j2_ j3_)
      | (go_at_call 32; refine (hop.out g1 g2 w4 R1'.out R2.out).mono ?_; rintro e w5 ⟨rfl, j3_⟩; have C5 := Aside0.mk (below_step C4.out j3_); have X5 := Aside0.mk (blk_below X4.out j3_); have Y5 := Aside0.mk (blk_below Y4.out j3_); have P5 := Aside0.mk (four_cells X5.out Y5.out); clear j3_))
  all_goals (try go_wp2)
  all_goals (
    go_ret2
    exact ⟨rfl, C5.out⟩)
theorem impl_CompareFractions.calls (a0_0 : Int) (a0_1 : Int) (a1_0 : Int) (a1_1 : Int) (r1 : Int) (r2 : Bool) (w : World) (h : impl_CompareFractions.f a0_0 a0_1 a1_0 a1_1 = some (r1, r2)) :
    Calls Tryz.prog 12 #[.agg #[.int .i64 a0_0, .int .i64 a0_1], .agg #[.int .i64 a1_0, .int .i64 a1_1]] w fun e w' => e = .returned (.tuple #[.int .i64 r1, .bool r2]) ∧ Below w.heap.size w w' := by
  have h := Option.some.inj h
  cases c1 : okF a0_0 a0_1
  · rw [if_neg (fun z => by rw [c1] at z; exact absurd z.1 (by decide))] at h
    injection h with h1 h2; subst h1; subst h2
    exact impl_CompareFractions.no1 a0_0 a0_1 a1_0 a1_1 w c1
  · cases c2 : okF a1_0 a1_1
    · rw [if_neg (fun z => by rw [c2] at z; exact absurd z.2 (by decide))] at h
      injection h with h1 h2; subst h1; subst h2
      exact impl_CompareFractions.no2 a0_0 a0_1 a1_0 a1_1 w c1 c2
    · rw [if_pos ⟨c1, c2⟩] at h
      injection h with h1 h2; subst h1; subst h2
      exact impl_CompareFractions.yes a0_0 a0_1 a1_0 a1_1 w c1 c2

end Go.Proofs.YtbemhcdklmcbcaaGreatDoor.A
-- Printed by this session's oprint.py through the kit's printer.
namespace Go.Proofs.YtbemhcdklmcbcaaGreatDoor.A
open Go.RowKit Go.Proofs.YtbemhcdklmcbcaaGreatDoorW.PrintWords Go.Proofs.YtbemhcdklmcbcaaGreatDoorW.PrintLast Go.Proofs.YtbemhcdklmcbcaaGreatDoorW.PrintMore
attribute [local go_sem] max2_int min2_int max_two min_two max_three min_three max_four min_four   -- for this text's walks alone
set_option linter.unusedVariables false
set_option linter.unusedSimpArgs false

/-! ### impl_DivFractions: function 14 -/
-- given: proved by hand (divfractions.tpl)
def impl_DivFractions.f (n d n' d' : Int) : Option (Int × Int × Bool) := some (if okF n d = true ∧ okF n' d' = true ∧ n' ≠ 0 then mkF (n * d') (d * n') else (0, 0, false))
set_option maxHeartbeats 3200000 in
set_option maxRecDepth 100000 in
theorem impl_DivFractions.no1 (n d n' d' : Int) (W : World) (c1 : okF n d = false) :
    Calls Tryz.prog 14 #[.agg #[.int .i64 n, .int .i64 d], .agg #[.int .i64 n', .int .i64 d']] W fun e w' => e = .returned (.tuple #[.agg #[.int .i64 (((0, 0, false) : Int × Int × Bool)).1, .int .i64 (((0, 0, false) : Int × Int × Bool)).2.1], .bool (((0, 0, false) : Int × Int × Bool)).2.2]) ∧ Below W.heap.size W w' := by
  have hu23 := Tryz.underlying25
  have B0 := Aside0.mk (below_box W n d n' d')
  have X0 := Aside0.mk (box0 W n d n' d')
  have Y0 := Aside0.mk (box1 W n d n' d')
  have Z0 := Aside0.mk (box2 W n d n' d')
  go_enter Tryz.func14, Tryz.ntmps14
  go_wp2_with (first
    | (go_at_call 13; refine (impl_ValidFraction.law n d _).mono ?_; rintro e w1 ⟨rfl, hB⟩; rw [c1]; have B1 := Aside0.mk (below_step B0.out hB); have X1 := Aside0.mk (blk_below X0.out hB); have Y1 := Aside0.mk (blk_below Y0.out hB); have Z1 := Aside0.mk (blk_below Z0.out hB); obtain ⟨p0, p1, -, -⟩ := two_cells X1.out; obtain ⟨q0, q1, -, -⟩ := two_cells Y1.out; obtain ⟨r0, r1, r2, r3⟩ := two_cells Z1.out; clear hB))
  refine bodyPost_ret (results_ct rfl _ _ (W.heap.size + 2) 25 #[.int .i64 0, .int .i64 0] (0, 0) _ rfl (by (repeat (first | refine blk_drewN ?_ _ | refine blk_drew ?_)); refine blk_put (cs := #[.int .i64 0, .int .i64 0]) ?_ 1 _ rfl; refine blk_put (cs := #[.int .i64 0, .int .i64 0]) ?_ 0 _ rfl; exact Z1.out) Tryz.underlying25 rfl (by kernel_rfl)) rfl ?_
  exact ⟨rfl, by first | exact below_set2 B1.out (by omega) _ _ | exact below_drew (below_set2 B1.out (by omega) _ _)⟩
set_option maxHeartbeats 3200000 in
set_option maxRecDepth 100000 in
theorem impl_DivFractions.no2 (n d n' d' : Int) (W : World) (c1 : okF n d = true) (c2 : okF n' d' = false) :
    Calls Tryz.prog 14 #[.agg #[.int .i64 n, .int .i64 d], .agg #[.int .i64 n', .int .i64 d']] W fun e w' => e = .returned (.tuple #[.agg #[.int .i64 (((0, 0, false) : Int × Int × Bool)).1, .int .i64 (((0, 0, false) : Int × Int × Bool)).2.1], .bool (((0, 0, false) : Int × Int × Bool)).2.2]) ∧ Below W.heap.size W w' := by
  have hu23 := Tryz.underlying25
  have B0 := Aside0.mk (below_box W n d n' d')
  have X0 := Aside0.mk (box0 W n d n' d')
  have Y0 := Aside0.mk (box1 W n d n' d')
  have Z0 := Aside0.mk (box2 W n d n' d')
  go_enter Tryz.func14, Tryz.ntmps14
  go_wp2_with (first
    | (go_at_call 13; refine (impl_ValidFraction.law n' d' w1).mono ?_; rintro e w2 ⟨rfl, hB⟩; rw [c2]; have B2 := Aside0.mk (below_step B1.out hB); have X2 := Aside0.mk (blk_below X1.out hB); have Y2 := Aside0.mk (blk_below Y1.out hB); have Z2 := Aside0.mk (blk_below Z1.out hB); obtain ⟨s0, s1, -, -⟩ := two_cells X2.out; obtain ⟨t0, t1, -, -⟩ := two_cells Y2.out; obtain ⟨y0, y1, y2, y3⟩ := two_cells Z2.out; clear hB)
    | (go_at_call 13; refine (impl_ValidFraction.law n d _).mono ?_; rintro e w1 ⟨rfl, hB⟩; rw [c1]; have B1 := Aside0.mk (below_step B0.out hB); have X1 := Aside0.mk (blk_below X0.out hB); have Y1 := Aside0.mk (blk_below Y0.out hB); have Z1 := Aside0.mk (blk_below Z0.out hB); obtain ⟨p0, p1, -, -⟩ := two_cells X1.out; obtain ⟨q0, q1, -, -⟩ := two_cells Y1.out; obtain ⟨r0, r1, r2, r3⟩ := two_cells Z1.out; clear hB))
  refine bodyPost_ret (results_ct rfl _ _ (W.heap.size + 2) 25 #[.int .i64 0, .int .i64 0] (0, 0) _ rfl (by (repeat (first | refine blk_drewN ?_ _ | refine blk_drew ?_)); refine blk_put (cs := #[.int .i64 0, .int .i64 0]) ?_ 1 _ rfl; refine blk_put (cs := #[.int .i64 0, .int .i64 0]) ?_ 0 _ rfl; exact Z2.out) Tryz.underlying25 rfl (by kernel_rfl)) rfl ?_
  exact ⟨rfl, by first | exact below_set2 B2.out (by omega) _ _ | exact below_drew (below_set2 B2.out (by omega) _ _)⟩
set_option maxHeartbeats 3200000 in
set_option maxRecDepth 100000 in
theorem impl_DivFractions.no3 (n d n' d' : Int) (W : World) (c1 : okF n d = true) (c2 : okF n' d' = true) (c3 : n' = 0) :
    Calls Tryz.prog 14 #[.agg #[.int .i64 n, .int .i64 d], .agg #[.int .i64 n', .int .i64 d']] W fun e w' => e = .returned (.tuple #[.agg #[.int .i64 (((0, 0, false) : Int × Int × Bool)).1, .int .i64 (((0, 0, false) : Int × Int × Bool)).2.1], .bool (((0, 0, false) : Int × Int × Bool)).2.2]) ∧ Below W.heap.size W w' := by
  have hu23 := Tryz.underlying25
  have B0 := Aside0.mk (below_box W n d n' d')
  have X0 := Aside0.mk (box0 W n d n' d')
  have Y0 := Aside0.mk (box1 W n d n' d')
  have Z0 := Aside0.mk (box2 W n d n' d')
  have c3' : (n' == 0) = true := beq_iff_eq.2 c3
  clear c3
  go_enter Tryz.func14, Tryz.ntmps14
  go_wp2_with (first
    | (go_at_call 13; refine (impl_ValidFraction.law n' d' w1).mono ?_; rintro e w2 ⟨rfl, hB⟩; rw [c2]; have B2 := Aside0.mk (below_step B1.out hB); have X2 := Aside0.mk (blk_below X1.out hB); have Y2 := Aside0.mk (blk_below Y1.out hB); have Z2 := Aside0.mk (blk_below Z1.out hB); obtain ⟨s0, s1, -, -⟩ := two_cells X2.out; obtain ⟨t0, t1, -, -⟩ := two_cells Y2.out; obtain ⟨y0, y1, y2, y3⟩ := two_cells Z2.out; clear hB)
    | (go_at_call 13; refine (impl_ValidFraction.law n d _).mono ?_; rintro e w1 ⟨rfl, hB⟩; rw [c1]; have B1 := Aside0.mk (below_step B0.out hB); have X1 := Aside0.mk (blk_below X0.out hB); have Y1 := Aside0.mk (blk_below Y0.out hB); have Z1 := Aside0.mk (blk_below Z0.out hB); obtain ⟨p0, p1, -, -⟩ := two_cells X1.out; obtain ⟨q0, q1, -, -⟩ := two_cells Y1.out; obtain ⟨r0, r1, r2, r3⟩ := two_cells Z1.out; clear hB))
  refine bodyPost_ret (results_ct rfl _ _ (W.heap.size + 2) 25 #[.int .i64 0, .int .i64 0] (0, 0) _ rfl (by (repeat (first | refine blk_drewN ?_ _ | refine blk_drew ?_)); refine blk_put (cs := #[.int .i64 0, .int .i64 0]) ?_ 1 _ rfl; refine blk_put (cs := #[.int .i64 0, .int .i64 0]) ?_ 0 _ rfl; exact Z2.out) Tryz.underlying25 rfl (by kernel_rfl)) rfl ?_
  exact ⟨rfl, by first | exact below_set2 B2.out (by omega) _ _ | exact below_drew (below_set2 B2.out (by omega) _ _)⟩
set_option maxHeartbeats 3200000 in
set_option maxRecDepth 100000 in
theorem impl_DivFractions.yes (n d n' d' : Int) (W : World) (c1 : okF n d = true) (c2 : okF n' d' = true) (c3 : n' ≠ 0) :
    Calls Tryz.prog 14 #[.agg #[.int .i64 n, .int .i64 d], .agg #[.int .i64 n', .int .i64 d']] W fun e w' => e = .returned (.tuple #[.agg #[.int .i64 (mkF (n * d') (d * n')).1, .int .i64 (mkF (n * d') (d * n')).2.1], .bool (mkF (n * d') (d * n')).2.2]) ∧ Below W.heap.size W w' := by
  have hu23 := Tryz.underlying25
  have B0 := Aside0.mk (below_box W n d n' d')
  have X0 := Aside0.mk (box0 W n d n' d')
  have Y0 := Aside0.mk (box1 W n d n' d')
  have Z0 := Aside0.mk (box2 W n d n' d')
  have c3' : (n' == 0) = false := beq_eq_false_iff_ne.2 c3
  obtain ⟨pn, pd, a0⟩ := okF_parts c1
  obtain ⟨pn', pd', b0⟩ := okF_parts c2
  have hr1 := Aside0.mk (fun w => rat_ok n d w c1)
  have hr2 := Aside0.mk (fun w => rat_ok n' d' w c2)
  have ln := lo_part pn
  have ld := lo_part pd
  have ln' := lo_part pn'
  have ld' := lo_part pd'
  have hop := Aside0.mk (fun g gx gy w hb hx hy => impl_exactRat_Quo.law g gx gy n d n' d' (.bool false) (.slice none 0 0) (.slice none 0 0) w hb hx hy ln ld ln' ld' c3)
  have f1 := Aside0.mk (show Fits2 (n * d') from fits2_mul pn pd')
  have f2 := Aside0.mk (show Fits2 (d * n') from fits2_mul pd pn')
  clear a0 b0 pn pd pn' pd' ln ld ln' ld' c3
  go_enter Tryz.func14, Tryz.ntmps14
  go_wp2_with (first
    | (go_at_call 13; refine (impl_ValidFraction.law n' d' w1).mono ?_; rintro e w2 ⟨rfl, hB⟩; rw [c2]; have B2 := Aside0.mk (below_step B1.out hB); have X2 := Aside0.mk (blk_below X1.out hB); have Y2 := Aside0.mk (blk_below Y1.out hB); have Z2 := Aside0.mk (blk_below Z1.out hB); obtain ⟨s0, s1, -, -⟩ := two_cells X2.out; obtain ⟨t0, t1, -, -⟩ := two_cells Y2.out; obtain ⟨y0, y1, y2, y3⟩ := two_cells Z2.out; clear hB)
    | (go_at_call 13; refine (impl_ValidFraction.law n d _).mono ?_; rintro e w1 ⟨rfl, hB⟩; rw [c1]; have B1 := Aside0.mk (below_step B0.out hB); have X1 := Aside0.mk (blk_below X0.out hB); have Y1 := Aside0.mk (blk_below Y0.out hB); have Z1 := Aside0.mk (blk_below Z0.out hB); obtain ⟨p0, p1, -, -⟩ := two_cells X1.out; obtain ⟨q0, q1, -, -⟩ := two_cells Y1.out; obtain ⟨r0, r1, r2, r3⟩ := two_cells Z1.out; clear hB))
  go_region_held3 (fun w' => w'.cell? ⟨W.heap.size, 0, none⟩ = some (.int .i64 n) ∧ w'.cell? ⟨W.heap.size, 1, none⟩ = some (.int .i64 d) ∧ w'.cell? ⟨W.heap.size + 1, 0, none⟩ = some (.int .i64 n') ∧ w'.cell? ⟨W.heap.size + 1, 1, none⟩ = some (.int .i64 d'))
    (first
      | exact ⟨(P7.out _ _).1, (P7.out _ _).2.1, (P7.out _ _).2.2.1, (P7.out _ _).2.2.2⟩
      | exact ⟨P6.out.1, P6.out.2.1, P6.out.2.2.1, P6.out.2.2.2⟩
      | exact ⟨P5.out.1, P5.out.2.1, P5.out.2.2.1, P5.out.2.2.2⟩
      | exact ⟨P4.out.1, P4.out.2.1, P4.out.2.2.1, P4.out.2.2.2⟩
      | exact ⟨P4b.out.1, P4b.out.2.1, P4b.out.2.2.1, P4b.out.2.2.2⟩
      | exact ⟨P4c.out.1, P4c.out.2.1, P4c.out.2.2.1, P4c.out.2.2.2⟩
      | exact ⟨P3.out.1, P3.out.2.1, P3.out.2.2.1, P3.out.2.2.2⟩
      | exact ⟨P3b.out.1, P3b.out.2.1, P3b.out.2.2.1, P3b.out.2.2.2⟩
      | exact ⟨s0, s1, t0, t1⟩
      | exact four_cells (blk_alloc (w := w2.drew) X2.out zeroR) (blk_alloc (w := w2.drew) Y2.out zeroR)
      | exact four_cells (blk_alloc (w := v3) X3b.out zeroR) (blk_alloc (w := v3) Y3b.out zeroR)
      | exact four_cells (blk_alloc (w := u4) X4c.out zeroR) (blk_alloc (w := u4) Y4c.out zeroR)
      | go_keep)
    (first
      | (go_at_call 24; refine (hr2.out w3).mono ?_; rintro e w4 ⟨g24, rfl, j1_, j2_, j3_⟩; have R24 := Aside0.mk j2_; have R14 := Aside0.mk ((R13.out).below j3_); have C4 := Aside0.mk (below_step C3.out j3_); have X4 := Aside0.mk (blk_below X3.out j3_); have Y4 := Aside0.mk (blk_below Y3.out j3_); have Z4 := Aside0.mk (blk_below Z3.out j3_); have P4 := Aside0.mk (four_cells X4.out Y4.out); have N4 := Aside0.mk (blk_below N3.out j3_); clear j1_ j2_ j3_)
      | (go_at_call 24; refine (hr2.out (v3.alloc zeroR)).mono ?_; rintro e v4 ⟨g24b, rfl, j1_, j2_, j3_⟩; have R24b := Aside0.mk j2_; have R14b := Aside0.mk (((R13b.out.below (below_alloc (Below.refl _ _) zeroR))).below j3_); have C4b := Aside0.mk (below_step (below_alloc C3b.out zeroR) j3_); have X4b := Aside0.mk (blk_below (blk_alloc (w := v3) X3b.out zeroR) j3_); have Y4b := Aside0.mk (blk_below (blk_alloc (w := v3) Y3b.out zeroR) j3_); have Z4b := Aside0.mk (blk_below (blk_alloc (w := v3) Z3b.out zeroR) j3_); have P4b := Aside0.mk (four_cells X4b.out Y4b.out); have N4b := Aside0.mk (blk_below (blk_new v3 zeroR) j3_); clear j1_ j2_ j3_)
      | (go_at_call 24; refine (hr2.out v3).mono ?_; rintro e u4 ⟨g24c, rfl, j1_, j2_, j3_⟩; have R24c := Aside0.mk j2_; have R14c := Aside0.mk ((R13b.out).below j3_); have C4c := Aside0.mk (below_step C3b.out j3_); have X4c := Aside0.mk (blk_below X3b.out j3_); have Y4c := Aside0.mk (blk_below Y3b.out j3_); have Z4c := Aside0.mk (blk_below Z3b.out j3_); have P4c := Aside0.mk (four_cells X4c.out Y4c.out); have S4c := Aside0.mk j3_.size; clear j1_ j2_ j3_)
      | (go_at_call 24; refine (hr1.out (w2.drew.alloc zeroR)).mono ?_; rintro e w3 ⟨g13, rfl, j1_, j2_, j3_⟩; have R13 := Aside0.mk j2_; have C3 := Aside0.mk (below_step (below_alloc (below_drew B2.out) zeroR) j3_); have X3 := Aside0.mk (blk_below (blk_alloc (w := w2.drew) X2.out zeroR) j3_); have Y3 := Aside0.mk (blk_below (blk_alloc (w := w2.drew) Y2.out zeroR) j3_); have Z3 := Aside0.mk (blk_below (blk_alloc (w := w2.drew) Z2.out zeroR) j3_); have P3 := Aside0.mk (four_cells X3.out Y3.out); have N3 := Aside0.mk (show w3.heap[w2.heap.size]? = some zeroR from blk_below (blk_new w2.drew zeroR) j3_); clear j1_ j2_ j3_)
      | (go_at_call 24; refine (hr1.out w2.drew).mono ?_; rintro e v3 ⟨g13b, rfl, j1_, j2_, j3_⟩; have R13b := Aside0.mk j2_; have C3b := Aside0.mk (below_step (below_drew B2.out) j3_); have X3b := Aside0.mk (blk_below (w := w2.drew) X2.out j3_); have Y3b := Aside0.mk (blk_below (w := w2.drew) Y2.out j3_); have Z3b := Aside0.mk (blk_below (w := w2.drew) Z2.out j3_); have P3b := Aside0.mk (four_cells X3b.out Y3b.out); have S3b := Aside0.mk (show w2.heap.size ≤ v3.heap.size from j3_.size); clear j1_ j2_ j3_)
      | (go_at_call 35; refine (hop.out w2.heap.size g13 g24 w4 N4.out R14.out R24.out).mono ?_; rintro e w5 ⟨rfl, j1_, j2_⟩; have R5 := Aside0.mk j1_; have C5 := Aside0.mk (below_at C4.out j2_ (by have := B2.out.size; skip; omega)); have X5 := Aside0.mk (blk_grown X4.out j2_ (by have := blk_lt X2.out; skip; simp; omega)); have Y5 := Aside0.mk (blk_grown Y4.out j2_ (by have := blk_lt Y2.out; skip; simp; omega)); have Z5 := Aside0.mk (blk_grown Z4.out j2_ (by have := blk_lt Z2.out; skip; simp; omega)); have P5 := Aside0.mk (four_cells X5.out Y5.out); clear j1_ j2_)
      | (go_at_call 35; refine (hop.out v3.heap.size g13b g24b v4 N4b.out R14b.out R24b.out).mono ?_; rintro e w5 ⟨rfl, j1_, j2_⟩; have R5 := Aside0.mk j1_; have C5 := Aside0.mk (below_at C4b.out j2_ (by have := B2.out.size; have := S3b.out; omega)); have X5 := Aside0.mk (blk_grown X4b.out j2_ (by have := blk_lt X2.out; have := S3b.out; simp; omega)); have Y5 := Aside0.mk (blk_grown Y4b.out j2_ (by have := blk_lt Y2.out; have := S3b.out; simp; omega)); have Z5 := Aside0.mk (blk_grown Z4b.out j2_ (by have := blk_lt Z2.out; have := S3b.out; simp; omega)); have P5 := Aside0.mk (four_cells X5.out Y5.out); clear j1_ j2_)
      | (go_at_call 35; refine (hop.out u4.heap.size g13b g24c (u4.alloc zeroR) (blk_new u4 zeroR) (R14c.out.below (below_alloc (Below.refl _ _) zeroR)) (R24c.out.below (below_alloc (Below.refl _ _) zeroR))).mono ?_; rintro e w5 ⟨rfl, j1_, j2_⟩; have R5 := Aside0.mk j1_; have C5 := Aside0.mk (below_at (below_alloc C4c.out zeroR) j2_ (by have := B2.out.size; have := S3b.out; have := S4c.out; omega)); have X5 := Aside0.mk (blk_grown (blk_alloc (w := u4) X4c.out zeroR) j2_ (by have := blk_lt X2.out; have := S3b.out; have := S4c.out; simp; omega)); have Y5 := Aside0.mk (blk_grown (blk_alloc (w := u4) Y4c.out zeroR) j2_ (by have := blk_lt Y2.out; have := S3b.out; have := S4c.out; simp; omega)); have Z5 := Aside0.mk (blk_grown (blk_alloc (w := u4) Z4c.out zeroR) j2_ (by have := blk_lt Z2.out; have := S3b.out; have := S4c.out; simp; omega)); have P5 := Aside0.mk (four_cells X5.out Y5.out); clear j1_ j2_)
      | (go_at_call 22; refine (checked_new _ _ _ w5 R5.out f1.out f2.out).mono ?_; rintro e w6 ⟨rfl, j3_⟩; have C6 := Aside0.mk (below_step C5.out j3_); have X6 := Aside0.mk (blk_below X5.out j3_); have Y6 := Aside0.mk (blk_below Y5.out j3_); have Z6 := Aside0.mk (blk_below Z5.out j3_); have P6 := Aside0.mk (four_cells X6.out Y6.out); have P7 := Aside0.mk (fun a b => four_cells (blk_put_ne (blk_put_ne (i := 0) (v := a) X6.out (show W.heap.size ≠ W.heap.size + 2 by omega)) (i := 1) (v := b) (show W.heap.size ≠ W.heap.size + 2 by omega)) (blk_put_ne (blk_put_ne (i := 0) (v := a) Y6.out (show W.heap.size + 1 ≠ W.heap.size + 2 by omega)) (i := 1) (v := b) (show W.heap.size + 1 ≠ W.heap.size + 2 by omega))); obtain ⟨v0_, v1_, v2_, v3_⟩ := two_cells Z6.out; clear j3_))
  all_goals (try go_wp2)
  all_goals (
    refine bodyPost_ret (results_ct rfl _ _ (W.heap.size + 2) 25 #[.int .i64 (mkF (n * d') (d * n')).1, .int .i64 (mkF (n * d') (d * n')).2.1] (0, 0) _ rfl (by (repeat (first | refine blk_drewN ?_ _ | refine blk_drew ?_)); refine blk_put (cs := #[.int .i64 (mkF (n * d') (d * n')).1, .int .i64 0]) ?_ 1 _ rfl; refine blk_put (cs := #[.int .i64 0, .int .i64 0]) ?_ 0 _ rfl; exact Z6.out) Tryz.underlying25 rfl (by kernel_rfl)) rfl ?_
    exact ⟨rfl, by first | exact below_set2 C6.out (by omega) _ _ | exact below_drew (below_set2 C6.out (by omega) _ _)⟩)
theorem impl_DivFractions.calls (a0_0 : Int) (a0_1 : Int) (a1_0 : Int) (a1_1 : Int) (r1 : Int) (r2 : Int) (r3 : Bool) (w : World) (h : impl_DivFractions.f a0_0 a0_1 a1_0 a1_1 = some (r1, r2, r3)) :
    Calls Tryz.prog 14 #[.agg #[.int .i64 a0_0, .int .i64 a0_1], .agg #[.int .i64 a1_0, .int .i64 a1_1]] w fun e w' => e = .returned (.tuple #[.agg #[.int .i64 r1, .int .i64 r2], .bool r3]) ∧ Below w.heap.size w w' := by
  have h := Option.some.inj h
  cases c1 : okF a0_0 a0_1
  · rw [if_neg (fun z => by rw [c1] at z; exact absurd z.1 (by decide))] at h
    have := impl_DivFractions.no1 a0_0 a0_1 a1_0 a1_1 w c1
    rw [h] at this
    exact this
  · cases c2 : okF a1_0 a1_1
    · rw [if_neg (fun z => by rw [c2] at z; exact absurd z.2.1 (by decide))] at h
      have := impl_DivFractions.no2 a0_0 a0_1 a1_0 a1_1 w c1 c2
      rw [h] at this
      exact this
    · by_cases c3 : a1_0 = 0
      · rw [if_neg (fun z => z.2.2 c3)] at h
        have := impl_DivFractions.no3 a0_0 a0_1 a1_0 a1_1 w c1 c2 c3
        rw [h] at this
        exact this
      · rw [if_pos ⟨c1, c2, c3⟩] at h
        have := impl_DivFractions.yes a0_0 a0_1 a1_0 a1_1 w c1 c2 c3
        rw [h] at this
        exact this

end Go.Proofs.YtbemhcdklmcbcaaGreatDoor.A
-- Printed by this session's oprint.py through the kit's printer.
namespace Go.Proofs.YtbemhcdklmcbcaaGreatDoor.A
open Go.RowKit Go.Proofs.YtbemhcdklmcbcaaGreatDoorW.PrintWords Go.Proofs.YtbemhcdklmcbcaaGreatDoorW.PrintLast Go.Proofs.YtbemhcdklmcbcaaGreatDoorW.PrintMore
attribute [local go_sem] max2_int min2_int max_two min_two max_three min_three max_four min_four   -- for this text's walks alone
set_option linter.unusedVariables false
set_option linter.unusedSimpArgs false

/-! ### impl_AddFractions: function 6 -/
-- given: proved by hand (addfractions.tpl)
def impl_AddFractions.f (n d n' d' : Int) : Option (Int × Int × Bool) := some (if okF n d = true ∧ okF n' d' = true then mkF (n * d' + n' * d) (d * d') else (0, 0, false))
set_option maxHeartbeats 3200000 in
set_option maxRecDepth 100000 in
theorem impl_AddFractions.no1 (n d n' d' : Int) (W : World) (c1 : okF n d = false) :
    Calls Tryz.prog 6 #[.agg #[.int .i64 n, .int .i64 d], .agg #[.int .i64 n', .int .i64 d']] W fun e w' => e = .returned (.tuple #[.agg #[.int .i64 (((0, 0, false) : Int × Int × Bool)).1, .int .i64 (((0, 0, false) : Int × Int × Bool)).2.1], .bool (((0, 0, false) : Int × Int × Bool)).2.2]) ∧ Below W.heap.size W w' := by
  have hu23 := Tryz.underlying25
  have B0 := Aside0.mk (below_box W n d n' d')
  have X0 := Aside0.mk (box0 W n d n' d')
  have Y0 := Aside0.mk (box1 W n d n' d')
  have Z0 := Aside0.mk (box2 W n d n' d')
  go_enter Tryz.func6, Tryz.ntmps6
  go_wp2_with (first
    | (go_at_call 13; refine (impl_ValidFraction.law n d _).mono ?_; rintro e w1 ⟨rfl, hB⟩; rw [c1]; have B1 := Aside0.mk (below_step B0.out hB); have X1 := Aside0.mk (blk_below X0.out hB); have Y1 := Aside0.mk (blk_below Y0.out hB); have Z1 := Aside0.mk (blk_below Z0.out hB); obtain ⟨p0, p1, -, -⟩ := two_cells X1.out; obtain ⟨q0, q1, -, -⟩ := two_cells Y1.out; obtain ⟨r0, r1, r2, r3⟩ := two_cells Z1.out; clear hB))
  refine bodyPost_ret (results_ct rfl _ _ (W.heap.size + 2) 25 #[.int .i64 0, .int .i64 0] (0, 0) _ rfl (by (repeat (first | refine blk_drewN ?_ _ | refine blk_drew ?_)); refine blk_put (cs := #[.int .i64 0, .int .i64 0]) ?_ 1 _ rfl; refine blk_put (cs := #[.int .i64 0, .int .i64 0]) ?_ 0 _ rfl; exact Z1.out) Tryz.underlying25 rfl (by kernel_rfl)) rfl ?_
  exact ⟨rfl, by first | exact below_set2 B1.out (by omega) _ _ | exact below_drew (below_set2 B1.out (by omega) _ _)⟩
set_option maxHeartbeats 3200000 in
set_option maxRecDepth 100000 in
theorem impl_AddFractions.no2 (n d n' d' : Int) (W : World) (c1 : okF n d = true) (c2 : okF n' d' = false) :
    Calls Tryz.prog 6 #[.agg #[.int .i64 n, .int .i64 d], .agg #[.int .i64 n', .int .i64 d']] W fun e w' => e = .returned (.tuple #[.agg #[.int .i64 (((0, 0, false) : Int × Int × Bool)).1, .int .i64 (((0, 0, false) : Int × Int × Bool)).2.1], .bool (((0, 0, false) : Int × Int × Bool)).2.2]) ∧ Below W.heap.size W w' := by
  have hu23 := Tryz.underlying25
  have B0 := Aside0.mk (below_box W n d n' d')
  have X0 := Aside0.mk (box0 W n d n' d')
  have Y0 := Aside0.mk (box1 W n d n' d')
  have Z0 := Aside0.mk (box2 W n d n' d')
  go_enter Tryz.func6, Tryz.ntmps6
  go_wp2_with (first
    | (go_at_call 13; refine (impl_ValidFraction.law n' d' w1).mono ?_; rintro e w2 ⟨rfl, hB⟩; rw [c2]; have B2 := Aside0.mk (below_step B1.out hB); have X2 := Aside0.mk (blk_below X1.out hB); have Y2 := Aside0.mk (blk_below Y1.out hB); have Z2 := Aside0.mk (blk_below Z1.out hB); obtain ⟨s0, s1, -, -⟩ := two_cells X2.out; obtain ⟨t0, t1, -, -⟩ := two_cells Y2.out; obtain ⟨y0, y1, y2, y3⟩ := two_cells Z2.out; clear hB)
    | (go_at_call 13; refine (impl_ValidFraction.law n d _).mono ?_; rintro e w1 ⟨rfl, hB⟩; rw [c1]; have B1 := Aside0.mk (below_step B0.out hB); have X1 := Aside0.mk (blk_below X0.out hB); have Y1 := Aside0.mk (blk_below Y0.out hB); have Z1 := Aside0.mk (blk_below Z0.out hB); obtain ⟨p0, p1, -, -⟩ := two_cells X1.out; obtain ⟨q0, q1, -, -⟩ := two_cells Y1.out; obtain ⟨r0, r1, r2, r3⟩ := two_cells Z1.out; clear hB))
  refine bodyPost_ret (results_ct rfl _ _ (W.heap.size + 2) 25 #[.int .i64 0, .int .i64 0] (0, 0) _ rfl (by (repeat (first | refine blk_drewN ?_ _ | refine blk_drew ?_)); refine blk_put (cs := #[.int .i64 0, .int .i64 0]) ?_ 1 _ rfl; refine blk_put (cs := #[.int .i64 0, .int .i64 0]) ?_ 0 _ rfl; exact Z2.out) Tryz.underlying25 rfl (by kernel_rfl)) rfl ?_
  exact ⟨rfl, by first | exact below_set2 B2.out (by omega) _ _ | exact below_drew (below_set2 B2.out (by omega) _ _)⟩
set_option maxHeartbeats 3200000 in
set_option maxRecDepth 100000 in
theorem impl_AddFractions.yes (n d n' d' : Int) (W : World) (c1 : okF n d = true) (c2 : okF n' d' = true) :
    Calls Tryz.prog 6 #[.agg #[.int .i64 n, .int .i64 d], .agg #[.int .i64 n', .int .i64 d']] W fun e w' => e = .returned (.tuple #[.agg #[.int .i64 (mkF (n * d' + n' * d) (d * d')).1, .int .i64 (mkF (n * d' + n' * d) (d * d')).2.1], .bool (mkF (n * d' + n' * d) (d * d')).2.2]) ∧ Below W.heap.size W w' := by
  have hu23 := Tryz.underlying25
  have B0 := Aside0.mk (below_box W n d n' d')
  have X0 := Aside0.mk (box0 W n d n' d')
  have Y0 := Aside0.mk (box1 W n d n' d')
  have Z0 := Aside0.mk (box2 W n d n' d')
  obtain ⟨pn, pd, a0⟩ := okF_parts c1
  obtain ⟨pn', pd', b0⟩ := okF_parts c2
  have hr1 := Aside0.mk (fun w => rat_ok n d w c1)
  have hr2 := Aside0.mk (fun w => rat_ok n' d' w c2)
  have ln := lo_part pn
  have ld := lo_part pd
  have ln' := lo_part pn'
  have ld' := lo_part pd'
  have hop := Aside0.mk (fun g gx gy w hb hx hy => impl_exactRat_Add.law g gx gy n d n' d' (.bool false) (.slice none 0 0) (.slice none 0 0) w hb hx hy ln ld ln' ld')
  have f1 := Aside0.mk (show Fits2 (n * d' + n' * d) from fits2_add pn pd' pn' pd)
  have f2 := Aside0.mk (show Fits2 (d * d') from fits2_mul pd pd')
  clear a0 b0 pn pd pn' pd' ln ld ln' ld'
  go_enter Tryz.func6, Tryz.ntmps6
  go_wp2_with (first
    | (go_at_call 13; refine (impl_ValidFraction.law n' d' w1).mono ?_; rintro e w2 ⟨rfl, hB⟩; rw [c2]; have B2 := Aside0.mk (below_step B1.out hB); have X2 := Aside0.mk (blk_below X1.out hB); have Y2 := Aside0.mk (blk_below Y1.out hB); have Z2 := Aside0.mk (blk_below Z1.out hB); obtain ⟨s0, s1, -, -⟩ := two_cells X2.out; obtain ⟨t0, t1, -, -⟩ := two_cells Y2.out; obtain ⟨y0, y1, y2, y3⟩ := two_cells Z2.out; clear hB)
    | (go_at_call 13; refine (impl_ValidFraction.law n d _).mono ?_; rintro e w1 ⟨rfl, hB⟩; rw [c1]; have B1 := Aside0.mk (below_step B0.out hB); have X1 := Aside0.mk (blk_below X0.out hB); have Y1 := Aside0.mk (blk_below Y0.out hB); have Z1 := Aside0.mk (blk_below Z0.out hB); obtain ⟨p0, p1, -, -⟩ := two_cells X1.out; obtain ⟨q0, q1, -, -⟩ := two_cells Y1.out; obtain ⟨r0, r1, r2, r3⟩ := two_cells Z1.out; clear hB))
  go_region_held3 (fun w' => w'.cell? ⟨W.heap.size, 0, none⟩ = some (.int .i64 n) ∧ w'.cell? ⟨W.heap.size, 1, none⟩ = some (.int .i64 d) ∧ w'.cell? ⟨W.heap.size + 1, 0, none⟩ = some (.int .i64 n') ∧ w'.cell? ⟨W.heap.size + 1, 1, none⟩ = some (.int .i64 d'))
    (first
      | exact ⟨(P7.out _ _).1, (P7.out _ _).2.1, (P7.out _ _).2.2.1, (P7.out _ _).2.2.2⟩
      | exact ⟨P6.out.1, P6.out.2.1, P6.out.2.2.1, P6.out.2.2.2⟩
      | exact ⟨P5.out.1, P5.out.2.1, P5.out.2.2.1, P5.out.2.2.2⟩
      | exact ⟨P4.out.1, P4.out.2.1, P4.out.2.2.1, P4.out.2.2.2⟩
      | exact ⟨P4b.out.1, P4b.out.2.1, P4b.out.2.2.1, P4b.out.2.2.2⟩
      | exact ⟨P4c.out.1, P4c.out.2.1, P4c.out.2.2.1, P4c.out.2.2.2⟩
      | exact ⟨P3.out.1, P3.out.2.1, P3.out.2.2.1, P3.out.2.2.2⟩
      | exact ⟨P3b.out.1, P3b.out.2.1, P3b.out.2.2.1, P3b.out.2.2.2⟩
      | exact ⟨s0, s1, t0, t1⟩
      | exact four_cells (blk_alloc (w := w2.drew) X2.out zeroR) (blk_alloc (w := w2.drew) Y2.out zeroR)
      | exact four_cells (blk_alloc (w := v3) X3b.out zeroR) (blk_alloc (w := v3) Y3b.out zeroR)
      | exact four_cells (blk_alloc (w := u4) X4c.out zeroR) (blk_alloc (w := u4) Y4c.out zeroR)
      | go_keep)
    (first
      | (go_at_call 24; refine (hr2.out w3).mono ?_; rintro e w4 ⟨g24, rfl, j1_, j2_, j3_⟩; have R24 := Aside0.mk j2_; have R14 := Aside0.mk ((R13.out).below j3_); have C4 := Aside0.mk (below_step C3.out j3_); have X4 := Aside0.mk (blk_below X3.out j3_); have Y4 := Aside0.mk (blk_below Y3.out j3_); have Z4 := Aside0.mk (blk_below Z3.out j3_); have P4 := Aside0.mk (four_cells X4.out Y4.out); have N4 := Aside0.mk (blk_below N3.out j3_); clear j1_ j2_ j3_)
      | (go_at_call 24; refine (hr2.out (v3.alloc zeroR)).mono ?_; rintro e v4 ⟨g24b, rfl, j1_, j2_, j3_⟩; have R24b := Aside0.mk j2_; have R14b := Aside0.mk (((R13b.out.below (below_alloc (Below.refl _ _) zeroR))).below j3_); have C4b := Aside0.mk (below_step (below_alloc C3b.out zeroR) j3_); have X4b := Aside0.mk (blk_below (blk_alloc (w := v3) X3b.out zeroR) j3_); have Y4b := Aside0.mk (blk_below (blk_alloc (w := v3) Y3b.out zeroR) j3_); have Z4b := Aside0.mk (blk_below (blk_alloc (w := v3) Z3b.out zeroR) j3_); have P4b := Aside0.mk (four_cells X4b.out Y4b.out); have N4b := Aside0.mk (blk_below (blk_new v3 zeroR) j3_); clear j1_ j2_ j3_)
      | (go_at_call 24; refine (hr2.out v3).mono ?_; rintro e u4 ⟨g24c, rfl, j1_, j2_, j3_⟩; have R24c := Aside0.mk j2_; have R14c := Aside0.mk ((R13b.out).below j3_); have C4c := Aside0.mk (below_step C3b.out j3_); have X4c := Aside0.mk (blk_below X3b.out j3_); have Y4c := Aside0.mk (blk_below Y3b.out j3_); have Z4c := Aside0.mk (blk_below Z3b.out j3_); have P4c := Aside0.mk (four_cells X4c.out Y4c.out); have S4c := Aside0.mk j3_.size; clear j1_ j2_ j3_)
      | (go_at_call 24; refine (hr1.out (w2.drew.alloc zeroR)).mono ?_; rintro e w3 ⟨g13, rfl, j1_, j2_, j3_⟩; have R13 := Aside0.mk j2_; have C3 := Aside0.mk (below_step (below_alloc (below_drew B2.out) zeroR) j3_); have X3 := Aside0.mk (blk_below (blk_alloc (w := w2.drew) X2.out zeroR) j3_); have Y3 := Aside0.mk (blk_below (blk_alloc (w := w2.drew) Y2.out zeroR) j3_); have Z3 := Aside0.mk (blk_below (blk_alloc (w := w2.drew) Z2.out zeroR) j3_); have P3 := Aside0.mk (four_cells X3.out Y3.out); have N3 := Aside0.mk (show w3.heap[w2.heap.size]? = some zeroR from blk_below (blk_new w2.drew zeroR) j3_); clear j1_ j2_ j3_)
      | (go_at_call 24; refine (hr1.out w2.drew).mono ?_; rintro e v3 ⟨g13b, rfl, j1_, j2_, j3_⟩; have R13b := Aside0.mk j2_; have C3b := Aside0.mk (below_step (below_drew B2.out) j3_); have X3b := Aside0.mk (blk_below (w := w2.drew) X2.out j3_); have Y3b := Aside0.mk (blk_below (w := w2.drew) Y2.out j3_); have Z3b := Aside0.mk (blk_below (w := w2.drew) Z2.out j3_); have P3b := Aside0.mk (four_cells X3b.out Y3b.out); have S3b := Aside0.mk (show w2.heap.size ≤ v3.heap.size from j3_.size); clear j1_ j2_ j3_)
      | (go_at_call 23; refine (hop.out w2.heap.size g13 g24 w4 N4.out R14.out R24.out).mono ?_; rintro e w5 ⟨rfl, j1_, j2_⟩; have R5 := Aside0.mk j1_; have C5 := Aside0.mk (below_at C4.out j2_ (by have := B2.out.size; skip; omega)); have X5 := Aside0.mk (blk_grown X4.out j2_ (by have := blk_lt X2.out; skip; simp; omega)); have Y5 := Aside0.mk (blk_grown Y4.out j2_ (by have := blk_lt Y2.out; skip; simp; omega)); have Z5 := Aside0.mk (blk_grown Z4.out j2_ (by have := blk_lt Z2.out; skip; simp; omega)); have P5 := Aside0.mk (four_cells X5.out Y5.out); clear j1_ j2_)
      | (go_at_call 23; refine (hop.out v3.heap.size g13b g24b v4 N4b.out R14b.out R24b.out).mono ?_; rintro e w5 ⟨rfl, j1_, j2_⟩; have R5 := Aside0.mk j1_; have C5 := Aside0.mk (below_at C4b.out j2_ (by have := B2.out.size; have := S3b.out; omega)); have X5 := Aside0.mk (blk_grown X4b.out j2_ (by have := blk_lt X2.out; have := S3b.out; simp; omega)); have Y5 := Aside0.mk (blk_grown Y4b.out j2_ (by have := blk_lt Y2.out; have := S3b.out; simp; omega)); have Z5 := Aside0.mk (blk_grown Z4b.out j2_ (by have := blk_lt Z2.out; have := S3b.out; simp; omega)); have P5 := Aside0.mk (four_cells X5.out Y5.out); clear j1_ j2_)
      | (go_at_call 23; refine (hop.out u4.heap.size g13b g24c (u4.alloc zeroR) (blk_new u4 zeroR) (R14c.out.below (below_alloc (Below.refl _ _) zeroR)) (R24c.out.below (below_alloc (Below.refl _ _) zeroR))).mono ?_; rintro e w5 ⟨rfl, j1_, j2_⟩; have R5 := Aside0.mk j1_; have C5 := Aside0.mk (below_at (below_alloc C4c.out zeroR) j2_ (by have := B2.out.size; have := S3b.out; have := S4c.out; omega)); have X5 := Aside0.mk (blk_grown (blk_alloc (w := u4) X4c.out zeroR) j2_ (by have := blk_lt X2.out; have := S3b.out; have := S4c.out; simp; omega)); have Y5 := Aside0.mk (blk_grown (blk_alloc (w := u4) Y4c.out zeroR) j2_ (by have := blk_lt Y2.out; have := S3b.out; have := S4c.out; simp; omega)); have Z5 := Aside0.mk (blk_grown (blk_alloc (w := u4) Z4c.out zeroR) j2_ (by have := blk_lt Z2.out; have := S3b.out; have := S4c.out; simp; omega)); have P5 := Aside0.mk (four_cells X5.out Y5.out); clear j1_ j2_)
      | (go_at_call 22; refine (checked_new _ _ _ w5 R5.out f1.out f2.out).mono ?_; rintro e w6 ⟨rfl, j3_⟩; have C6 := Aside0.mk (below_step C5.out j3_); have X6 := Aside0.mk (blk_below X5.out j3_); have Y6 := Aside0.mk (blk_below Y5.out j3_); have Z6 := Aside0.mk (blk_below Z5.out j3_); have P6 := Aside0.mk (four_cells X6.out Y6.out); have P7 := Aside0.mk (fun a b => four_cells (blk_put_ne (blk_put_ne (i := 0) (v := a) X6.out (show W.heap.size ≠ W.heap.size + 2 by omega)) (i := 1) (v := b) (show W.heap.size ≠ W.heap.size + 2 by omega)) (blk_put_ne (blk_put_ne (i := 0) (v := a) Y6.out (show W.heap.size + 1 ≠ W.heap.size + 2 by omega)) (i := 1) (v := b) (show W.heap.size + 1 ≠ W.heap.size + 2 by omega))); obtain ⟨v0_, v1_, v2_, v3_⟩ := two_cells Z6.out; clear j3_))
  all_goals (try go_wp2)
  all_goals (
    refine bodyPost_ret (results_ct rfl _ _ (W.heap.size + 2) 25 #[.int .i64 (mkF (n * d' + n' * d) (d * d')).1, .int .i64 (mkF (n * d' + n' * d) (d * d')).2.1] (0, 0) _ rfl (by (repeat (first | refine blk_drewN ?_ _ | refine blk_drew ?_)); refine blk_put (cs := #[.int .i64 (mkF (n * d' + n' * d) (d * d')).1, .int .i64 0]) ?_ 1 _ rfl; refine blk_put (cs := #[.int .i64 0, .int .i64 0]) ?_ 0 _ rfl; exact Z6.out) Tryz.underlying25 rfl (by kernel_rfl)) rfl ?_
    exact ⟨rfl, by first | exact below_set2 C6.out (by omega) _ _ | exact below_drew (below_set2 C6.out (by omega) _ _)⟩)
theorem impl_AddFractions.calls (a0_0 : Int) (a0_1 : Int) (a1_0 : Int) (a1_1 : Int) (r1 : Int) (r2 : Int) (r3 : Bool) (w : World) (h : impl_AddFractions.f a0_0 a0_1 a1_0 a1_1 = some (r1, r2, r3)) :
    Calls Tryz.prog 6 #[.agg #[.int .i64 a0_0, .int .i64 a0_1], .agg #[.int .i64 a1_0, .int .i64 a1_1]] w fun e w' => e = .returned (.tuple #[.agg #[.int .i64 r1, .int .i64 r2], .bool r3]) ∧ Below w.heap.size w w' := by
  have h := Option.some.inj h
  cases c1 : okF a0_0 a0_1
  · rw [if_neg (fun z => by rw [c1] at z; exact absurd z.1 (by decide))] at h
    have := impl_AddFractions.no1 a0_0 a0_1 a1_0 a1_1 w c1
    rw [h] at this
    exact this
  · cases c2 : okF a1_0 a1_1
    · rw [if_neg (fun z => by rw [c2] at z; exact absurd z.2 (by decide))] at h
      have := impl_AddFractions.no2 a0_0 a0_1 a1_0 a1_1 w c1 c2
      rw [h] at this
      exact this
    · rw [if_pos ⟨c1, c2⟩] at h
      have := impl_AddFractions.yes a0_0 a0_1 a1_0 a1_1 w c1 c2
      rw [h] at this
      exact this

end Go.Proofs.YtbemhcdklmcbcaaGreatDoor.A
-- Printed by this session's oprint.py through the kit's printer.
namespace Go.Proofs.YtbemhcdklmcbcaaGreatDoor.A
open Go.RowKit Go.Proofs.YtbemhcdklmcbcaaGreatDoorW.PrintWords Go.Proofs.YtbemhcdklmcbcaaGreatDoorW.PrintLast Go.Proofs.YtbemhcdklmcbcaaGreatDoorW.PrintMore
attribute [local go_sem] max2_int min2_int max_two min_two max_three min_three max_four min_four   -- for this text's walks alone
set_option linter.unusedVariables false
set_option linter.unusedSimpArgs false

/-! ### impl_SumFractions: function 11 -/
-- given: proved by hand (sumfractions.tpl)
def impl_SumFractions.ok (c : S25) : Bool := okF c.f0 c.f1
/-- A sum of two, as AddFractions tells it. -/
def addR (n d n' d' : Int) : Int × Int × Bool := if okF n d = true ∧ okF n' d' = true then mkF (n * d' + n' * d) (d * d') else (0, 0, false)
def sumF : List S25 → Int → Int → Int × Int × Bool
  | [], n, d => (n, d, true)
  | c :: l, n, d => if (addR n d c.f0 c.f1).2.2 = true then sumF l (addR n d c.f0 c.f1).1 (addR n d c.f0 c.f1).2.1 else (0, 0, false)
def impl_SumFractions.f (l0 : List S25) : Option (Int × Int × Bool) := some (if (l0.length : Int) ≤ 64 ∧ l0.all impl_SumFractions.ok = true then sumF l0 0 1 else (0, 0, false))
theorem impl_SumFractions.bad_eq (c : S25) : ∃ k, impl_SumFractions_1.f k c.f0 c.f1 = some (!impl_SumFractions.ok c) := by
  obtain ⟨m, hm⟩ := valid_is c.f0 c.f1
  refine ⟨0 + m, ?_⟩
  unfold impl_SumFractions_1.f impl_SumFractions.ok
  rw [hm 0]; rfl
def impl_SumFractions.Found (l0 : List S25) (w : World) (e : Ending) (w' : World) : Prop := ∃ r : Int, e = .returned (.int .i64 r) ∧ (decide (r ≥ 0) = !(l0.all impl_SumFractions.ok)) ∧ Below w.heap.size w w'
theorem impl_SumFractions.all_take {l0 : List S25} {k : Nat} (hk : k < l0.length) (h : (l0.take k).all impl_SumFractions.ok = true) (hx : impl_SumFractions.ok (rd_T25 l0 k) = true) : (l0.take (k + 1)).all impl_SumFractions.ok = true := by
  rw [List.take_succ_eq_append_getElem hk, List.all_append, h]
  have : rd_T25 l0 k = l0[k] := by simp [rd_T25, hk]
  rw [this] at hx
  simp [hx]
theorem impl_SumFractions.all_bad {l0 : List S25} {k : Nat} (hk : k < l0.length) (hx : impl_SumFractions.ok (rd_T25 l0 k) = false) : l0.all impl_SumFractions.ok = false := by
  have : rd_T25 l0 k = l0[k] := by simp [rd_T25, hk]
  rw [this] at hx
  rw [List.all_eq_false]
  exact ⟨_, List.getElem_mem hk, by simp [hx]⟩
set_option maxHeartbeats 1600000 in
set_option maxRecDepth 100000 in
theorem impl_SumFractions.index (A0 : Option Addr) (c0 : Nat) (l0 : List S25) (w : World) (hr0 : Kd.C k25 w A0 l0.length l0) (hc0 : l0.length ≤ c0) :
    Calls Tryz.prog 53 #[.slice A0 l0.length c0, .func (.func 31) #[] #[]] w (impl_SumFractions.Found l0 w) := by
  have HR0 := Aside0.mk hr0
  clear hr0
  have hlen := Kd.C_max HR0.out
  have hu31 := Tryz.underlying25
  go_enter Tryz.func53, Tryz.ntmps53
  go_wp2
  go_loopw [8] (fun v8 wr => ∃ k : Nat, k ≤ l0.length ∧ v8 = .int .i64 k ∧ Aside0 ((l0.take k).all impl_SumFractions.ok = true) ∧ Below w.heap.size w wr) (fun v8 _ => l0.length - (intOf v8).toNat)
  case atStart => exact ⟨0, Nat.zero_le _, rfl, ⟨by simp⟩, Below.refl _ _⟩
  case round =>
    obtain ⟨k, hk, rfl, HA, hb⟩ := hrel
    by_cases hlt : k < l0.length
    · obtain ⟨ad, rfl, hx0, hx1⟩ := at_T25 (Kd.C_below HR0.out hb) (k : Int) (by omega) (by omega)
      rw [Int.toNat_natCast] at hx0 hx1
      obtain ⟨kb, hbad⟩ := impl_SumFractions.bad_eq (rd_T25 l0 k)
      cases hok : impl_SumFractions.ok (rd_T25 l0 k) with
      | true =>
        rw [hok] at hbad
        have HT := Aside0.mk (impl_SumFractions.all_take hlt HA.out hok)
        have HBD := Aside0.mk hbad
        clear HA hbad hok
        go_wp2_with (go_at_call 31; refine (impl_SumFractions_1.calls _ _ _ _ _ HBD.out).mono ?_; rintro e w1 ⟨rfl, hb1⟩)
        go_roundw
        case rel => exact ⟨k + 1, by omega, by go_num, HT, below_then hb hb.size hb1⟩
        case measure => simp [intOf]; omega
      | false =>
        rw [hok] at hbad
        have HT := Aside0.mk (impl_SumFractions.all_bad hlt hok)
        have HBD := Aside0.mk hbad
        clear HA hbad hok
        go_wp2_with (go_at_call 31; refine (impl_SumFractions_1.calls _ _ _ _ _ HBD.out).mono ?_; rintro e w1 ⟨rfl, hb1⟩)
        go_ret
        exact ⟨k, rfl, by rw [HT.out]; simp, below_then hb hb.size hb1⟩
    · go_wp2
      go_ret
      refine ⟨-1, rfl, ?_, hb⟩
      have : l0.take k = l0 := List.take_of_length_le (by omega)
      rw [← this, HA.out]; simp
set_option maxHeartbeats 1600000 in
set_option maxRecDepth 100000 in
theorem impl_SumFractions.contains (A0 : Option Addr) (c0 : Nat) (l0 : List S25) (w : World) (hr0 : Kd.C k25 w A0 l0.length l0) (hc0 : l0.length ≤ c0) :
    Calls Tryz.prog 30 #[.slice A0 l0.length c0, .func (.func 31) #[] #[]] w fun e w' => e = .returned (.bool (!(l0.all impl_SumFractions.ok))) ∧ Below w.heap.size w w' := by
  have HI := Aside0.mk (impl_SumFractions.index A0 c0 l0 w hr0 hc0)
  clear hr0 hc0
  go_enter Tryz.func30, Tryz.ntmps30
  go_wp2_with (go_at_call 53; refine HI.out.mono ?_; rintro e w1 ⟨r, rfl, hr, hb⟩; have HE := Aside0.mk hr; clear hr)
  go_ret
  exact ⟨by rw [← HE.out]; rfl, hb⟩
theorem sum_next {l : List S25} {k : Nat} (h : k < l.length) (n d : Int) : sumF (l.drop k) n d = if (addR n d (rd_T25 l k).f0 (rd_T25 l k).f1).2.2 = true then sumF (l.drop (k + 1)) (addR n d (rd_T25 l k).f0 (rd_T25 l k).f1).1 (addR n d (rd_T25 l k).f0 (rd_T25 l k).f1).2.1 else (0, 0, false) := by
  have e : rd_T25 l k = l[k] := by simp [rd_T25, h]
  rw [List.drop_eq_getElem_cons h, e]
  rfl
set_option maxHeartbeats 3200000 in
set_option maxRecDepth 100000 in
theorem impl_SumFractions.no (A0 : Option Addr) (c0 : Nat) (l0 : List S25) (w : World) (hr0 : Kd.C k25 w A0 l0.length l0) (hc0 : l0.length ≤ c0) (hno : ¬ ((l0.length : Int) ≤ 64 ∧ l0.all impl_SumFractions.ok = true)) :
    Calls Tryz.prog 11 #[.slice A0 l0.length c0] w fun e w' => e = .returned (.tuple #[.agg #[.int .i64 0, .int .i64 0], .bool false]) ∧ Below w.heap.size w w' := by
  have hu23 := Tryz.underlying25
  have CA := Aside0.mk (below_alloc (Below.refl w.heap.size w) zeroF)
  have BK := Aside0.mk (blk_new w zeroF)
  have HC := Aside0.mk (Kd.C_below hr0 CA.out)
  by_cases h : (l0.length : Int) ≤ 64
  · have hl : decide (64 < (l0.length : Int)) = false := decide_eq_false (by omega)
    have hl2 : decide (64 < l0.length) = false := decide_eq_false (by omega)
    have ha : l0.all impl_SumFractions.ok = false := by
      cases h2 : l0.all impl_SumFractions.ok
      · rfl
      · exact absurd ⟨h, h2⟩ hno
    clear hno hr0 h
    go_enter Tryz.func11, Tryz.ntmps11
    go_wp2_with (first
      | (go_at_call 30; refine (impl_SumFractions.contains A0 c0 l0 _ HC.out hc0).mono ?_; rintro e w1 ⟨rfl, hB⟩; rw [ha]; have C1 := Aside0.mk (below_step CA.out hB); have BK1 := Aside0.mk (blk_below BK.out hB); obtain ⟨z0, z1, z2, z3⟩ := two_cells BK1.out; clear hB))
    refine bodyPost_ret (results_ct rfl _ _ w.heap.size 25 #[.int .i64 0, .int .i64 0] (0, 0) _ rfl (by refine blk_put (cs := #[.int .i64 0, .int .i64 0]) ?_ 1 _ rfl; refine blk_put (cs := #[.int .i64 0, .int .i64 0]) ?_ 0 _ rfl; exact BK1.out) Tryz.underlying25 rfl (by kernel_rfl)) rfl ?_
    exact ⟨rfl, below_set2 C1.out (Nat.le_refl _) _ _⟩
  · have hl : decide (64 < (l0.length : Int)) = true := decide_eq_true (by omega)
    have hl2 : decide (64 < l0.length) = true := decide_eq_true (by omega)
    obtain ⟨z0, z1, z2, z3⟩ := two_cells BK.out
    clear hno hr0 h
    go_enter Tryz.func11, Tryz.ntmps11
    go_wp2
    refine bodyPost_ret (results_ct rfl _ _ w.heap.size 25 #[.int .i64 0, .int .i64 0] (0, 0) _ rfl (by first | exact BK.out | (refine blk_put (cs := #[.int .i64 0, .int .i64 0]) ?_ 1 _ rfl; refine blk_put (cs := #[.int .i64 0, .int .i64 0]) ?_ 0 _ rfl; exact BK.out)) Tryz.underlying25 rfl (by kernel_rfl)) rfl ?_
    exact ⟨rfl, by first | exact CA.out | exact below_set2 CA.out (Nat.le_refl _) _ _⟩
set_option maxHeartbeats 3200000 in
set_option maxRecDepth 100000 in
theorem impl_SumFractions.yes (A0 : Option Addr) (c0 : Nat) (l0 : List S25) (w : World) (hr0 : Kd.C k25 w A0 l0.length l0) (hc0 : l0.length ≤ c0) (h : (l0.length : Int) ≤ 64) (ha : l0.all impl_SumFractions.ok = true) :
    Calls Tryz.prog 11 #[.slice A0 l0.length c0] w fun e w' => e = .returned (.tuple #[.agg #[.int .i64 (sumF l0 0 1).1, .int .i64 (sumF l0 0 1).2.1], .bool (sumF l0 0 1).2.2]) ∧ Below w.heap.size w w' := by
  have hu23 := Tryz.underlying25
  have CA := Aside0.mk (below_alloc (Below.refl w.heap.size w) zeroF)
  have BK := Aside0.mk (blk_new w zeroF)
  have HR0 := Aside0.mk hr0
  have HC := Aside0.mk (Kd.C_below hr0 CA.out)
  have hl : decide (64 < (l0.length : Int)) = false := decide_eq_false (by omega)
  have hl2 : decide (64 < l0.length) = false := decide_eq_false (by omega)
  obtain ⟨R, hR⟩ : ∃ R, sumF l0 0 1 = R := ⟨_, rfl⟩
  have HRS := Aside0.mk hR
  rw [hR]
  clear hr0 hR
  go_enter Tryz.func11, Tryz.ntmps11
  go_wp2_with (first
    | (go_at_call 30; refine (impl_SumFractions.contains A0 c0 l0 _ HC.out hc0).mono ?_; rintro e w1 ⟨rfl, hB⟩; rw [ha]; have C1 := Aside0.mk (below_step CA.out hB); have BK1 := Aside0.mk (blk_below BK.out hB); clear hB))
  go_loopw [20] (fun v20 wr => ∃ (k : Nat) (n d : Int), k ≤ l0.length ∧ v20 = .int .i64 k ∧ Aside0 (sumF (l0.drop k) n d = R) ∧ Aside0 (Below w.heap.size w wr) ∧ Aside0 (wr.heap[w.heap.size]? = some zeroF) ∧ Aside0 (wr.heap[w1.heap.size]? = some (boxF n d))) (fun v20 _ => l0.length - (intOf v20).toNat)
  case atStart => exact ⟨0, 0, 1, Nat.zero_le _, rfl, ⟨HRS.out⟩, ⟨below_alloc C1.out _⟩, ⟨blk_alloc BK1.out _⟩, ⟨blk_new w1 _⟩⟩
  case round =>
    obtain ⟨k, n, d, hk, rfl, HS, HB, HZ, HF⟩ := hrel
    by_cases hlt : k < l0.length
    · obtain ⟨ad, rfl, hx0, hx1⟩ := at_T25 (Kd.C_below HR0.out HB.out) (k : Int) (by omega) (by omega)
      rw [Int.toNat_natCast] at hx0 hx1
      have hs := sum_next hlt n d
      rw [HS.out] at hs
      obtain ⟨n', hn'⟩ : ∃ n', (rd_T25 l0 k).f0 = n' := ⟨_, rfl⟩
      obtain ⟨d', hd'⟩ : ∃ d', (rd_T25 l0 k).f1 = d' := ⟨_, rfl⟩
      rw [hn', hd'] at hs
      rw [hn'] at hx0
      rw [hd'] at hx1
      obtain ⟨r, hr⟩ : ∃ r, addR n d n' d' = r := ⟨_, rfl⟩
      have hf : impl_AddFractions.f n d n' d' = some (r.1, r.2.1, r.2.2) := by rw [← hr]; rfl
      rw [hr] at hs
      have HF' := Aside0.mk hf
      obtain ⟨f0, f1, f2, f3⟩ := two_cells HF.out
      have hne1 : w.heap.size < wr.heap.size := blk_lt HZ.out
      have hne2 : w1.heap.size < wr.heap.size := blk_lt HF.out
      have hne3 : w.heap.size ≠ w1.heap.size := by have := blk_lt BK1.out; omega
      cases hok : r.2.2 with
      | true =>
        rw [hok, if_pos rfl] at hs
        have HS2 := Aside0.mk hs
        rw [hok] at hf
        have HF2 := Aside0.mk hf
        clear hs hok hf hn' hd' hr
        go_wp2_with (first
          | (go_at_call 6; refine (impl_AddFractions.calls n d n' d' _ _ _ _ HF2.out).mono ?_; rintro e w2 ⟨rfl, hB⟩; have B2 := Aside0.mk (below_step (below_alloc HB.out _) hB); have Z2 := Aside0.mk (blk_below (blk_alloc HZ.out _) hB); have F2 := Aside0.mk (blk_below (blk_alloc HF.out _) hB); obtain ⟨g0, g1, g2, g3⟩ := two_cells F2.out; obtain ⟨h0, h1, h2, h3⟩ := two_cells (blk_alloc F2.out (boxF r.1 r.2.1)); clear hB))
        refine ⟨⟨k + 1, r.1, r.2.1, by omega, by go_num, ⟨HS2.out.symm⟩, ⟨below_set2 (below_alloc B2.out _) (Nat.le_of_lt (blk_lt BK1.out)) _ _⟩, ⟨blk_put_ne (blk_put_ne (blk_alloc Z2.out _) hne3) hne3⟩, ⟨blk_put (cs := #[.int .i64 r.1, .int .i64 d]) (blk_put (cs := #[.int .i64 n, .int .i64 d]) (blk_alloc F2.out _) 0 _ rfl) 1 _ rfl⟩⟩, by simp [intOf]; omega⟩
      | false =>
        rw [hok, if_neg (by decide)] at hs
        subst hs
        rw [hok] at hf
        have HF2 := Aside0.mk hf
        clear hok hf hn' hd' hr
        go_wp2_with (first
          | (go_at_call 6; refine (impl_AddFractions.calls n d n' d' _ _ _ _ HF2.out).mono ?_; rintro e w2 ⟨rfl, hB⟩; have B2 := Aside0.mk (below_step (below_alloc HB.out _) hB); have Z2 := Aside0.mk (blk_below (blk_alloc HZ.out _) hB); have F2 := Aside0.mk (blk_below (blk_alloc HF.out _) hB); obtain ⟨g0, g1, g2, g3⟩ := two_cells Z2.out; obtain ⟨h0, h1, h2, h3⟩ := two_cells (blk_alloc Z2.out (boxF r.1 r.2.1)); clear hB))
        refine bodyPost_ret (results_ct rfl _ _ w.heap.size 25 #[.int .i64 0, .int .i64 0] (0, 0) _ rfl (by refine blk_put (cs := #[.int .i64 0, .int .i64 0]) ?_ 1 _ rfl; refine blk_put (cs := #[.int .i64 0, .int .i64 0]) ?_ 0 _ rfl; exact blk_alloc Z2.out _) Tryz.underlying25 rfl (by kernel_rfl)) rfl ?_
        exact ⟨rfl, below_set2 (below_alloc B2.out _) (Nat.le_refl _) _ _⟩
    · have e : k = l0.length := by omega
      subst e
      have hs := HS.out
      rw [List.drop_length] at hs
      subst hs
      obtain ⟨f0, f1, f2, f3⟩ := two_cells HF.out
      obtain ⟨g0, g1, g2, g3⟩ := two_cells HZ.out
      have hne3 : w.heap.size ≠ w1.heap.size := by have := blk_lt BK1.out; omega
      clear HRS
      go_wp2
      refine bodyPost_ret (results_ct rfl _ _ w.heap.size 25 #[.int .i64 n, .int .i64 d] (0, 0) _ rfl (by (repeat (first | refine blk_drewN ?_ _ | refine blk_drew ?_)); refine blk_put (cs := #[.int .i64 n, .int .i64 0]) ?_ 1 _ rfl; refine blk_put (cs := #[.int .i64 0, .int .i64 0]) ?_ 0 _ rfl; exact HZ.out) Tryz.underlying25 rfl (by kernel_rfl)) rfl ?_
      exact ⟨rfl, below_set2 HB.out (Nat.le_refl _) _ _⟩
theorem impl_SumFractions.calls (A0 : Option Addr) (c0 : Nat) (l0 : List S25) (r1 : Int) (r2 : Int) (r3 : Bool) (w : World) (hr0 : Kd.C k25 w A0 l0.length l0) (hc0 : l0.length ≤ c0) (h : impl_SumFractions.f l0 = some (r1, r2, r3)) :
    Calls Tryz.prog 11 #[.slice A0 l0.length c0] w fun e w' => e = .returned (.tuple #[.agg #[.int .i64 r1, .int .i64 r2], .bool r3]) ∧ Below w.heap.size w w' := by
  have h := Option.some.inj h
  by_cases c : (l0.length : Int) ≤ 64 ∧ l0.all impl_SumFractions.ok = true
  · rw [if_pos c] at h
    have := impl_SumFractions.yes A0 c0 l0 w hr0 hc0 c.1 c.2
    rw [h] at this
    exact this
  · rw [if_neg c] at h
    have := impl_SumFractions.no A0 c0 l0 w hr0 hc0 c
    injection h with h1 h2
    injection h2 with h2 h3
    subst h1; subst h2; subst h3
    exact this

end Go.Proofs.YtbemhcdklmcbcaaGreatDoor.A
-- Printed by this session's oprint.py through the kit's printer.
namespace Go.Proofs.YtbemhcdklmcbcaaGreatDoor.A
open Go.RowKit Go.Proofs.YtbemhcdklmcbcaaGreatDoorW.PrintWords Go.Proofs.YtbemhcdklmcbcaaGreatDoorW.PrintLast Go.Proofs.YtbemhcdklmcbcaaGreatDoorW.PrintMore
attribute [local go_sem] max2_int min2_int max_two min_two max_three min_three max_four min_four   -- for this text's walks alone
set_option linter.unusedVariables false
set_option linter.unusedSimpArgs false

/-! ### impl_SubFractions: function 7 -/
-- given: proved by hand (subfractions.tpl)
def impl_SubFractions.f (n d n' d' : Int) : Option (Int × Int × Bool) := some (if okF n d = true ∧ okF n' d' = true then mkF (n * d' - n' * d) (d * d') else (0, 0, false))
set_option maxHeartbeats 3200000 in
set_option maxRecDepth 100000 in
theorem impl_SubFractions.no1 (n d n' d' : Int) (W : World) (c1 : okF n d = false) :
    Calls Tryz.prog 7 #[.agg #[.int .i64 n, .int .i64 d], .agg #[.int .i64 n', .int .i64 d']] W fun e w' => e = .returned (.tuple #[.agg #[.int .i64 (((0, 0, false) : Int × Int × Bool)).1, .int .i64 (((0, 0, false) : Int × Int × Bool)).2.1], .bool (((0, 0, false) : Int × Int × Bool)).2.2]) ∧ Below W.heap.size W w' := by
  have hu23 := Tryz.underlying25
  have B0 := Aside0.mk (below_box W n d n' d')
  have X0 := Aside0.mk (box0 W n d n' d')
  have Y0 := Aside0.mk (box1 W n d n' d')
  have Z0 := Aside0.mk (box2 W n d n' d')
  go_enter Tryz.func7, Tryz.ntmps7
  go_wp2_with (first
    | (go_at_call 13; refine (impl_ValidFraction.law n d _).mono ?_; rintro e w1 ⟨rfl, hB⟩; rw [c1]; have B1 := Aside0.mk (below_step B0.out hB); have X1 := Aside0.mk (blk_below X0.out hB); have Y1 := Aside0.mk (blk_below Y0.out hB); have Z1 := Aside0.mk (blk_below Z0.out hB); obtain ⟨p0, p1, -, -⟩ := two_cells X1.out; obtain ⟨q0, q1, -, -⟩ := two_cells Y1.out; obtain ⟨r0, r1, r2, r3⟩ := two_cells Z1.out; clear hB))
  refine bodyPost_ret (results_ct rfl _ _ (W.heap.size + 2) 25 #[.int .i64 0, .int .i64 0] (0, 0) _ rfl (by (repeat (first | refine blk_drewN ?_ _ | refine blk_drew ?_)); refine blk_put (cs := #[.int .i64 0, .int .i64 0]) ?_ 1 _ rfl; refine blk_put (cs := #[.int .i64 0, .int .i64 0]) ?_ 0 _ rfl; exact Z1.out) Tryz.underlying25 rfl (by kernel_rfl)) rfl ?_
  exact ⟨rfl, by first | exact below_set2 B1.out (by omega) _ _ | exact below_drew (below_set2 B1.out (by omega) _ _)⟩
set_option maxHeartbeats 3200000 in
set_option maxRecDepth 100000 in
theorem impl_SubFractions.no2 (n d n' d' : Int) (W : World) (c1 : okF n d = true) (c2 : okF n' d' = false) :
    Calls Tryz.prog 7 #[.agg #[.int .i64 n, .int .i64 d], .agg #[.int .i64 n', .int .i64 d']] W fun e w' => e = .returned (.tuple #[.agg #[.int .i64 (((0, 0, false) : Int × Int × Bool)).1, .int .i64 (((0, 0, false) : Int × Int × Bool)).2.1], .bool (((0, 0, false) : Int × Int × Bool)).2.2]) ∧ Below W.heap.size W w' := by
  have hu23 := Tryz.underlying25
  have B0 := Aside0.mk (below_box W n d n' d')
  have X0 := Aside0.mk (box0 W n d n' d')
  have Y0 := Aside0.mk (box1 W n d n' d')
  have Z0 := Aside0.mk (box2 W n d n' d')
  go_enter Tryz.func7, Tryz.ntmps7
  go_wp2_with (first
    | (go_at_call 13; refine (impl_ValidFraction.law n' d' w1).mono ?_; rintro e w2 ⟨rfl, hB⟩; rw [c2]; have B2 := Aside0.mk (below_step B1.out hB); have X2 := Aside0.mk (blk_below X1.out hB); have Y2 := Aside0.mk (blk_below Y1.out hB); have Z2 := Aside0.mk (blk_below Z1.out hB); obtain ⟨s0, s1, -, -⟩ := two_cells X2.out; obtain ⟨t0, t1, -, -⟩ := two_cells Y2.out; obtain ⟨y0, y1, y2, y3⟩ := two_cells Z2.out; clear hB)
    | (go_at_call 13; refine (impl_ValidFraction.law n d _).mono ?_; rintro e w1 ⟨rfl, hB⟩; rw [c1]; have B1 := Aside0.mk (below_step B0.out hB); have X1 := Aside0.mk (blk_below X0.out hB); have Y1 := Aside0.mk (blk_below Y0.out hB); have Z1 := Aside0.mk (blk_below Z0.out hB); obtain ⟨p0, p1, -, -⟩ := two_cells X1.out; obtain ⟨q0, q1, -, -⟩ := two_cells Y1.out; obtain ⟨r0, r1, r2, r3⟩ := two_cells Z1.out; clear hB))
  refine bodyPost_ret (results_ct rfl _ _ (W.heap.size + 2) 25 #[.int .i64 0, .int .i64 0] (0, 0) _ rfl (by (repeat (first | refine blk_drewN ?_ _ | refine blk_drew ?_)); refine blk_put (cs := #[.int .i64 0, .int .i64 0]) ?_ 1 _ rfl; refine blk_put (cs := #[.int .i64 0, .int .i64 0]) ?_ 0 _ rfl; exact Z2.out) Tryz.underlying25 rfl (by kernel_rfl)) rfl ?_
  exact ⟨rfl, by first | exact below_set2 B2.out (by omega) _ _ | exact below_drew (below_set2 B2.out (by omega) _ _)⟩
set_option maxHeartbeats 3200000 in
set_option maxRecDepth 100000 in
theorem impl_SubFractions.yes (n d n' d' : Int) (W : World) (c1 : okF n d = true) (c2 : okF n' d' = true) :
    Calls Tryz.prog 7 #[.agg #[.int .i64 n, .int .i64 d], .agg #[.int .i64 n', .int .i64 d']] W fun e w' => e = .returned (.tuple #[.agg #[.int .i64 (mkF (n * d' - n' * d) (d * d')).1, .int .i64 (mkF (n * d' - n' * d) (d * d')).2.1], .bool (mkF (n * d' - n' * d) (d * d')).2.2]) ∧ Below W.heap.size W w' := by
  have hu23 := Tryz.underlying25
  have B0 := Aside0.mk (below_box W n d n' d')
  have X0 := Aside0.mk (box0 W n d n' d')
  have Y0 := Aside0.mk (box1 W n d n' d')
  have Z0 := Aside0.mk (box2 W n d n' d')
  obtain ⟨pn, pd, a0⟩ := okF_parts c1
  obtain ⟨pn', pd', b0⟩ := okF_parts c2
  have hr1 := Aside0.mk (fun w => rat_ok n d w c1)
  have hr2 := Aside0.mk (fun w => rat_ok n' d' w c2)
  have ln := lo_part pn
  have ld := lo_part pd
  have ln' := lo_part pn'
  have ld' := lo_part pd'
  have hop := Aside0.mk (fun g gx gy w hb hx hy => impl_exactRat_Sub.law g gx gy n d n' d' (.bool false) (.slice none 0 0) (.slice none 0 0) w hb hx hy ln ld ln' ld')
  have f1 := Aside0.mk (show Fits2 (n * d' - n' * d) from fits2_sub pn pd' pn' pd)
  have f2 := Aside0.mk (show Fits2 (d * d') from fits2_mul pd pd')
  clear a0 b0 pn pd pn' pd' ln ld ln' ld'
  go_enter Tryz.func7, Tryz.ntmps7
  go_wp2_with (first
    | (go_at_call 13; refine (impl_ValidFraction.law n' d' w1).mono ?_; rintro e w2 ⟨rfl, hB⟩; rw [c2]; have B2 := Aside0.mk (below_step B1.out hB); have X2 := Aside0.mk (blk_below X1.out hB); have Y2 := Aside0.mk (blk_below Y1.out hB); have Z2 := Aside0.mk (blk_below Z1.out hB); obtain ⟨s0, s1, -, -⟩ := two_cells X2.out; obtain ⟨t0, t1, -, -⟩ := two_cells Y2.out; obtain ⟨y0, y1, y2, y3⟩ := two_cells Z2.out; clear hB)
    | (go_at_call 13; refine (impl_ValidFraction.law n d _).mono ?_; rintro e w1 ⟨rfl, hB⟩; rw [c1]; have B1 := Aside0.mk (below_step B0.out hB); have X1 := Aside0.mk (blk_below X0.out hB); have Y1 := Aside0.mk (blk_below Y0.out hB); have Z1 := Aside0.mk (blk_below Z0.out hB); obtain ⟨p0, p1, -, -⟩ := two_cells X1.out; obtain ⟨q0, q1, -, -⟩ := two_cells Y1.out; obtain ⟨r0, r1, r2, r3⟩ := two_cells Z1.out; clear hB))
  go_region_held3 (fun w' => w'.cell? ⟨W.heap.size, 0, none⟩ = some (.int .i64 n) ∧ w'.cell? ⟨W.heap.size, 1, none⟩ = some (.int .i64 d) ∧ w'.cell? ⟨W.heap.size + 1, 0, none⟩ = some (.int .i64 n') ∧ w'.cell? ⟨W.heap.size + 1, 1, none⟩ = some (.int .i64 d'))
    (first
      | exact ⟨(P7.out _ _).1, (P7.out _ _).2.1, (P7.out _ _).2.2.1, (P7.out _ _).2.2.2⟩
      | exact ⟨P6.out.1, P6.out.2.1, P6.out.2.2.1, P6.out.2.2.2⟩
      | exact ⟨P5.out.1, P5.out.2.1, P5.out.2.2.1, P5.out.2.2.2⟩
      | exact ⟨P4.out.1, P4.out.2.1, P4.out.2.2.1, P4.out.2.2.2⟩
      | exact ⟨P4b.out.1, P4b.out.2.1, P4b.out.2.2.1, P4b.out.2.2.2⟩
      | exact ⟨P4c.out.1, P4c.out.2.1, P4c.out.2.2.1, P4c.out.2.2.2⟩
      | exact ⟨P3.out.1, P3.out.2.1, P3.out.2.2.1, P3.out.2.2.2⟩
      | exact ⟨P3b.out.1, P3b.out.2.1, P3b.out.2.2.1, P3b.out.2.2.2⟩
      | exact ⟨s0, s1, t0, t1⟩
      | exact four_cells (blk_alloc (w := w2.drew) X2.out zeroR) (blk_alloc (w := w2.drew) Y2.out zeroR)
      | exact four_cells (blk_alloc (w := v3) X3b.out zeroR) (blk_alloc (w := v3) Y3b.out zeroR)
      | exact four_cells (blk_alloc (w := u4) X4c.out zeroR) (blk_alloc (w := u4) Y4c.out zeroR)
      | go_keep)
    (first
      | (go_at_call 24; refine (hr2.out w3).mono ?_; rintro e w4 ⟨g24, rfl, j1_, j2_, j3_⟩; have R24 := Aside0.mk j2_; have R14 := Aside0.mk ((R13.out).below j3_); have C4 := Aside0.mk (below_step C3.out j3_); have X4 := Aside0.mk (blk_below X3.out j3_); have Y4 := Aside0.mk (blk_below Y3.out j3_); have Z4 := Aside0.mk (blk_below Z3.out j3_); have P4 := Aside0.mk (four_cells X4.out Y4.out); have N4 := Aside0.mk (blk_below N3.out j3_); clear j1_ j2_ j3_)
      | (go_at_call 24; refine (hr2.out (v3.alloc zeroR)).mono ?_; rintro e v4 ⟨g24b, rfl, j1_, j2_, j3_⟩; have R24b := Aside0.mk j2_; have R14b := Aside0.mk (((R13b.out.below (below_alloc (Below.refl _ _) zeroR))).below j3_); have C4b := Aside0.mk (below_step (below_alloc C3b.out zeroR) j3_); have X4b := Aside0.mk (blk_below (blk_alloc (w := v3) X3b.out zeroR) j3_); have Y4b := Aside0.mk (blk_below (blk_alloc (w := v3) Y3b.out zeroR) j3_); have Z4b := Aside0.mk (blk_below (blk_alloc (w := v3) Z3b.out zeroR) j3_); have P4b := Aside0.mk (four_cells X4b.out Y4b.out); have N4b := Aside0.mk (blk_below (blk_new v3 zeroR) j3_); clear j1_ j2_ j3_)
      | (go_at_call 24; refine (hr2.out v3).mono ?_; rintro e u4 ⟨g24c, rfl, j1_, j2_, j3_⟩; have R24c := Aside0.mk j2_; have R14c := Aside0.mk ((R13b.out).below j3_); have C4c := Aside0.mk (below_step C3b.out j3_); have X4c := Aside0.mk (blk_below X3b.out j3_); have Y4c := Aside0.mk (blk_below Y3b.out j3_); have Z4c := Aside0.mk (blk_below Z3b.out j3_); have P4c := Aside0.mk (four_cells X4c.out Y4c.out); have S4c := Aside0.mk j3_.size; clear j1_ j2_ j3_)
      | (go_at_call 24; refine (hr1.out (w2.drew.alloc zeroR)).mono ?_; rintro e w3 ⟨g13, rfl, j1_, j2_, j3_⟩; have R13 := Aside0.mk j2_; have C3 := Aside0.mk (below_step (below_alloc (below_drew B2.out) zeroR) j3_); have X3 := Aside0.mk (blk_below (blk_alloc (w := w2.drew) X2.out zeroR) j3_); have Y3 := Aside0.mk (blk_below (blk_alloc (w := w2.drew) Y2.out zeroR) j3_); have Z3 := Aside0.mk (blk_below (blk_alloc (w := w2.drew) Z2.out zeroR) j3_); have P3 := Aside0.mk (four_cells X3.out Y3.out); have N3 := Aside0.mk (show w3.heap[w2.heap.size]? = some zeroR from blk_below (blk_new w2.drew zeroR) j3_); clear j1_ j2_ j3_)
      | (go_at_call 24; refine (hr1.out w2.drew).mono ?_; rintro e v3 ⟨g13b, rfl, j1_, j2_, j3_⟩; have R13b := Aside0.mk j2_; have C3b := Aside0.mk (below_step (below_drew B2.out) j3_); have X3b := Aside0.mk (blk_below (w := w2.drew) X2.out j3_); have Y3b := Aside0.mk (blk_below (w := w2.drew) Y2.out j3_); have Z3b := Aside0.mk (blk_below (w := w2.drew) Z2.out j3_); have P3b := Aside0.mk (four_cells X3b.out Y3b.out); have S3b := Aside0.mk (show w2.heap.size ≤ v3.heap.size from j3_.size); clear j1_ j2_ j3_)
      | (go_at_call 25; refine (hop.out w2.heap.size g13 g24 w4 N4.out R14.out R24.out).mono ?_; rintro e w5 ⟨rfl, j1_, j2_⟩; have R5 := Aside0.mk j1_; have C5 := Aside0.mk (below_at C4.out j2_ (by have := B2.out.size; skip; omega)); have X5 := Aside0.mk (blk_grown X4.out j2_ (by have := blk_lt X2.out; skip; simp; omega)); have Y5 := Aside0.mk (blk_grown Y4.out j2_ (by have := blk_lt Y2.out; skip; simp; omega)); have Z5 := Aside0.mk (blk_grown Z4.out j2_ (by have := blk_lt Z2.out; skip; simp; omega)); have P5 := Aside0.mk (four_cells X5.out Y5.out); clear j1_ j2_)
      | (go_at_call 25; refine (hop.out v3.heap.size g13b g24b v4 N4b.out R14b.out R24b.out).mono ?_; rintro e w5 ⟨rfl, j1_, j2_⟩; have R5 := Aside0.mk j1_; have C5 := Aside0.mk (below_at C4b.out j2_ (by have := B2.out.size; have := S3b.out; omega)); have X5 := Aside0.mk (blk_grown X4b.out j2_ (by have := blk_lt X2.out; have := S3b.out; simp; omega)); have Y5 := Aside0.mk (blk_grown Y4b.out j2_ (by have := blk_lt Y2.out; have := S3b.out; simp; omega)); have Z5 := Aside0.mk (blk_grown Z4b.out j2_ (by have := blk_lt Z2.out; have := S3b.out; simp; omega)); have P5 := Aside0.mk (four_cells X5.out Y5.out); clear j1_ j2_)
      | (go_at_call 25; refine (hop.out u4.heap.size g13b g24c (u4.alloc zeroR) (blk_new u4 zeroR) (R14c.out.below (below_alloc (Below.refl _ _) zeroR)) (R24c.out.below (below_alloc (Below.refl _ _) zeroR))).mono ?_; rintro e w5 ⟨rfl, j1_, j2_⟩; have R5 := Aside0.mk j1_; have C5 := Aside0.mk (below_at (below_alloc C4c.out zeroR) j2_ (by have := B2.out.size; have := S3b.out; have := S4c.out; omega)); have X5 := Aside0.mk (blk_grown (blk_alloc (w := u4) X4c.out zeroR) j2_ (by have := blk_lt X2.out; have := S3b.out; have := S4c.out; simp; omega)); have Y5 := Aside0.mk (blk_grown (blk_alloc (w := u4) Y4c.out zeroR) j2_ (by have := blk_lt Y2.out; have := S3b.out; have := S4c.out; simp; omega)); have Z5 := Aside0.mk (blk_grown (blk_alloc (w := u4) Z4c.out zeroR) j2_ (by have := blk_lt Z2.out; have := S3b.out; have := S4c.out; simp; omega)); have P5 := Aside0.mk (four_cells X5.out Y5.out); clear j1_ j2_)
      | (go_at_call 22; refine (checked_new _ _ _ w5 R5.out f1.out f2.out).mono ?_; rintro e w6 ⟨rfl, j3_⟩; have C6 := Aside0.mk (below_step C5.out j3_); have X6 := Aside0.mk (blk_below X5.out j3_); have Y6 := Aside0.mk (blk_below Y5.out j3_); have Z6 := Aside0.mk (blk_below Z5.out j3_); have P6 := Aside0.mk (four_cells X6.out Y6.out); have P7 := Aside0.mk (fun a b => four_cells (blk_put_ne (blk_put_ne (i := 0) (v := a) X6.out (show W.heap.size ≠ W.heap.size + 2 by omega)) (i := 1) (v := b) (show W.heap.size ≠ W.heap.size + 2 by omega)) (blk_put_ne (blk_put_ne (i := 0) (v := a) Y6.out (show W.heap.size + 1 ≠ W.heap.size + 2 by omega)) (i := 1) (v := b) (show W.heap.size + 1 ≠ W.heap.size + 2 by omega))); obtain ⟨v0_, v1_, v2_, v3_⟩ := two_cells Z6.out; clear j3_))
  all_goals (try go_wp2)
  all_goals (
    refine bodyPost_ret (results_ct rfl _ _ (W.heap.size + 2) 25 #[.int .i64 (mkF (n * d' - n' * d) (d * d')).1, .int .i64 (mkF (n * d' - n' * d) (d * d')).2.1] (0, 0) _ rfl (by (repeat (first | refine blk_drewN ?_ _ | refine blk_drew ?_)); refine blk_put (cs := #[.int .i64 (mkF (n * d' - n' * d) (d * d')).1, .int .i64 0]) ?_ 1 _ rfl; refine blk_put (cs := #[.int .i64 0, .int .i64 0]) ?_ 0 _ rfl; exact Z6.out) Tryz.underlying25 rfl (by kernel_rfl)) rfl ?_
    exact ⟨rfl, by first | exact below_set2 C6.out (by omega) _ _ | exact below_drew (below_set2 C6.out (by omega) _ _)⟩)
theorem impl_SubFractions.calls (a0_0 : Int) (a0_1 : Int) (a1_0 : Int) (a1_1 : Int) (r1 : Int) (r2 : Int) (r3 : Bool) (w : World) (h : impl_SubFractions.f a0_0 a0_1 a1_0 a1_1 = some (r1, r2, r3)) :
    Calls Tryz.prog 7 #[.agg #[.int .i64 a0_0, .int .i64 a0_1], .agg #[.int .i64 a1_0, .int .i64 a1_1]] w fun e w' => e = .returned (.tuple #[.agg #[.int .i64 r1, .int .i64 r2], .bool r3]) ∧ Below w.heap.size w w' := by
  have h := Option.some.inj h
  cases c1 : okF a0_0 a0_1
  · rw [if_neg (fun z => by rw [c1] at z; exact absurd z.1 (by decide))] at h
    have := impl_SubFractions.no1 a0_0 a0_1 a1_0 a1_1 w c1
    rw [h] at this
    exact this
  · cases c2 : okF a1_0 a1_1
    · rw [if_neg (fun z => by rw [c2] at z; exact absurd z.2 (by decide))] at h
      have := impl_SubFractions.no2 a0_0 a0_1 a1_0 a1_1 w c1 c2
      rw [h] at this
      exact this
    · rw [if_pos ⟨c1, c2⟩] at h
      have := impl_SubFractions.yes a0_0 a0_1 a1_0 a1_1 w c1 c2
      rw [h] at this
      exact this

end Go.Proofs.YtbemhcdklmcbcaaGreatDoor.A
-- Printed by this session's oprint.py through the kit's printer.
namespace Go.Proofs.YtbemhcdklmcbcaaGreatDoor.A
open Go.RowKit Go.Proofs.YtbemhcdklmcbcaaGreatDoorW.PrintWords Go.Proofs.YtbemhcdklmcbcaaGreatDoorW.PrintLast Go.Proofs.YtbemhcdklmcbcaaGreatDoorW.PrintMore
attribute [local go_sem] max2_int min2_int max_two min_two max_three min_three max_four min_four   -- for this text's walks alone
set_option linter.unusedVariables false
set_option linter.unusedSimpArgs false

/-! ### impl_MulFractions: function 8 -/
-- given: proved by hand (mulfractions.tpl)
def impl_MulFractions.f (n d n' d' : Int) : Option (Int × Int × Bool) := some (if okF n d = true ∧ okF n' d' = true then mkF (n * n') (d * d') else (0, 0, false))
set_option maxHeartbeats 3200000 in
set_option maxRecDepth 100000 in
theorem impl_MulFractions.no1 (n d n' d' : Int) (W : World) (c1 : okF n d = false) :
    Calls Tryz.prog 8 #[.agg #[.int .i64 n, .int .i64 d], .agg #[.int .i64 n', .int .i64 d']] W fun e w' => e = .returned (.tuple #[.agg #[.int .i64 (((0, 0, false) : Int × Int × Bool)).1, .int .i64 (((0, 0, false) : Int × Int × Bool)).2.1], .bool (((0, 0, false) : Int × Int × Bool)).2.2]) ∧ Below W.heap.size W w' := by
  have hu23 := Tryz.underlying25
  have B0 := Aside0.mk (below_box W n d n' d')
  have X0 := Aside0.mk (box0 W n d n' d')
  have Y0 := Aside0.mk (box1 W n d n' d')
  have Z0 := Aside0.mk (box2 W n d n' d')
  go_enter Tryz.func8, Tryz.ntmps8
  go_wp2_with (first
    | (go_at_call 13; refine (impl_ValidFraction.law n d _).mono ?_; rintro e w1 ⟨rfl, hB⟩; rw [c1]; have B1 := Aside0.mk (below_step B0.out hB); have X1 := Aside0.mk (blk_below X0.out hB); have Y1 := Aside0.mk (blk_below Y0.out hB); have Z1 := Aside0.mk (blk_below Z0.out hB); obtain ⟨p0, p1, -, -⟩ := two_cells X1.out; obtain ⟨q0, q1, -, -⟩ := two_cells Y1.out; obtain ⟨r0, r1, r2, r3⟩ := two_cells Z1.out; clear hB))
  refine bodyPost_ret (results_ct rfl _ _ (W.heap.size + 2) 25 #[.int .i64 0, .int .i64 0] (0, 0) _ rfl (by (repeat (first | refine blk_drewN ?_ _ | refine blk_drew ?_)); refine blk_put (cs := #[.int .i64 0, .int .i64 0]) ?_ 1 _ rfl; refine blk_put (cs := #[.int .i64 0, .int .i64 0]) ?_ 0 _ rfl; exact Z1.out) Tryz.underlying25 rfl (by kernel_rfl)) rfl ?_
  exact ⟨rfl, by first | exact below_set2 B1.out (by omega) _ _ | exact below_drew (below_set2 B1.out (by omega) _ _)⟩
set_option maxHeartbeats 3200000 in
set_option maxRecDepth 100000 in
theorem impl_MulFractions.no2 (n d n' d' : Int) (W : World) (c1 : okF n d = true) (c2 : okF n' d' = false) :
    Calls Tryz.prog 8 #[.agg #[.int .i64 n, .int .i64 d], .agg #[.int .i64 n', .int .i64 d']] W fun e w' => e = .returned (.tuple #[.agg #[.int .i64 (((0, 0, false) : Int × Int × Bool)).1, .int .i64 (((0, 0, false) : Int × Int × Bool)).2.1], .bool (((0, 0, false) : Int × Int × Bool)).2.2]) ∧ Below W.heap.size W w' := by
  have hu23 := Tryz.underlying25
  have B0 := Aside0.mk (below_box W n d n' d')
  have X0 := Aside0.mk (box0 W n d n' d')
  have Y0 := Aside0.mk (box1 W n d n' d')
  have Z0 := Aside0.mk (box2 W n d n' d')
  go_enter Tryz.func8, Tryz.ntmps8
  go_wp2_with (first
    | (go_at_call 13; refine (impl_ValidFraction.law n' d' w1).mono ?_; rintro e w2 ⟨rfl, hB⟩; rw [c2]; have B2 := Aside0.mk (below_step B1.out hB); have X2 := Aside0.mk (blk_below X1.out hB); have Y2 := Aside0.mk (blk_below Y1.out hB); have Z2 := Aside0.mk (blk_below Z1.out hB); obtain ⟨s0, s1, -, -⟩ := two_cells X2.out; obtain ⟨t0, t1, -, -⟩ := two_cells Y2.out; obtain ⟨y0, y1, y2, y3⟩ := two_cells Z2.out; clear hB)
    | (go_at_call 13; refine (impl_ValidFraction.law n d _).mono ?_; rintro e w1 ⟨rfl, hB⟩; rw [c1]; have B1 := Aside0.mk (below_step B0.out hB); have X1 := Aside0.mk (blk_below X0.out hB); have Y1 := Aside0.mk (blk_below Y0.out hB); have Z1 := Aside0.mk (blk_below Z0.out hB); obtain ⟨p0, p1, -, -⟩ := two_cells X1.out; obtain ⟨q0, q1, -, -⟩ := two_cells Y1.out; obtain ⟨r0, r1, r2, r3⟩ := two_cells Z1.out; clear hB))
  refine bodyPost_ret (results_ct rfl _ _ (W.heap.size + 2) 25 #[.int .i64 0, .int .i64 0] (0, 0) _ rfl (by (repeat (first | refine blk_drewN ?_ _ | refine blk_drew ?_)); refine blk_put (cs := #[.int .i64 0, .int .i64 0]) ?_ 1 _ rfl; refine blk_put (cs := #[.int .i64 0, .int .i64 0]) ?_ 0 _ rfl; exact Z2.out) Tryz.underlying25 rfl (by kernel_rfl)) rfl ?_
  exact ⟨rfl, by first | exact below_set2 B2.out (by omega) _ _ | exact below_drew (below_set2 B2.out (by omega) _ _)⟩
set_option maxHeartbeats 3200000 in
set_option maxRecDepth 100000 in
theorem impl_MulFractions.yes (n d n' d' : Int) (W : World) (c1 : okF n d = true) (c2 : okF n' d' = true) :
    Calls Tryz.prog 8 #[.agg #[.int .i64 n, .int .i64 d], .agg #[.int .i64 n', .int .i64 d']] W fun e w' => e = .returned (.tuple #[.agg #[.int .i64 (mkF (n * n') (d * d')).1, .int .i64 (mkF (n * n') (d * d')).2.1], .bool (mkF (n * n') (d * d')).2.2]) ∧ Below W.heap.size W w' := by
  have hu23 := Tryz.underlying25
  have B0 := Aside0.mk (below_box W n d n' d')
  have X0 := Aside0.mk (box0 W n d n' d')
  have Y0 := Aside0.mk (box1 W n d n' d')
  have Z0 := Aside0.mk (box2 W n d n' d')
  obtain ⟨pn, pd, a0⟩ := okF_parts c1
  obtain ⟨pn', pd', b0⟩ := okF_parts c2
  have hr1 := Aside0.mk (fun w => rat_ok n d w c1)
  have hr2 := Aside0.mk (fun w => rat_ok n' d' w c2)
  have ln := lo_part pn
  have ld := lo_part pd
  have ln' := lo_part pn'
  have ld' := lo_part pd'
  have hop := Aside0.mk (fun g gx gy w hb hx hy => impl_exactRat_Mul.law g gx gy n d n' d' (.bool false) (.slice none 0 0) (.slice none 0 0) w hb hx hy ln ld ln' ld')
  have f1 := Aside0.mk (show Fits2 (n * n') from fits2_mul pn pn')
  have f2 := Aside0.mk (show Fits2 (d * d') from fits2_mul pd pd')
  clear a0 b0 pn pd pn' pd' ln ld ln' ld'
  go_enter Tryz.func8, Tryz.ntmps8
  go_wp2_with (first
    | (go_at_call 13; refine (impl_ValidFraction.law n' d' w1).mono ?_; rintro e w2 ⟨rfl, hB⟩; rw [c2]; have B2 := Aside0.mk (below_step B1.out hB); have X2 := Aside0.mk (blk_below X1.out hB); have Y2 := Aside0.mk (blk_below Y1.out hB); have Z2 := Aside0.mk (blk_below Z1.out hB); obtain ⟨s0, s1, -, -⟩ := two_cells X2.out; obtain ⟨t0, t1, -, -⟩ := two_cells Y2.out; obtain ⟨y0, y1, y2, y3⟩ := two_cells Z2.out; clear hB)
    | (go_at_call 13; refine (impl_ValidFraction.law n d _).mono ?_; rintro e w1 ⟨rfl, hB⟩; rw [c1]; have B1 := Aside0.mk (below_step B0.out hB); have X1 := Aside0.mk (blk_below X0.out hB); have Y1 := Aside0.mk (blk_below Y0.out hB); have Z1 := Aside0.mk (blk_below Z0.out hB); obtain ⟨p0, p1, -, -⟩ := two_cells X1.out; obtain ⟨q0, q1, -, -⟩ := two_cells Y1.out; obtain ⟨r0, r1, r2, r3⟩ := two_cells Z1.out; clear hB))
  go_region_held3 (fun w' => w'.cell? ⟨W.heap.size, 0, none⟩ = some (.int .i64 n) ∧ w'.cell? ⟨W.heap.size, 1, none⟩ = some (.int .i64 d) ∧ w'.cell? ⟨W.heap.size + 1, 0, none⟩ = some (.int .i64 n') ∧ w'.cell? ⟨W.heap.size + 1, 1, none⟩ = some (.int .i64 d'))
    (first
      | exact ⟨(P7.out _ _).1, (P7.out _ _).2.1, (P7.out _ _).2.2.1, (P7.out _ _).2.2.2⟩
      | exact ⟨P6.out.1, P6.out.2.1, P6.out.2.2.1, P6.out.2.2.2⟩
      | exact ⟨P5.out.1, P5.out.2.1, P5.out.2.2.1, P5.out.2.2.2⟩
      | exact ⟨P4.out.1, P4.out.2.1, P4.out.2.2.1, P4.out.2.2.2⟩
      | exact ⟨P4b.out.1, P4b.out.2.1, P4b.out.2.2.1, P4b.out.2.2.2⟩
      | exact ⟨P4c.out.1, P4c.out.2.1, P4c.out.2.2.1, P4c.out.2.2.2⟩
      | exact ⟨P3.out.1, P3.out.2.1, P3.out.2.2.1, P3.out.2.2.2⟩
      | exact ⟨P3b.out.1, P3b.out.2.1, P3b.out.2.2.1, P3b.out.2.2.2⟩
      | exact ⟨s0, s1, t0, t1⟩
      | exact four_cells (blk_alloc (w := w2.drew) X2.out zeroR) (blk_alloc (w := w2.drew) Y2.out zeroR)
      | exact four_cells (blk_alloc (w := v3) X3b.out zeroR) (blk_alloc (w := v3) Y3b.out zeroR)
      | exact four_cells (blk_alloc (w := u4) X4c.out zeroR) (blk_alloc (w := u4) Y4c.out zeroR)
      | go_keep)
    (first
      | (go_at_call 24; refine (hr2.out w3).mono ?_; rintro e w4 ⟨g24, rfl, j1_, j2_, j3_⟩; have R24 := Aside0.mk j2_; have R14 := Aside0.mk ((R13.out).below j3_); have C4 := Aside0.mk (below_step C3.out j3_); have X4 := Aside0.mk (blk_below X3.out j3_); have Y4 := Aside0.mk (blk_below Y3.out j3_); have Z4 := Aside0.mk (blk_below Z3.out j3_); have P4 := Aside0.mk (four_cells X4.out Y4.out); have N4 := Aside0.mk (blk_below N3.out j3_); clear j1_ j2_ j3_)
      | (go_at_call 24; refine (hr2.out (v3.alloc zeroR)).mono ?_; rintro e v4 ⟨g24b, rfl, j1_, j2_, j3_⟩; have R24b := Aside0.mk j2_; have R14b := Aside0.mk (((R13b.out.below (below_alloc (Below.refl _ _) zeroR))).below j3_); have C4b := Aside0.mk (below_step (below_alloc C3b.out zeroR) j3_); have X4b := Aside0.mk (blk_below (blk_alloc (w := v3) X3b.out zeroR) j3_); have Y4b := Aside0.mk (blk_below (blk_alloc (w := v3) Y3b.out zeroR) j3_); have Z4b := Aside0.mk (blk_below (blk_alloc (w := v3) Z3b.out zeroR) j3_); have P4b := Aside0.mk (four_cells X4b.out Y4b.out); have N4b := Aside0.mk (blk_below (blk_new v3 zeroR) j3_); clear j1_ j2_ j3_)
      | (go_at_call 24; refine (hr2.out v3).mono ?_; rintro e u4 ⟨g24c, rfl, j1_, j2_, j3_⟩; have R24c := Aside0.mk j2_; have R14c := Aside0.mk ((R13b.out).below j3_); have C4c := Aside0.mk (below_step C3b.out j3_); have X4c := Aside0.mk (blk_below X3b.out j3_); have Y4c := Aside0.mk (blk_below Y3b.out j3_); have Z4c := Aside0.mk (blk_below Z3b.out j3_); have P4c := Aside0.mk (four_cells X4c.out Y4c.out); have S4c := Aside0.mk j3_.size; clear j1_ j2_ j3_)
      | (go_at_call 24; refine (hr1.out (w2.drew.alloc zeroR)).mono ?_; rintro e w3 ⟨g13, rfl, j1_, j2_, j3_⟩; have R13 := Aside0.mk j2_; have C3 := Aside0.mk (below_step (below_alloc (below_drew B2.out) zeroR) j3_); have X3 := Aside0.mk (blk_below (blk_alloc (w := w2.drew) X2.out zeroR) j3_); have Y3 := Aside0.mk (blk_below (blk_alloc (w := w2.drew) Y2.out zeroR) j3_); have Z3 := Aside0.mk (blk_below (blk_alloc (w := w2.drew) Z2.out zeroR) j3_); have P3 := Aside0.mk (four_cells X3.out Y3.out); have N3 := Aside0.mk (show w3.heap[w2.heap.size]? = some zeroR from blk_below (blk_new w2.drew zeroR) j3_); clear j1_ j2_ j3_)
      | (go_at_call 24; refine (hr1.out w2.drew).mono ?_; rintro e v3 ⟨g13b, rfl, j1_, j2_, j3_⟩; have R13b := Aside0.mk j2_; have C3b := Aside0.mk (below_step (below_drew B2.out) j3_); have X3b := Aside0.mk (blk_below (w := w2.drew) X2.out j3_); have Y3b := Aside0.mk (blk_below (w := w2.drew) Y2.out j3_); have Z3b := Aside0.mk (blk_below (w := w2.drew) Z2.out j3_); have P3b := Aside0.mk (four_cells X3b.out Y3b.out); have S3b := Aside0.mk (show w2.heap.size ≤ v3.heap.size from j3_.size); clear j1_ j2_ j3_)
      | (go_at_call 26; refine (hop.out w2.heap.size g13 g24 w4 N4.out R14.out R24.out).mono ?_; rintro e w5 ⟨rfl, j1_, j2_⟩; have R5 := Aside0.mk j1_; have C5 := Aside0.mk (below_at C4.out j2_ (by have := B2.out.size; skip; omega)); have X5 := Aside0.mk (blk_grown X4.out j2_ (by have := blk_lt X2.out; skip; simp; omega)); have Y5 := Aside0.mk (blk_grown Y4.out j2_ (by have := blk_lt Y2.out; skip; simp; omega)); have Z5 := Aside0.mk (blk_grown Z4.out j2_ (by have := blk_lt Z2.out; skip; simp; omega)); have P5 := Aside0.mk (four_cells X5.out Y5.out); clear j1_ j2_)
      | (go_at_call 26; refine (hop.out v3.heap.size g13b g24b v4 N4b.out R14b.out R24b.out).mono ?_; rintro e w5 ⟨rfl, j1_, j2_⟩; have R5 := Aside0.mk j1_; have C5 := Aside0.mk (below_at C4b.out j2_ (by have := B2.out.size; have := S3b.out; omega)); have X5 := Aside0.mk (blk_grown X4b.out j2_ (by have := blk_lt X2.out; have := S3b.out; simp; omega)); have Y5 := Aside0.mk (blk_grown Y4b.out j2_ (by have := blk_lt Y2.out; have := S3b.out; simp; omega)); have Z5 := Aside0.mk (blk_grown Z4b.out j2_ (by have := blk_lt Z2.out; have := S3b.out; simp; omega)); have P5 := Aside0.mk (four_cells X5.out Y5.out); clear j1_ j2_)
      | (go_at_call 26; refine (hop.out u4.heap.size g13b g24c (u4.alloc zeroR) (blk_new u4 zeroR) (R14c.out.below (below_alloc (Below.refl _ _) zeroR)) (R24c.out.below (below_alloc (Below.refl _ _) zeroR))).mono ?_; rintro e w5 ⟨rfl, j1_, j2_⟩; have R5 := Aside0.mk j1_; have C5 := Aside0.mk (below_at (below_alloc C4c.out zeroR) j2_ (by have := B2.out.size; have := S3b.out; have := S4c.out; omega)); have X5 := Aside0.mk (blk_grown (blk_alloc (w := u4) X4c.out zeroR) j2_ (by have := blk_lt X2.out; have := S3b.out; have := S4c.out; simp; omega)); have Y5 := Aside0.mk (blk_grown (blk_alloc (w := u4) Y4c.out zeroR) j2_ (by have := blk_lt Y2.out; have := S3b.out; have := S4c.out; simp; omega)); have Z5 := Aside0.mk (blk_grown (blk_alloc (w := u4) Z4c.out zeroR) j2_ (by have := blk_lt Z2.out; have := S3b.out; have := S4c.out; simp; omega)); have P5 := Aside0.mk (four_cells X5.out Y5.out); clear j1_ j2_)
      | (go_at_call 22; refine (checked_new _ _ _ w5 R5.out f1.out f2.out).mono ?_; rintro e w6 ⟨rfl, j3_⟩; have C6 := Aside0.mk (below_step C5.out j3_); have X6 := Aside0.mk (blk_below X5.out j3_); have Y6 := Aside0.mk (blk_below Y5.out j3_); have Z6 := Aside0.mk (blk_below Z5.out j3_); have P6 := Aside0.mk (four_cells X6.out Y6.out); have P7 := Aside0.mk (fun a b => four_cells (blk_put_ne (blk_put_ne (i := 0) (v := a) X6.out (show W.heap.size ≠ W.heap.size + 2 by omega)) (i := 1) (v := b) (show W.heap.size ≠ W.heap.size + 2 by omega)) (blk_put_ne (blk_put_ne (i := 0) (v := a) Y6.out (show W.heap.size + 1 ≠ W.heap.size + 2 by omega)) (i := 1) (v := b) (show W.heap.size + 1 ≠ W.heap.size + 2 by omega))); obtain ⟨v0_, v1_, v2_, v3_⟩ := two_cells Z6.out; clear j3_))
  all_goals (try go_wp2)
  all_goals (
    refine bodyPost_ret (results_ct rfl _ _ (W.heap.size + 2) 25 #[.int .i64 (mkF (n * n') (d * d')).1, .int .i64 (mkF (n * n') (d * d')).2.1] (0, 0) _ rfl (by (repeat (first | refine blk_drewN ?_ _ | refine blk_drew ?_)); refine blk_put (cs := #[.int .i64 (mkF (n * n') (d * d')).1, .int .i64 0]) ?_ 1 _ rfl; refine blk_put (cs := #[.int .i64 0, .int .i64 0]) ?_ 0 _ rfl; exact Z6.out) Tryz.underlying25 rfl (by kernel_rfl)) rfl ?_
    exact ⟨rfl, by first | exact below_set2 C6.out (by omega) _ _ | exact below_drew (below_set2 C6.out (by omega) _ _)⟩)
theorem impl_MulFractions.calls (a0_0 : Int) (a0_1 : Int) (a1_0 : Int) (a1_1 : Int) (r1 : Int) (r2 : Int) (r3 : Bool) (w : World) (h : impl_MulFractions.f a0_0 a0_1 a1_0 a1_1 = some (r1, r2, r3)) :
    Calls Tryz.prog 8 #[.agg #[.int .i64 a0_0, .int .i64 a0_1], .agg #[.int .i64 a1_0, .int .i64 a1_1]] w fun e w' => e = .returned (.tuple #[.agg #[.int .i64 r1, .int .i64 r2], .bool r3]) ∧ Below w.heap.size w w' := by
  have h := Option.some.inj h
  cases c1 : okF a0_0 a0_1
  · rw [if_neg (fun z => by rw [c1] at z; exact absurd z.1 (by decide))] at h
    have := impl_MulFractions.no1 a0_0 a0_1 a1_0 a1_1 w c1
    rw [h] at this
    exact this
  · cases c2 : okF a1_0 a1_1
    · rw [if_neg (fun z => by rw [c2] at z; exact absurd z.2 (by decide))] at h
      have := impl_MulFractions.no2 a0_0 a0_1 a1_0 a1_1 w c1 c2
      rw [h] at this
      exact this
    · rw [if_pos ⟨c1, c2⟩] at h
      have := impl_MulFractions.yes a0_0 a0_1 a1_0 a1_1 w c1 c2
      rw [h] at this
      exact this

end Go.Proofs.YtbemhcdklmcbcaaGreatDoor.A
