-- Printed by this session's oprint.py through the kit's printer.
import Derived.Test.YtenlaanknlafdaaA0
import Derived.Test.YtenlaanknlafdaaA32
import Derived.Test.YtenlaanknlafdaaA46
import Derived.Test.YtenlaanknlafdaaRepFrac
namespace Go.Proofs.Ytenlaanknlafdaa.A
open Go.RowKit Go.Proofs.YtenlaanknlafdaaW.PrintWords Go.Proofs.YtenlaanknlafdaaW.PrintLast Go.Proofs.YtenlaanknlafdaaW.PrintMore
attribute [local go_sem] max2_int min2_int max_two min_two max_three min_three max_four min_four   -- for this text's walks alone
set_option linter.unusedVariables false
set_option linter.unusedSimpArgs false

/-! ### impl_FailChance: function 38 -/
-- given: proved by hand (failchance.tpl)
/-- A product of two, as MulFractions tells it. -/
def mulR (n d n' d' : Int) : Int × Int × Bool := if okF n d = true ∧ okF n' d' = true then mkF (n * n') (d * d') else (0, 0, false)
def mulN (n d : Int) : Nat → Int → Int → Int × Int × Bool
  | 0, a, b => (a, b, true)
  | k + 1, a, b => if (mulR a b n d).2.2 = true then mulN n d k (mulR a b n d).1 (mulR a b n d).2.1 else (0, 0, false)
def chanceOk (n d s : Int) : Prop := okF n d = true ∧ 0 ≤ n ∧ n ≤ d ∧ 0 ≤ s ∧ s ≤ 16
instance (n d s : Int) : Decidable (chanceOk n d s) := by unfold chanceOk; exact inferInstance
def impl_FailChance.f (n d s : Int) : Option (Int × Int × Bool) := some (if chanceOk n d s then mulN n d s.toNat 1 1 else (0, 0, false))
set_option maxHeartbeats 3200000 in
set_option maxRecDepth 100000 in
theorem impl_FailChance.no (n d s : Int) (w : World) (hno : ¬ chanceOk n d s) :
    Calls Try.prog 38 #[.agg #[.int .i64 n, .int .i64 d], .int .i64 s] w fun e w' => e = .returned (.tuple #[.agg #[.int .i64 0, .int .i64 0], .bool false]) ∧ Below w.heap.size w w' := by
  have hu23 := Try.underlying23; have CA := Aside0.mk (below_alloc (below_alloc (Below.refl w.heap.size w) (boxF n d)) zeroF); have BX := Aside0.mk (blk_alloc (blk_new w (boxF n d)) zeroF); have BK := Aside0.mk (blk_new (w.alloc (boxF n d)) zeroF); rw [size_alloc'] at BK; obtain ⟨x0, x1, -, -⟩ := two_cells BX.out
  cases c1 : okF n d
  · clear hno
    go_enter Try.func38, Try.ntmps38
    go_wp2_with (first
      | (go_at_call 55; refine (impl_ValidFraction.law n d _).mono ?_; rintro e w1 ⟨rfl, hB⟩; rw [c1]; have C1 := Aside0.mk (below_step CA.out hB); have BK1 := Aside0.mk (blk_below BK.out hB); obtain ⟨z0, z1, z2, z3⟩ := two_cells BK1.out; clear hB))
    refine bodyPost_ret (results_ct rfl _ _ (w.heap.size + 1) 23 #[.int .i64 0, .int .i64 0] (0, 0) _ rfl (by (repeat (first | refine blk_drewN ?_ _ | refine blk_drew ?_)); refine blk_put (cs := #[.int .i64 0, .int .i64 0]) ?_ 1 _ rfl; refine blk_put (cs := #[.int .i64 0, .int .i64 0]) ?_ 0 _ rfl; exact BK1.out) Try.underlying23 rfl (by kernel_rfl)) rfl ?_; exact ⟨rfl, by first | exact below_set2 C1.out (by omega) _ _ | exact below_drew (below_set2 C1.out (by omega) _ _)⟩
  · by_cases c2 : n < 0
    · have hb2 : decide (n < 0) = true := decide_eq_true c2; clear hno
      go_enter Try.func38, Try.ntmps38
      go_wp2_with (first
        | (go_at_call 55; refine (impl_ValidFraction.law n d _).mono ?_; rintro e w1 ⟨rfl, hB⟩; rw [c1]; have C1 := Aside0.mk (below_step CA.out hB); have BK1 := Aside0.mk (blk_below BK.out hB); obtain ⟨z0, z1, z2, z3⟩ := two_cells BK1.out; obtain ⟨y0, y1, -, -⟩ := two_cells (blk_below BX.out hB); clear hB))
      refine bodyPost_ret (results_ct rfl _ _ (w.heap.size + 1) 23 #[.int .i64 0, .int .i64 0] (0, 0) _ rfl (by (repeat (first | refine blk_drewN ?_ _ | refine blk_drew ?_)); refine blk_put (cs := #[.int .i64 0, .int .i64 0]) ?_ 1 _ rfl; refine blk_put (cs := #[.int .i64 0, .int .i64 0]) ?_ 0 _ rfl; exact BK1.out) Try.underlying23 rfl (by kernel_rfl)) rfl ?_; exact ⟨rfl, by first | exact below_set2 C1.out (by omega) _ _ | exact below_drew (below_set2 C1.out (by omega) _ _)⟩
    · have hb2 : decide (n < 0) = false := decide_eq_false c2
      by_cases c3 : d < n
      · have hb3 : decide (d < n) = true := decide_eq_true c3; clear hno
        go_enter Try.func38, Try.ntmps38
        go_wp2_with (first
          | (go_at_call 55; refine (impl_ValidFraction.law n d _).mono ?_; rintro e w1 ⟨rfl, hB⟩; rw [c1]; have C1 := Aside0.mk (below_step CA.out hB); have BK1 := Aside0.mk (blk_below BK.out hB); obtain ⟨z0, z1, z2, z3⟩ := two_cells BK1.out; obtain ⟨y0, y1, -, -⟩ := two_cells (blk_below BX.out hB); clear hB))
        refine bodyPost_ret (results_ct rfl _ _ (w.heap.size + 1) 23 #[.int .i64 0, .int .i64 0] (0, 0) _ rfl (by (repeat (first | refine blk_drewN ?_ _ | refine blk_drew ?_)); refine blk_put (cs := #[.int .i64 0, .int .i64 0]) ?_ 1 _ rfl; refine blk_put (cs := #[.int .i64 0, .int .i64 0]) ?_ 0 _ rfl; exact BK1.out) Try.underlying23 rfl (by kernel_rfl)) rfl ?_; exact ⟨rfl, by first | exact below_set2 C1.out (by omega) _ _ | exact below_drew (below_set2 C1.out (by omega) _ _)⟩
      · have hb3 : decide (d < n) = false := decide_eq_false c3; have HW := Aside0.mk ((within_is s 0 16).trans (by rw [decide_eq_false (fun z => hno ⟨c1, by omega, by omega, z.1, z.2⟩)] : _ = some false)); clear hno
        go_enter Try.func38, Try.ntmps38
        go_wp2_with (first
          | (go_at_call 55; refine (impl_ValidFraction.law n d _).mono ?_; rintro e w1 ⟨rfl, hB⟩; rw [c1]; have C1 := Aside0.mk (below_step CA.out hB); have BK1 := Aside0.mk (blk_below BK.out hB); have BX1 := Aside0.mk (blk_below BX.out hB); obtain ⟨y0, y1, -, -⟩ := two_cells BX1.out; clear hB)
          | (go_at_call 46; refine (impl_within.calls s 0 16 false _ HW.out).mono ?_; rintro e w2 ⟨rfl, n2, h2⟩; have C2 := Aside0.mk (show Below w.heap.size w w2 by rw [h2]; exact pw_below_drewN C1.out n2); have BK2 := Aside0.mk (show w2.heap[w.heap.size + 1]? = some zeroF by rw [h2]; exact BK1.out); obtain ⟨z0, z1, z2, z3⟩ := two_cells BK2.out; clear h2))
        refine bodyPost_ret (results_ct rfl _ _ (w.heap.size + 1) 23 #[.int .i64 0, .int .i64 0] (0, 0) _ rfl (by (repeat (first | refine blk_drewN ?_ _ | refine blk_drew ?_)); refine blk_put (cs := #[.int .i64 0, .int .i64 0]) ?_ 1 _ rfl; refine blk_put (cs := #[.int .i64 0, .int .i64 0]) ?_ 0 _ rfl; exact BK2.out) Try.underlying23 rfl (by kernel_rfl)) rfl ?_; exact ⟨rfl, by first | exact below_set2 C2.out (by omega) _ _ | exact below_drew (below_set2 C2.out (by omega) _ _)⟩
theorem mul_next (n d a b : Int) (k : Nat) : mulN n d (k + 1) a b = if (mulR a b n d).2.2 = true then mulN n d k (mulR a b n d).1 (mulR a b n d).2.1 else (0, 0, false) := rfl
set_option maxHeartbeats 6400000 in
set_option maxRecDepth 100000 in
theorem impl_FailChance.yes (n d s : Int) (w : World) (c0 : chanceOk n d s) :
    Calls Try.prog 38 #[.agg #[.int .i64 n, .int .i64 d], .int .i64 s] w fun e w' => e = .returned (.tuple #[.agg #[.int .i64 (mulN n d s.toNat 1 1).1, .int .i64 (mulN n d s.toNat 1 1).2.1], .bool (mulN n d s.toNat 1 1).2.2]) ∧ Below w.heap.size w w' := by
  have hu23 := Try.underlying23; obtain ⟨c1, c2, c3, c4, c5⟩ := c0; obtain ⟨N, rfl⟩ := Int.eq_ofNat_of_zero_le c4; rw [Int.toNat_natCast]
  have hN : N ≤ 16 := by omega
  have CA := Aside0.mk (below_alloc (below_alloc (Below.refl w.heap.size w) (boxF n d)) zeroF); have BX := Aside0.mk (blk_alloc (blk_new w (boxF n d)) zeroF); have BK := Aside0.mk (blk_new (w.alloc (boxF n d)) zeroF); rw [size_alloc'] at BK; obtain ⟨x0, x1, -, -⟩ := two_cells BX.out; have hb2 : decide (n < 0) = false := decide_eq_false (by omega); have hb3 : decide (d < n) = false := decide_eq_false (by omega); have HW := Aside0.mk ((within_is (N : Int) 0 16).trans (by rw [decide_eq_true (by omega)] : _ = some true)); obtain ⟨R, hR⟩ : ∃ R, mulN n d N 1 1 = R := ⟨_, rfl⟩; have HRS := Aside0.mk hR; rw [hR]; clear hR c2 c3 c4 c5
  go_enter Try.func38, Try.ntmps38
  go_wp2_with (first
    | (go_at_call 55; refine (impl_ValidFraction.law n d _).mono ?_; rintro e w1 ⟨rfl, hB⟩; rw [c1]; have C1 := Aside0.mk (below_step CA.out hB); have BK1 := Aside0.mk (blk_below BK.out hB); have BX1 := Aside0.mk (blk_below BX.out hB); obtain ⟨y0, y1, -, -⟩ := two_cells BX1.out; clear hB)
    | (go_at_call 46; refine (impl_within.calls (N : Int) 0 16 true _ HW.out).mono ?_; rintro e w2 ⟨rfl, n2, h2⟩; have C2 := Aside0.mk (show Below w.heap.size w w2 by rw [h2]; exact pw_below_drewN C1.out n2); have BK2 := Aside0.mk (show w2.heap[w.heap.size + 1]? = some zeroF by rw [h2]; exact BK1.out); have BX2 := Aside0.mk (show w2.heap[w.heap.size]? = some (boxF n d) by rw [h2]; exact BX1.out); obtain ⟨v0, v1, -, -⟩ := two_cells (blk_alloc BX2.out (boxF 1 1)); clear h2)
    | (go_at_call 69; refine (impl_FailChance.repeat_ (w2.heap.size + 1) _ n d N _ hN (by have h_ := blk_new (w2.alloc (boxF 1 1)) (boxF n d); rw [size_alloc'] at h_; exact h_)).mono ?_; rintro e w3 ⟨g3, hg3, rfl, hr3, hB⟩; have R3 := Aside0.mk hr3; have C3 := Aside0.mk (below_step (below_alloc (below_alloc C2.out (boxF 1 1)) (boxF n d)) hB); have BK3 := Aside0.mk (blk_below (blk_alloc (blk_alloc BK2.out (boxF 1 1)) (boxF n d)) hB); have F3 := Aside0.mk (blk_below (blk_alloc (blk_new w2 (boxF 1 1)) (boxF n d)) hB); have G3 := Aside0.mk hg3; clear hr3 hB hg3))
  go_loopw [38] (fun v38 wr => ∃ (k : Nat) (a b : Int), k ≤ N ∧ v38 = .int .i64 (k : Int) ∧ Aside0 (mulN n d (N - k) a b = R) ∧ Aside0 (Below w.heap.size w wr) ∧ Aside0 (wr.heap[w.heap.size + 1]? = some zeroF) ∧ Aside0 (wr.heap[w2.heap.size]? = some (boxF a b)) ∧ Aside0 (wr.heap[g3]? = some (.cells (repC (.int .i64 n) (.int .i64 d) N).toArray 23 (0, 0)))) (fun v38 _ => N - (intOf v38).toNat)
  case atStart => exact ⟨0, 1, 1, Nat.zero_le _, rfl, HRS, C3, BK3, F3, R3⟩
  case round =>
    obtain ⟨k, a, b, hk, rfl, HS, HB, HZ, HF, HG⟩ := hrel
    by_cases hlt : k < N
    · have hget := repC_get (.int .i64 n) (.int .i64 d) N k hlt
      have hx0 : wr.cell? ⟨g3, k * 2, none⟩ = some (.int .i64 n) := by rw [blk_cell HG.out]; simpa using hget.1
      have hx1 : wr.cell? ⟨g3, k * 2 + 1, none⟩ = some (.int .i64 d) := by rw [blk_cell HG.out]; simpa using hget.2
      have hs := HS.out; rw [show N - k = (N - (k + 1)) + 1 by omega, mul_next] at hs; obtain ⟨r, hr⟩ : ∃ r, mulR a b n d = r := ⟨_, rfl⟩
      have hf : impl_MulFractions.f a b n d = some (r.1, r.2.1, r.2.2) := by rw [← hr]; rfl
      rw [hr] at hs; obtain ⟨f0, f1, f2, f3⟩ := two_cells HF.out; have hne1 : w.heap.size + 1 < w2.heap.size := blk_lt BK2.out
      have hne4 : w2.heap.size < g3 := by have := G3.out; simp at this; omega
      have HN1 := Aside0.mk (show w.heap.size + 1 ≠ w2.heap.size by omega); have HN2 := Aside0.mk (show g3 ≠ w2.heap.size by omega); have HL2 := Aside0.mk (show w.heap.size ≤ w2.heap.size by omega); have hlt1 : w.heap.size + 1 < wr.heap.size := blk_lt HZ.out; have hlt2 : w2.heap.size < wr.heap.size := blk_lt HF.out; have hlt3 : g3 < wr.heap.size := blk_lt HG.out
      cases hok : r.2.2 with
      | true =>
        rw [hok, if_pos rfl] at hs; have HS2 := Aside0.mk hs; rw [hok] at hf; have HF2 := Aside0.mk hf; clear hs hok hf hr hget
        go_wp2_with (first
          | (go_at_call 32; refine (impl_MulFractions.calls a b n d _ _ _ _ HF2.out).mono ?_; rintro e w4 ⟨rfl, hB⟩; have B4 := Aside0.mk (below_step (below_alloc HB.out _) hB); have Z4 := Aside0.mk (blk_below (blk_alloc HZ.out _) hB); have F4 := Aside0.mk (blk_below (blk_alloc HF.out _) hB); have G4 := Aside0.mk (blk_below (blk_alloc HG.out _) hB); obtain ⟨h0, h1, h2, h3⟩ := two_cells (blk_alloc F4.out (boxF r.1 r.2.1)); clear hB))
        refine ⟨⟨k + 1, r.1, r.2.1, by omega, by go_num, HS2, ⟨below_set2 (below_alloc B4.out _) HL2.out _ _⟩, ⟨blk_put_ne (blk_put_ne (blk_alloc Z4.out _) HN1.out) HN1.out⟩, ⟨blk_put (cs := #[.int .i64 r.1, .int .i64 b]) (blk_put (cs := #[.int .i64 a, .int .i64 b]) (blk_alloc F4.out _) 0 _ rfl) 1 _ rfl⟩, ⟨blk_put_ne (blk_put_ne (blk_alloc G4.out _) HN2.out) HN2.out⟩⟩, by simp [intOf]; omega⟩
      | false =>
        rw [hok, if_neg (by decide)] at hs; subst hs; rw [hok] at hf; have HF2 := Aside0.mk hf; clear hok hf hr hget
        go_wp2_with (first
          | (go_at_call 32; refine (impl_MulFractions.calls a b n d _ _ _ _ HF2.out).mono ?_; rintro e w4 ⟨rfl, hB⟩; have B4 := Aside0.mk (below_step (below_alloc HB.out _) hB); have Z4 := Aside0.mk (blk_below (blk_alloc HZ.out _) hB); obtain ⟨h0, h1, h2, h3⟩ := two_cells (blk_alloc Z4.out (boxF r.1 r.2.1)); clear hB))
        refine bodyPost_ret (results_ct rfl _ _ (w.heap.size + 1) 23 #[.int .i64 0, .int .i64 0] (0, 0) _ rfl (by refine blk_put (cs := #[.int .i64 0, .int .i64 0]) ?_ 1 _ rfl; refine blk_put (cs := #[.int .i64 0, .int .i64 0]) ?_ 0 _ rfl; exact blk_alloc Z4.out _) Try.underlying23 rfl (by kernel_rfl)) rfl ?_; exact ⟨rfl, below_set2 (below_alloc B4.out _) (by omega) _ _⟩
    · have e : k = N := by omega
      subst e; have hs := HS.out; rw [Nat.sub_self] at hs; have hs : (a, b, true) = R := hs; subst hs; obtain ⟨f0, f1, f2, f3⟩ := two_cells HF.out; obtain ⟨y0, y1, y2, y3⟩ := two_cells HZ.out; clear HRS HS; go_wp2; refine bodyPost_ret (results_ct rfl _ _ (w.heap.size + 1) 23 #[.int .i64 a, .int .i64 b] (0, 0) _ rfl (by (repeat (first | refine blk_drewN ?_ _ | refine blk_drew ?_)); refine blk_put (cs := #[.int .i64 a, .int .i64 0]) ?_ 1 _ rfl; refine blk_put (cs := #[.int .i64 0, .int .i64 0]) ?_ 0 _ rfl; exact HZ.out) Try.underlying23 rfl (by kernel_rfl)) rfl ?_; exact ⟨rfl, below_set2 HB.out (by omega) _ _⟩
theorem impl_FailChance.calls (n : Int) (d : Int) (s : Int) (r1 : Int) (r2 : Int) (r3 : Bool) (w : World) (h : impl_FailChance.f n d s = some (r1, r2, r3)) :
    Calls Try.prog 38 #[.agg #[.int .i64 n, .int .i64 d], .int .i64 s] w fun e w' => e = .returned (.tuple #[.agg #[.int .i64 r1, .int .i64 r2], .bool r3]) ∧ Below w.heap.size w w' := by
  have h := Option.some.inj h
  by_cases c : chanceOk n d s
  · rw [if_pos c] at h; have := impl_FailChance.yes n d s w c; rw [h] at this; exact this
  · rw [if_neg c] at h; have := impl_FailChance.no n d s w c
    injection h with h1 h2
    injection h2 with h2 h3
    subst h1; subst h2; subst h3; exact this

end Go.Proofs.Ytenlaanknlafdaa.A
