-- Printed by this session's oprint.py through the kit's printer.
import Derived.Test.YtbemhcdklmcbcaaDoorA0
import Derived.Test.YtbemhcdklmcbcaaDoorA36
import Derived.Test.YtbemhcdklmcbcaaDoorRats7
namespace Go.Proofs.YtbemhcdklmcbcaaDoor.A
open Go.RowKit Go.Proofs.YtbemhcdklmcbcaaDoorW.PrintWords Go.Proofs.YtbemhcdklmcbcaaDoorW.PrintLast Go.Proofs.YtbemhcdklmcbcaaDoorW.PrintMore
attribute [local go_sem] max2_int min2_int max_two min_two max_three min_three max_four min_four   -- for this text's walks alone
set_option linter.unusedVariables false
set_option linter.unusedSimpArgs false

/-! ### impl_MakeFraction: function 12 -/
-- given: proved by hand (makefraction.tpl)
/-- A part of a fraction is at most this. -/
def isPart (n : Int) : Bool := decide (-1000000000000000000 ≤ n ∧ n ≤ 1000000000000000000)
def impl_MakeFraction.f (a0 : Int) (a1 : Int) : Option (Int × Int × Bool) := some (if a1 ≠ 0 ∧ isPart a0 = true ∧ isPart a1 = true then mkF a0 a1 else (0, 0, false))
theorem isPart_within (n : Int) : impl_within.f n (-1000000000000000000) 1000000000000000000 = some (isPart n) := within_is _ _ _
theorem isPart_le {n : Int} (h : isPart n = true) : -1000000000000000000 ≤ n ∧ n ≤ 1000000000000000000 := of_decide_eq_true h
set_option maxHeartbeats 3200000 in
set_option maxRecDepth 100000 in
theorem impl_MakeFraction.no (a0 a1 : Int) (w : World) (hno : ¬ (a1 ≠ 0 ∧ isPart a0 = true ∧ isPart a1 = true)) :
    Calls Tryd.prog 12 #[.int .i64 a0, .int .i64 a1] w fun e w' => e = .returned (.tuple #[.agg #[.int .i64 0, .int .i64 0], .bool false]) ∧ Below w.heap.size w w' := by
  have hu23 := Tryd.underlying33
  have CA := Aside0.mk (below_alloc (Below.refl w.heap.size w) zeroF)
  have BK := Aside0.mk (blk_new w zeroF)
  by_cases c0 : a1 = 0
  · have c0' : (a1 == 0) = true := beq_iff_eq.2 c0
    obtain ⟨z0, z1, z2, z3⟩ := two_cells BK.out
    clear hno c0
    go_enter Tryd.func12, Tryd.ntmps12
    go_wp2
    refine bodyPost_ret (results_ct rfl _ _ w.heap.size 33 #[.int .i64 0, .int .i64 0] (0, 0) _ rfl (by first | exact BK.out | (refine blk_put (cs := #[.int .i64 0, .int .i64 0]) ?_ 1 _ rfl; refine blk_put (cs := #[.int .i64 0, .int .i64 0]) ?_ 0 _ rfl; exact BK.out)) Tryd.underlying33 rfl (by kernel_rfl)) rfl ?_
    exact ⟨rfl, by first | exact CA.out | exact below_set2 CA.out (Nat.le_refl _) _ _⟩
  · have c0' : (a1 == 0) = false := beq_eq_false_iff_ne.2 c0
    by_cases c1 : isPart a0 = true
    · have c2 : isPart a1 = false := by
        cases h : isPart a1
        · rfl
        · exact absurd ⟨c0, c1, h⟩ hno
      clear hno c0
      go_enter Tryd.func12, Tryd.ntmps12
      go_wp2_with (first
        | (go_at_call 36; refine (impl_within.calls a1 (-1000000000000000000) 1000000000000000000 false w1 (by rw [isPart_within, c2])).mono ?_; rintro e w2 ⟨rfl, n2, h2⟩; have C2 := Aside0.mk (show Below w.heap.size w w2 by rw [h2]; exact pw_below_drewN C1.out n2); have BK2 := Aside0.mk (show w2.heap[w.heap.size]? = some zeroF by rw [h2]; exact BK1.out); obtain ⟨z0, z1, z2, z3⟩ := two_cells BK2.out; clear h2)
        | (go_at_call 36; refine (impl_within.calls a0 (-1000000000000000000) 1000000000000000000 true _ (by rw [isPart_within, c1])).mono ?_; rintro e w1 ⟨rfl, n1, h1⟩; have C1 := Aside0.mk (show Below w.heap.size w w1 by rw [h1]; exact pw_below_drewN CA.out n1); have BK1 := Aside0.mk (show w1.heap[w.heap.size]? = some zeroF by rw [h1]; exact BK.out); clear h1))
      refine bodyPost_ret (results_ct rfl _ _ w.heap.size 33 #[.int .i64 0, .int .i64 0] (0, 0) _ rfl (by refine blk_put (cs := #[.int .i64 0, .int .i64 0]) ?_ 1 _ rfl; refine blk_put (cs := #[.int .i64 0, .int .i64 0]) ?_ 0 _ rfl; exact BK2.out) Tryd.underlying33 rfl (by kernel_rfl)) rfl ?_
      exact ⟨rfl, below_set2 C2.out (Nat.le_refl _) _ _⟩
    · have c1' : isPart a0 = false := by simpa using c1
      clear hno c0 c1
      go_enter Tryd.func12, Tryd.ntmps12
      go_wp2_with (first
        | (go_at_call 36; refine (impl_within.calls a0 (-1000000000000000000) 1000000000000000000 false _ (by rw [isPart_within, c1'])).mono ?_; rintro e w2 ⟨rfl, n2, h2⟩; have C2 := Aside0.mk (show Below w.heap.size w w2 by rw [h2]; exact pw_below_drewN CA.out n2); have BK2 := Aside0.mk (show w2.heap[w.heap.size]? = some zeroF by rw [h2]; exact BK.out); obtain ⟨z0, z1, z2, z3⟩ := two_cells BK2.out; clear h2))
      refine bodyPost_ret (results_ct rfl _ _ w.heap.size 33 #[.int .i64 0, .int .i64 0] (0, 0) _ rfl (by refine blk_put (cs := #[.int .i64 0, .int .i64 0]) ?_ 1 _ rfl; refine blk_put (cs := #[.int .i64 0, .int .i64 0]) ?_ 0 _ rfl; exact BK2.out) Tryd.underlying33 rfl (by kernel_rfl)) rfl ?_
      exact ⟨rfl, below_set2 C2.out (Nat.le_refl _) _ _⟩
set_option maxHeartbeats 3200000 in
set_option maxRecDepth 100000 in
theorem impl_MakeFraction.yes (a0 a1 : Int) (w : World) (c0 : a1 ≠ 0) (c1 : isPart a0 = true) (c2 : isPart a1 = true) :
    Calls Tryd.prog 12 #[.int .i64 a0, .int .i64 a1] w fun e w' => e = .returned (.tuple #[.agg #[.int .i64 (mkF a0 a1).1, .int .i64 (mkF a0 a1).2.1], .bool (mkF a0 a1).2.2]) ∧ Below w.heap.size w w' := by
  have hu23 := Tryd.underlying33
  have CA := Aside0.mk (below_alloc (Below.refl w.heap.size w) zeroF)
  have BK := Aside0.mk (blk_new w zeroF)
  have c0' : (a1 == 0) = false := beq_eq_false_iff_ne.2 c0
  have p0 := isPart_le c1
  have p1 := isPart_le c2
  have f0 := Aside0.mk (Fits2.of (X := a0) (by omega))
  have f1 := Aside0.mk (Fits2.of (X := a1) (by omega))
  have hn := Aside0.mk (fun W => impl_newRat.law a0 a1 W (by omega) (by omega) (by omega) (by omega) c0)
  clear c0 p0 p1
  go_enter Tryd.func12, Tryd.ntmps12
  go_wp2_with (first
    | (go_at_call 36; refine (impl_within.calls a1 (-1000000000000000000) 1000000000000000000 true w1 (by rw [isPart_within, c2])).mono ?_; rintro e w2 ⟨rfl, n2, h2⟩; have C2 := Aside0.mk (show Below w.heap.size w w2 by rw [h2]; exact pw_below_drewN C1.out n2); have BK2 := Aside0.mk (show w2.heap[w.heap.size]? = some zeroF by rw [h2]; exact BK1.out); clear h2)
    | (go_at_call 36; refine (impl_within.calls a0 (-1000000000000000000) 1000000000000000000 true _ (by rw [isPart_within, c1])).mono ?_; rintro e w1 ⟨rfl, n1, h1⟩; have C1 := Aside0.mk (show Below w.heap.size w w1 by rw [h1]; exact pw_below_drewN CA.out n1); have BK1 := Aside0.mk (show w1.heap[w.heap.size]? = some zeroF by rw [h1]; exact BK.out); clear h1)
    | (go_at_call 38; refine (hn.out w2).mono ?_; rintro e w3 ⟨g, rfl, k1_, k2_, k3_⟩; have K := Aside0.mk k2_; have C3 := Aside0.mk (below_step C2.out k3_); have BK3 := Aside0.mk (blk_below BK2.out k3_); clear k1_ k2_ k3_)
    | (go_at_call 37; refine (checked_new g a0 a1 w3 K.out f0.out f1.out).mono ?_; rintro e w4 ⟨rfl, hB⟩; have C4 := Aside0.mk (below_step C3.out hB); have BK4 := Aside0.mk (blk_below BK3.out hB); obtain ⟨z0, z1, z2, z3⟩ := two_cells BK4.out; clear hB))
  refine bodyPost_ret (results_ct rfl _ _ w.heap.size 33 #[.int .i64 (mkF a0 a1).1, .int .i64 (mkF a0 a1).2.1] (0, 0) _ rfl (by refine blk_put (cs := #[.int .i64 (mkF a0 a1).1, .int .i64 0]) ?_ 1 _ rfl; refine blk_put (cs := #[.int .i64 0, .int .i64 0]) ?_ 0 _ rfl; exact BK4.out) Tryd.underlying33 rfl (by kernel_rfl)) rfl ?_
  exact ⟨rfl, below_set2 C4.out (Nat.le_refl _) _ _⟩
theorem impl_MakeFraction.calls (a0 : Int) (a1 : Int) (r1 : Int) (r2 : Int) (r3 : Bool) (w : World) (h : impl_MakeFraction.f a0 a1 = some (r1, r2, r3)) :
    Calls Tryd.prog 12 #[.int .i64 a0, .int .i64 a1] w fun e w' => e = .returned (.tuple #[.agg #[.int .i64 r1, .int .i64 r2], .bool r3]) ∧ Below w.heap.size w w' := by
  have h := Option.some.inj h
  by_cases c : a1 ≠ 0 ∧ isPart a0 = true ∧ isPart a1 = true
  · rw [if_pos c] at h
    have := impl_MakeFraction.yes a0 a1 w c.1 c.2.1 c.2.2
    rw [h] at this
    exact this
  · rw [if_neg c] at h
    have := impl_MakeFraction.no a0 a1 w c
    injection h with h1 h2
    injection h2 with h2 h3
    subst h1; subst h2; subst h3
    exact this

end Go.Proofs.YtbemhcdklmcbcaaDoor.A
