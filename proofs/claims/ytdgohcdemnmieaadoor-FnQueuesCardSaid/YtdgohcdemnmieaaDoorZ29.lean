/- Texts of this claim, put together by this session's pack2.py: each part is introduced by its own comment. No conditions. -/
import Derived.Test.YtdgohcdemnmieaaDoorZ22
import Derived.Test.YtdgohcdemnmieaaDoorRats7
import Derived.Laws.CopyOwn
import Derived.Laws.MakeOwn
import Derived.Deep.RegionLaw
-- Printed by this session's oprint.py through the kit's printer.
namespace Go.Proofs.YtdgohcdemnmieaaDoor.A
open Go.RowKit Go.Proofs.YtdgohcdemnmieaaDoorW.PrintWords Go.Proofs.YtdgohcdemnmieaaDoorW.PrintLast Go.Proofs.YtdgohcdemnmieaaDoorW.PrintMore
attribute [local go_sem] max2_int min2_int max_two min_two max_three min_three max_four min_four   -- for this text's walks alone
set_option linter.unusedVariables false
set_option linter.unusedSimpArgs false

/-! ### impl_MakeFraction: function 11 -/
-- given: proved by hand (makefraction.tpl)
/-- A part of a fraction is at most this. -/
def isPart (n : Int) : Bool := decide (-1000000000000000000 ≤ n ∧ n ≤ 1000000000000000000)
def impl_MakeFraction.f (a0 : Int) (a1 : Int) : Option (Int × Int × Bool) := some (if a1 ≠ 0 ∧ isPart a0 = true ∧ isPart a1 = true then mkF a0 a1 else (0, 0, false))
theorem isPart_within (n : Int) : impl_within.f n (-1000000000000000000) 1000000000000000000 = some (isPart n) := within_is _ _ _
theorem isPart_le {n : Int} (h : isPart n = true) : -1000000000000000000 ≤ n ∧ n ≤ 1000000000000000000 := of_decide_eq_true h
set_option maxHeartbeats 3200000 in
set_option maxRecDepth 100000 in
theorem impl_MakeFraction.no (a0 a1 : Int) (w : World) (hno : ¬ (a1 ≠ 0 ∧ isPart a0 = true ∧ isPart a1 = true)) :
    Calls Tryd.prog 11 #[.int .i64 a0, .int .i64 a1] w fun e w' => e = .returned (.tuple #[.agg #[.int .i64 0, .int .i64 0], .bool false]) ∧ Below w.heap.size w w' := by
  have hu23 := Tryd.underlying35
  have CA := Aside0.mk (below_alloc (Below.refl w.heap.size w) zeroF)
  have BK := Aside0.mk (blk_new w zeroF)
  by_cases c0 : a1 = 0
  · have c0' : (a1 == 0) = true := beq_iff_eq.2 c0
    obtain ⟨z0, z1, z2, z3⟩ := two_cells BK.out
    clear hno c0
    go_enter Tryd.func11, Tryd.ntmps11
    go_wp2
    refine bodyPost_ret (results_ct rfl _ _ w.heap.size 35 #[.int .i64 0, .int .i64 0] (0, 0) _ rfl (by first | exact BK.out | (refine blk_put (cs := #[.int .i64 0, .int .i64 0]) ?_ 1 _ rfl; refine blk_put (cs := #[.int .i64 0, .int .i64 0]) ?_ 0 _ rfl; exact BK.out)) Tryd.underlying35 rfl (by kernel_rfl)) rfl ?_
    exact ⟨rfl, by first | exact CA.out | exact below_set2 CA.out (Nat.le_refl _) _ _⟩
  · have c0' : (a1 == 0) = false := beq_eq_false_iff_ne.2 c0
    by_cases c1 : isPart a0 = true
    · have c2 : isPart a1 = false := by
        cases h : isPart a1
        · rfl
        · exact absurd ⟨c0, c1, h⟩ hno
      clear hno c0
      go_enter Tryd.func11, Tryd.ntmps11
      go_wp2_with (first
        | (go_at_call 20; refine (impl_within.calls a1 (-1000000000000000000) 1000000000000000000 false w1 (by rw [isPart_within, c2])).mono ?_; rintro e w2 ⟨rfl, n2, h2⟩; have C2 := Aside0.mk (show Below w.heap.size w w2 by rw [h2]; exact pw_below_drewN C1.out n2); have BK2 := Aside0.mk (show w2.heap[w.heap.size]? = some zeroF by rw [h2]; exact BK1.out); obtain ⟨z0, z1, z2, z3⟩ := two_cells BK2.out; clear h2)
        | (go_at_call 20; refine (impl_within.calls a0 (-1000000000000000000) 1000000000000000000 true _ (by rw [isPart_within, c1])).mono ?_; rintro e w1 ⟨rfl, n1, h1⟩; have C1 := Aside0.mk (show Below w.heap.size w w1 by rw [h1]; exact pw_below_drewN CA.out n1); have BK1 := Aside0.mk (show w1.heap[w.heap.size]? = some zeroF by rw [h1]; exact BK.out); clear h1))
      refine bodyPost_ret (results_ct rfl _ _ w.heap.size 35 #[.int .i64 0, .int .i64 0] (0, 0) _ rfl (by refine blk_put (cs := #[.int .i64 0, .int .i64 0]) ?_ 1 _ rfl; refine blk_put (cs := #[.int .i64 0, .int .i64 0]) ?_ 0 _ rfl; exact BK2.out) Tryd.underlying35 rfl (by kernel_rfl)) rfl ?_
      exact ⟨rfl, below_set2 C2.out (Nat.le_refl _) _ _⟩
    · have c1' : isPart a0 = false := by simpa using c1
      clear hno c0 c1
      go_enter Tryd.func11, Tryd.ntmps11
      go_wp2_with (first
        | (go_at_call 20; refine (impl_within.calls a0 (-1000000000000000000) 1000000000000000000 false _ (by rw [isPart_within, c1'])).mono ?_; rintro e w2 ⟨rfl, n2, h2⟩; have C2 := Aside0.mk (show Below w.heap.size w w2 by rw [h2]; exact pw_below_drewN CA.out n2); have BK2 := Aside0.mk (show w2.heap[w.heap.size]? = some zeroF by rw [h2]; exact BK.out); obtain ⟨z0, z1, z2, z3⟩ := two_cells BK2.out; clear h2))
      refine bodyPost_ret (results_ct rfl _ _ w.heap.size 35 #[.int .i64 0, .int .i64 0] (0, 0) _ rfl (by refine blk_put (cs := #[.int .i64 0, .int .i64 0]) ?_ 1 _ rfl; refine blk_put (cs := #[.int .i64 0, .int .i64 0]) ?_ 0 _ rfl; exact BK2.out) Tryd.underlying35 rfl (by kernel_rfl)) rfl ?_
      exact ⟨rfl, below_set2 C2.out (Nat.le_refl _) _ _⟩
set_option maxHeartbeats 3200000 in
set_option maxRecDepth 100000 in
theorem impl_MakeFraction.yes (a0 a1 : Int) (w : World) (c0 : a1 ≠ 0) (c1 : isPart a0 = true) (c2 : isPart a1 = true) :
    Calls Tryd.prog 11 #[.int .i64 a0, .int .i64 a1] w fun e w' => e = .returned (.tuple #[.agg #[.int .i64 (mkF a0 a1).1, .int .i64 (mkF a0 a1).2.1], .bool (mkF a0 a1).2.2]) ∧ Below w.heap.size w w' := by
  have hu23 := Tryd.underlying35
  have CA := Aside0.mk (below_alloc (Below.refl w.heap.size w) zeroF)
  have BK := Aside0.mk (blk_new w zeroF)
  have c0' : (a1 == 0) = false := beq_eq_false_iff_ne.2 c0
  have p0 := isPart_le c1
  have p1 := isPart_le c2
  have f0 := Aside0.mk (Fits2.of (X := a0) (by omega))
  have f1 := Aside0.mk (Fits2.of (X := a1) (by omega))
  have hn := Aside0.mk (fun W => impl_newRat.law a0 a1 W (by omega) (by omega) (by omega) (by omega) c0)
  clear c0 p0 p1
  go_enter Tryd.func11, Tryd.ntmps11
  go_wp2_with (first
    | (go_at_call 20; refine (impl_within.calls a1 (-1000000000000000000) 1000000000000000000 true w1 (by rw [isPart_within, c2])).mono ?_; rintro e w2 ⟨rfl, n2, h2⟩; have C2 := Aside0.mk (show Below w.heap.size w w2 by rw [h2]; exact pw_below_drewN C1.out n2); have BK2 := Aside0.mk (show w2.heap[w.heap.size]? = some zeroF by rw [h2]; exact BK1.out); clear h2)
    | (go_at_call 20; refine (impl_within.calls a0 (-1000000000000000000) 1000000000000000000 true _ (by rw [isPart_within, c1])).mono ?_; rintro e w1 ⟨rfl, n1, h1⟩; have C1 := Aside0.mk (show Below w.heap.size w w1 by rw [h1]; exact pw_below_drewN CA.out n1); have BK1 := Aside0.mk (show w1.heap[w.heap.size]? = some zeroF by rw [h1]; exact BK.out); clear h1)
    | (go_at_call 22; refine (hn.out w2).mono ?_; rintro e w3 ⟨g, rfl, k1_, k2_, k3_⟩; have K := Aside0.mk k2_; have C3 := Aside0.mk (below_step C2.out k3_); have BK3 := Aside0.mk (blk_below BK2.out k3_); clear k1_ k2_ k3_)
    | (go_at_call 21; refine (checked_new g a0 a1 w3 K.out f0.out f1.out).mono ?_; rintro e w4 ⟨rfl, hB⟩; have C4 := Aside0.mk (below_step C3.out hB); have BK4 := Aside0.mk (blk_below BK3.out hB); obtain ⟨z0, z1, z2, z3⟩ := two_cells BK4.out; clear hB))
  refine bodyPost_ret (results_ct rfl _ _ w.heap.size 35 #[.int .i64 (mkF a0 a1).1, .int .i64 (mkF a0 a1).2.1] (0, 0) _ rfl (by refine blk_put (cs := #[.int .i64 (mkF a0 a1).1, .int .i64 0]) ?_ 1 _ rfl; refine blk_put (cs := #[.int .i64 0, .int .i64 0]) ?_ 0 _ rfl; exact BK4.out) Tryd.underlying35 rfl (by kernel_rfl)) rfl ?_
  exact ⟨rfl, below_set2 C4.out (Nat.le_refl _) _ _⟩
theorem impl_MakeFraction.calls (a0 : Int) (a1 : Int) (r1 : Int) (r2 : Int) (r3 : Bool) (w : World) (h : impl_MakeFraction.f a0 a1 = some (r1, r2, r3)) :
    Calls Tryd.prog 11 #[.int .i64 a0, .int .i64 a1] w fun e w' => e = .returned (.tuple #[.agg #[.int .i64 r1, .int .i64 r2], .bool r3]) ∧ Below w.heap.size w w' := by
  have h := Option.some.inj h
  by_cases c : a1 ≠ 0 ∧ isPart a0 = true ∧ isPart a1 = true
  · rw [if_pos c] at h
    have := impl_MakeFraction.yes a0 a1 w c.1 c.2.1 c.2.2
    rw [h] at this
    exact this
  · rw [if_neg c] at h
    have := impl_MakeFraction.no a0 a1 w c
    injection h with h1 h2
    injection h2 with h2 h3
    subst h1; subst h2; subst h3
    exact this

end Go.Proofs.YtdgohcdemnmieaaDoor.A
/- What the functions over two fractions share. Conditions: valid fractions. -/
namespace Go.Proofs.YtdgohcdemnmieaaDoor.A
set_option linter.unusedVariables false
set_option linter.unusedSimpArgs false
open Go.RowKit Go.Proofs.YtdgohcdemnmieaaDoorW.PrintWords Go.Proofs.YtdgohcdemnmieaaDoorW.PrintLast Go.Proofs.YtdgohcdemnmieaaDoorW.PrintMore
abbrev boxF (n d : Int) : Obj := .cells #[.int .i64 n, .int .i64 d] 35 (0, 0)
theorem size_alloc' (W : World) (o : Obj) : (W.alloc o).heap.size = W.heap.size + 1 := by simp
theorem below_box (W : World) (n d n' d' : Int) : Below W.heap.size W (((W.alloc (boxF n d)).alloc (boxF n' d')).alloc zeroF) := below_alloc (below_alloc (below_alloc (Below.refl _ _) _) _) _
theorem box0 (W : World) (n d n' d' : Int) : (((W.alloc (boxF n d)).alloc (boxF n' d')).alloc zeroF).heap[W.heap.size]? = some (boxF n d) := blk_alloc (blk_alloc (blk_new W _) _) _
theorem box1 (W : World) (n d n' d' : Int) : (((W.alloc (boxF n d)).alloc (boxF n' d')).alloc zeroF).heap[W.heap.size + 1]? = some (boxF n' d') := by
  have h := blk_new (W.alloc (boxF n d)) (boxF n' d')
  rw [size_alloc'] at h
  exact blk_alloc h _
theorem box2 (W : World) (n d n' d' : Int) : (((W.alloc (boxF n d)).alloc (boxF n' d')).alloc zeroF).heap[W.heap.size + 2]? = some zeroF := by
  have h := blk_new ((W.alloc (boxF n d)).alloc (boxF n' d')) zeroF
  rw [size_alloc', size_alloc'] at h
  exact h
theorem four_cells {w : World} {a b : Nat} {n d n' d' : Int} (h : w.heap[a]? = some (boxF n d)) (h' : w.heap[b]? = some (boxF n' d')) : w.cell? ⟨a, 0, none⟩ = some (.int .i64 n) ∧ w.cell? ⟨a, 1, none⟩ = some (.int .i64 d) ∧ w.cell? ⟨b, 0, none⟩ = some (.int .i64 n') ∧ w.cell? ⟨b, 1, none⟩ = some (.int .i64 d') := ⟨(blk_cell h 0).trans rfl, (blk_cell h 1).trans rfl, (blk_cell h' 0).trans rfl, (blk_cell h' 1).trans rfl⟩
theorem blk_put_ne {w : World} {g b i : Nat} {o : Obj} {v : Value} (h : w.heap[g]? = some o) (hne : g ≠ b) : (w.setCell ⟨b, i, none⟩ v).heap[g]? = some o := blk_grown h (grown_set (World.grownBy.refl w (some b)) i v) (by simpa using hne)
def Part (x : Int) : Prop := -1000000000000000000 ≤ x ∧ x ≤ 1000000000000000000
theorem lo_part {X : Int} (h : Part X) : Lo X := Lo.of (by unfold Part at h; omega)
theorem part_mul {x y : Int} (hx : Part x) (hy : Part y) : -1000000000000000000000000000000000000 ≤ x * y ∧ x * y ≤ 1000000000000000000000000000000000000 := by
  unfold Part at *
  have h : (x * y).natAbs ≤ 1000000000000000000 * 1000000000000000000 := by
    rw [Int.natAbs_mul]
    exact Nat.mul_le_mul (by omega) (by omega)
  omega
theorem fits2_mul {x y : Int} (hx : Part x) (hy : Part y) : Fits2 (x * y) := by
  have := part_mul hx hy
  generalize x * y = p at *
  exact Fits2.of (by omega)
theorem okF_parts {n d : Int} (h : okF n d = true) : Part n ∧ Part d ∧ 1 ≤ d := by
  obtain ⟨⟨a0, a1⟩, ⟨a2, a3⟩, a4⟩ := okF_iff.1 h
  exact ⟨⟨a2, a3⟩, ⟨by omega, a1⟩, a0⟩
theorem low_num {n d : Int} (h : okF n d = true) : numI n d = n ∧ denI n d = d := by
  obtain ⟨⟨a0, a1⟩, ⟨a2, a3⟩, a4⟩ := okF_iff.1 h
  have hd : decide (d < 0) = false := decide_eq_false (by omega)
  unfold numI denI gcdI sgn
  rw [a4, hd]
  by_cases c : n < 0
  · simp [c]; omega
  · simp [c]; omega
theorem rat_ok (n d : Int) (w : World) (h : okF n d = true) : Calls Tryd.prog 26 #[.agg #[.int .i64 n, .int .i64 d]] w (NewR n d w) := by
  obtain ⟨⟨a2, a3⟩, ⟨_, a1⟩, a0⟩ := okF_parts h
  have h1 := impl_Fraction_rat.law n d w (by omega) (by omega) (by omega) (by omega) (by omega)
  rw [(low_num h).1, (low_num h).2] at h1
  exact h1
end Go.Proofs.YtdgohcdemnmieaaDoor.A
-- Printed by this session's oprint.py through the kit's printer.
namespace Go.Proofs.YtdgohcdemnmieaaDoor.A
open Go.RowKit Go.Proofs.YtdgohcdemnmieaaDoorW.PrintWords Go.Proofs.YtdgohcdemnmieaaDoorW.PrintLast Go.Proofs.YtdgohcdemnmieaaDoorW.PrintMore
attribute [local go_sem] max2_int min2_int max_two min_two max_three min_three max_four min_four   -- for this text's walks alone
set_option linter.unusedVariables false
set_option linter.unusedSimpArgs false

/-! ### impl_MulFractions: function 13 -/
-- given: proved by hand (mulfractions.tpl)
def impl_MulFractions.f (n d n' d' : Int) : Option (Int × Int × Bool) := some (if okF n d = true ∧ okF n' d' = true then mkF (n * n') (d * d') else (0, 0, false))
set_option maxHeartbeats 3200000 in
set_option maxRecDepth 100000 in
theorem impl_MulFractions.no1 (n d n' d' : Int) (W : World) (c1 : okF n d = false) :
    Calls Tryd.prog 13 #[.agg #[.int .i64 n, .int .i64 d], .agg #[.int .i64 n', .int .i64 d']] W fun e w' => e = .returned (.tuple #[.agg #[.int .i64 (((0, 0, false) : Int × Int × Bool)).1, .int .i64 (((0, 0, false) : Int × Int × Bool)).2.1], .bool (((0, 0, false) : Int × Int × Bool)).2.2]) ∧ Below W.heap.size W w' := by
  have hu23 := Tryd.underlying35
  have B0 := Aside0.mk (below_box W n d n' d')
  have X0 := Aside0.mk (box0 W n d n' d')
  have Y0 := Aside0.mk (box1 W n d n' d')
  have Z0 := Aside0.mk (box2 W n d n' d')
  go_enter Tryd.func13, Tryd.ntmps13
  go_wp2_with (first
    | (go_at_call 23; refine (impl_ValidFraction.law n d _).mono ?_; rintro e w1 ⟨rfl, hB⟩; rw [c1]; have B1 := Aside0.mk (below_step B0.out hB); have X1 := Aside0.mk (blk_below X0.out hB); have Y1 := Aside0.mk (blk_below Y0.out hB); have Z1 := Aside0.mk (blk_below Z0.out hB); obtain ⟨p0, p1, -, -⟩ := two_cells X1.out; obtain ⟨q0, q1, -, -⟩ := two_cells Y1.out; obtain ⟨r0, r1, r2, r3⟩ := two_cells Z1.out; clear hB))
  refine bodyPost_ret (results_ct rfl _ _ (W.heap.size + 2) 35 #[.int .i64 0, .int .i64 0] (0, 0) _ rfl (by (repeat (first | refine blk_drewN ?_ _ | refine blk_drew ?_)); refine blk_put (cs := #[.int .i64 0, .int .i64 0]) ?_ 1 _ rfl; refine blk_put (cs := #[.int .i64 0, .int .i64 0]) ?_ 0 _ rfl; exact Z1.out) Tryd.underlying35 rfl (by kernel_rfl)) rfl ?_
  exact ⟨rfl, by first | exact below_set2 B1.out (by omega) _ _ | exact below_drew (below_set2 B1.out (by omega) _ _)⟩
set_option maxHeartbeats 3200000 in
set_option maxRecDepth 100000 in
theorem impl_MulFractions.no2 (n d n' d' : Int) (W : World) (c1 : okF n d = true) (c2 : okF n' d' = false) :
    Calls Tryd.prog 13 #[.agg #[.int .i64 n, .int .i64 d], .agg #[.int .i64 n', .int .i64 d']] W fun e w' => e = .returned (.tuple #[.agg #[.int .i64 (((0, 0, false) : Int × Int × Bool)).1, .int .i64 (((0, 0, false) : Int × Int × Bool)).2.1], .bool (((0, 0, false) : Int × Int × Bool)).2.2]) ∧ Below W.heap.size W w' := by
  have hu23 := Tryd.underlying35
  have B0 := Aside0.mk (below_box W n d n' d')
  have X0 := Aside0.mk (box0 W n d n' d')
  have Y0 := Aside0.mk (box1 W n d n' d')
  have Z0 := Aside0.mk (box2 W n d n' d')
  go_enter Tryd.func13, Tryd.ntmps13
  go_wp2_with (first
    | (go_at_call 23; refine (impl_ValidFraction.law n' d' w1).mono ?_; rintro e w2 ⟨rfl, hB⟩; rw [c2]; have B2 := Aside0.mk (below_step B1.out hB); have X2 := Aside0.mk (blk_below X1.out hB); have Y2 := Aside0.mk (blk_below Y1.out hB); have Z2 := Aside0.mk (blk_below Z1.out hB); obtain ⟨s0, s1, -, -⟩ := two_cells X2.out; obtain ⟨t0, t1, -, -⟩ := two_cells Y2.out; obtain ⟨y0, y1, y2, y3⟩ := two_cells Z2.out; clear hB)
    | (go_at_call 23; refine (impl_ValidFraction.law n d _).mono ?_; rintro e w1 ⟨rfl, hB⟩; rw [c1]; have B1 := Aside0.mk (below_step B0.out hB); have X1 := Aside0.mk (blk_below X0.out hB); have Y1 := Aside0.mk (blk_below Y0.out hB); have Z1 := Aside0.mk (blk_below Z0.out hB); obtain ⟨p0, p1, -, -⟩ := two_cells X1.out; obtain ⟨q0, q1, -, -⟩ := two_cells Y1.out; obtain ⟨r0, r1, r2, r3⟩ := two_cells Z1.out; clear hB))
  refine bodyPost_ret (results_ct rfl _ _ (W.heap.size + 2) 35 #[.int .i64 0, .int .i64 0] (0, 0) _ rfl (by (repeat (first | refine blk_drewN ?_ _ | refine blk_drew ?_)); refine blk_put (cs := #[.int .i64 0, .int .i64 0]) ?_ 1 _ rfl; refine blk_put (cs := #[.int .i64 0, .int .i64 0]) ?_ 0 _ rfl; exact Z2.out) Tryd.underlying35 rfl (by kernel_rfl)) rfl ?_
  exact ⟨rfl, by first | exact below_set2 B2.out (by omega) _ _ | exact below_drew (below_set2 B2.out (by omega) _ _)⟩
set_option maxHeartbeats 3200000 in
set_option maxRecDepth 100000 in
theorem impl_MulFractions.yes (n d n' d' : Int) (W : World) (c1 : okF n d = true) (c2 : okF n' d' = true) :
    Calls Tryd.prog 13 #[.agg #[.int .i64 n, .int .i64 d], .agg #[.int .i64 n', .int .i64 d']] W fun e w' => e = .returned (.tuple #[.agg #[.int .i64 (mkF (n * n') (d * d')).1, .int .i64 (mkF (n * n') (d * d')).2.1], .bool (mkF (n * n') (d * d')).2.2]) ∧ Below W.heap.size W w' := by
  have hu23 := Tryd.underlying35
  have B0 := Aside0.mk (below_box W n d n' d')
  have X0 := Aside0.mk (box0 W n d n' d')
  have Y0 := Aside0.mk (box1 W n d n' d')
  have Z0 := Aside0.mk (box2 W n d n' d')
  obtain ⟨pn, pd, a0⟩ := okF_parts c1
  obtain ⟨pn', pd', b0⟩ := okF_parts c2
  have hr1 := Aside0.mk (fun w => rat_ok n d w c1)
  have hr2 := Aside0.mk (fun w => rat_ok n' d' w c2)
  have ln := lo_part pn
  have ld := lo_part pd
  have ln' := lo_part pn'
  have ld' := lo_part pd'
  have hop := Aside0.mk (fun g gx gy w hb hx hy => impl_exactRat_Mul.law g gx gy n d n' d' (.bool false) (.slice none 0 0) (.slice none 0 0) w hb hx hy ln ld ln' ld')
  have f1 := Aside0.mk (show Fits2 (n * n') from fits2_mul pn pn')
  have f2 := Aside0.mk (show Fits2 (d * d') from fits2_mul pd pd')
  clear a0 b0 pn pd pn' pd' ln ld ln' ld'
  go_enter Tryd.func13, Tryd.ntmps13
  go_wp2_with (first
    | (go_at_call 23; refine (impl_ValidFraction.law n' d' w1).mono ?_; rintro e w2 ⟨rfl, hB⟩; rw [c2]; have B2 := Aside0.mk (below_step B1.out hB); have X2 := Aside0.mk (blk_below X1.out hB); have Y2 := Aside0.mk (blk_below Y1.out hB); have Z2 := Aside0.mk (blk_below Z1.out hB); obtain ⟨s0, s1, -, -⟩ := two_cells X2.out; obtain ⟨t0, t1, -, -⟩ := two_cells Y2.out; obtain ⟨y0, y1, y2, y3⟩ := two_cells Z2.out; clear hB)
    | (go_at_call 23; refine (impl_ValidFraction.law n d _).mono ?_; rintro e w1 ⟨rfl, hB⟩; rw [c1]; have B1 := Aside0.mk (below_step B0.out hB); have X1 := Aside0.mk (blk_below X0.out hB); have Y1 := Aside0.mk (blk_below Y0.out hB); have Z1 := Aside0.mk (blk_below Z0.out hB); obtain ⟨p0, p1, -, -⟩ := two_cells X1.out; obtain ⟨q0, q1, -, -⟩ := two_cells Y1.out; obtain ⟨r0, r1, r2, r3⟩ := two_cells Z1.out; clear hB))
  go_region_held3 (fun w' => w'.cell? ⟨W.heap.size, 0, none⟩ = some (.int .i64 n) ∧ w'.cell? ⟨W.heap.size, 1, none⟩ = some (.int .i64 d) ∧ w'.cell? ⟨W.heap.size + 1, 0, none⟩ = some (.int .i64 n') ∧ w'.cell? ⟨W.heap.size + 1, 1, none⟩ = some (.int .i64 d'))
    (first
      | exact ⟨(P7.out _ _).1, (P7.out _ _).2.1, (P7.out _ _).2.2.1, (P7.out _ _).2.2.2⟩
      | exact ⟨P6.out.1, P6.out.2.1, P6.out.2.2.1, P6.out.2.2.2⟩
      | exact ⟨P5.out.1, P5.out.2.1, P5.out.2.2.1, P5.out.2.2.2⟩
      | exact ⟨P4.out.1, P4.out.2.1, P4.out.2.2.1, P4.out.2.2.2⟩
      | exact ⟨P4b.out.1, P4b.out.2.1, P4b.out.2.2.1, P4b.out.2.2.2⟩
      | exact ⟨P4c.out.1, P4c.out.2.1, P4c.out.2.2.1, P4c.out.2.2.2⟩
      | exact ⟨P3.out.1, P3.out.2.1, P3.out.2.2.1, P3.out.2.2.2⟩
      | exact ⟨P3b.out.1, P3b.out.2.1, P3b.out.2.2.1, P3b.out.2.2.2⟩
      | exact ⟨s0, s1, t0, t1⟩
      | exact four_cells (blk_alloc (w := w2.drew) X2.out zeroR) (blk_alloc (w := w2.drew) Y2.out zeroR)
      | exact four_cells (blk_alloc (w := v3) X3b.out zeroR) (blk_alloc (w := v3) Y3b.out zeroR)
      | exact four_cells (blk_alloc (w := u4) X4c.out zeroR) (blk_alloc (w := u4) Y4c.out zeroR)
      | go_keep)
    (first
      | (go_at_call 26; refine (hr2.out w3).mono ?_; rintro e w4 ⟨g24, rfl, j1_, j2_, j3_⟩; have R24 := Aside0.mk j2_; have R14 := Aside0.mk ((R13.out).below j3_); have C4 := Aside0.mk (below_step C3.out j3_); have X4 := Aside0.mk (blk_below X3.out j3_); have Y4 := Aside0.mk (blk_below Y3.out j3_); have Z4 := Aside0.mk (blk_below Z3.out j3_); have P4 := Aside0.mk (four_cells X4.out Y4.out); have N4 := Aside0.mk (blk_below N3.out j3_); clear j1_ j2_ j3_)
      | (go_at_call 26; refine (hr2.out (v3.alloc zeroR)).mono ?_; rintro e v4 ⟨g24b, rfl, j1_, j2_, j3_⟩; have R24b := Aside0.mk j2_; have R14b := Aside0.mk (((R13b.out.below (below_alloc (Below.refl _ _) zeroR))).below j3_); have C4b := Aside0.mk (below_step (below_alloc C3b.out zeroR) j3_); have X4b := Aside0.mk (blk_below (blk_alloc (w := v3) X3b.out zeroR) j3_); have Y4b := Aside0.mk (blk_below (blk_alloc (w := v3) Y3b.out zeroR) j3_); have Z4b := Aside0.mk (blk_below (blk_alloc (w := v3) Z3b.out zeroR) j3_); have P4b := Aside0.mk (four_cells X4b.out Y4b.out); have N4b := Aside0.mk (blk_below (blk_new v3 zeroR) j3_); clear j1_ j2_ j3_)
      | (go_at_call 26; refine (hr2.out v3).mono ?_; rintro e u4 ⟨g24c, rfl, j1_, j2_, j3_⟩; have R24c := Aside0.mk j2_; have R14c := Aside0.mk ((R13b.out).below j3_); have C4c := Aside0.mk (below_step C3b.out j3_); have X4c := Aside0.mk (blk_below X3b.out j3_); have Y4c := Aside0.mk (blk_below Y3b.out j3_); have Z4c := Aside0.mk (blk_below Z3b.out j3_); have P4c := Aside0.mk (four_cells X4c.out Y4c.out); have S4c := Aside0.mk j3_.size; clear j1_ j2_ j3_)
      | (go_at_call 26; refine (hr1.out (w2.drew.alloc zeroR)).mono ?_; rintro e w3 ⟨g13, rfl, j1_, j2_, j3_⟩; have R13 := Aside0.mk j2_; have C3 := Aside0.mk (below_step (below_alloc (below_drew B2.out) zeroR) j3_); have X3 := Aside0.mk (blk_below (blk_alloc (w := w2.drew) X2.out zeroR) j3_); have Y3 := Aside0.mk (blk_below (blk_alloc (w := w2.drew) Y2.out zeroR) j3_); have Z3 := Aside0.mk (blk_below (blk_alloc (w := w2.drew) Z2.out zeroR) j3_); have P3 := Aside0.mk (four_cells X3.out Y3.out); have N3 := Aside0.mk (show w3.heap[w2.heap.size]? = some zeroR from blk_below (blk_new w2.drew zeroR) j3_); clear j1_ j2_ j3_)
      | (go_at_call 26; refine (hr1.out w2.drew).mono ?_; rintro e v3 ⟨g13b, rfl, j1_, j2_, j3_⟩; have R13b := Aside0.mk j2_; have C3b := Aside0.mk (below_step (below_drew B2.out) j3_); have X3b := Aside0.mk (blk_below (w := w2.drew) X2.out j3_); have Y3b := Aside0.mk (blk_below (w := w2.drew) Y2.out j3_); have Z3b := Aside0.mk (blk_below (w := w2.drew) Z2.out j3_); have P3b := Aside0.mk (four_cells X3b.out Y3b.out); have S3b := Aside0.mk (show w2.heap.size ≤ v3.heap.size from j3_.size); clear j1_ j2_ j3_)
      | (go_at_call 25; refine (hop.out w2.heap.size g13 g24 w4 N4.out R14.out R24.out).mono ?_; rintro e w5 ⟨rfl, j1_, j2_⟩; have R5 := Aside0.mk j1_; have C5 := Aside0.mk (below_at C4.out j2_ (by have := B2.out.size; skip; omega)); have X5 := Aside0.mk (blk_grown X4.out j2_ (by have := blk_lt X2.out; skip; simp; omega)); have Y5 := Aside0.mk (blk_grown Y4.out j2_ (by have := blk_lt Y2.out; skip; simp; omega)); have Z5 := Aside0.mk (blk_grown Z4.out j2_ (by have := blk_lt Z2.out; skip; simp; omega)); have P5 := Aside0.mk (four_cells X5.out Y5.out); clear j1_ j2_)
      | (go_at_call 25; refine (hop.out v3.heap.size g13b g24b v4 N4b.out R14b.out R24b.out).mono ?_; rintro e w5 ⟨rfl, j1_, j2_⟩; have R5 := Aside0.mk j1_; have C5 := Aside0.mk (below_at C4b.out j2_ (by have := B2.out.size; have := S3b.out; omega)); have X5 := Aside0.mk (blk_grown X4b.out j2_ (by have := blk_lt X2.out; have := S3b.out; simp; omega)); have Y5 := Aside0.mk (blk_grown Y4b.out j2_ (by have := blk_lt Y2.out; have := S3b.out; simp; omega)); have Z5 := Aside0.mk (blk_grown Z4b.out j2_ (by have := blk_lt Z2.out; have := S3b.out; simp; omega)); have P5 := Aside0.mk (four_cells X5.out Y5.out); clear j1_ j2_)
      | (go_at_call 25; refine (hop.out u4.heap.size g13b g24c (u4.alloc zeroR) (blk_new u4 zeroR) (R14c.out.below (below_alloc (Below.refl _ _) zeroR)) (R24c.out.below (below_alloc (Below.refl _ _) zeroR))).mono ?_; rintro e w5 ⟨rfl, j1_, j2_⟩; have R5 := Aside0.mk j1_; have C5 := Aside0.mk (below_at (below_alloc C4c.out zeroR) j2_ (by have := B2.out.size; have := S3b.out; have := S4c.out; omega)); have X5 := Aside0.mk (blk_grown (blk_alloc (w := u4) X4c.out zeroR) j2_ (by have := blk_lt X2.out; have := S3b.out; have := S4c.out; simp; omega)); have Y5 := Aside0.mk (blk_grown (blk_alloc (w := u4) Y4c.out zeroR) j2_ (by have := blk_lt Y2.out; have := S3b.out; have := S4c.out; simp; omega)); have Z5 := Aside0.mk (blk_grown (blk_alloc (w := u4) Z4c.out zeroR) j2_ (by have := blk_lt Z2.out; have := S3b.out; have := S4c.out; simp; omega)); have P5 := Aside0.mk (four_cells X5.out Y5.out); clear j1_ j2_)
      | (go_at_call 21; refine (checked_new _ _ _ w5 R5.out f1.out f2.out).mono ?_; rintro e w6 ⟨rfl, j3_⟩; have C6 := Aside0.mk (below_step C5.out j3_); have X6 := Aside0.mk (blk_below X5.out j3_); have Y6 := Aside0.mk (blk_below Y5.out j3_); have Z6 := Aside0.mk (blk_below Z5.out j3_); have P6 := Aside0.mk (four_cells X6.out Y6.out); have P7 := Aside0.mk (fun a b => four_cells (blk_put_ne (blk_put_ne (i := 0) (v := a) X6.out (show W.heap.size ≠ W.heap.size + 2 by omega)) (i := 1) (v := b) (show W.heap.size ≠ W.heap.size + 2 by omega)) (blk_put_ne (blk_put_ne (i := 0) (v := a) Y6.out (show W.heap.size + 1 ≠ W.heap.size + 2 by omega)) (i := 1) (v := b) (show W.heap.size + 1 ≠ W.heap.size + 2 by omega))); obtain ⟨v0_, v1_, v2_, v3_⟩ := two_cells Z6.out; clear j3_))
  all_goals (try go_wp2)
  all_goals (
    refine bodyPost_ret (results_ct rfl _ _ (W.heap.size + 2) 35 #[.int .i64 (mkF (n * n') (d * d')).1, .int .i64 (mkF (n * n') (d * d')).2.1] (0, 0) _ rfl (by (repeat (first | refine blk_drewN ?_ _ | refine blk_drew ?_)); refine blk_put (cs := #[.int .i64 (mkF (n * n') (d * d')).1, .int .i64 0]) ?_ 1 _ rfl; refine blk_put (cs := #[.int .i64 0, .int .i64 0]) ?_ 0 _ rfl; exact Z6.out) Tryd.underlying35 rfl (by kernel_rfl)) rfl ?_
    exact ⟨rfl, by first | exact below_set2 C6.out (by omega) _ _ | exact below_drew (below_set2 C6.out (by omega) _ _)⟩)
theorem impl_MulFractions.calls (a0_0 : Int) (a0_1 : Int) (a1_0 : Int) (a1_1 : Int) (r1 : Int) (r2 : Int) (r3 : Bool) (w : World) (h : impl_MulFractions.f a0_0 a0_1 a1_0 a1_1 = some (r1, r2, r3)) :
    Calls Tryd.prog 13 #[.agg #[.int .i64 a0_0, .int .i64 a0_1], .agg #[.int .i64 a1_0, .int .i64 a1_1]] w fun e w' => e = .returned (.tuple #[.agg #[.int .i64 r1, .int .i64 r2], .bool r3]) ∧ Below w.heap.size w w' := by
  have h := Option.some.inj h
  cases c1 : okF a0_0 a0_1
  · rw [if_neg (fun z => by rw [c1] at z; exact absurd z.1 (by decide))] at h
    have := impl_MulFractions.no1 a0_0 a0_1 a1_0 a1_1 w c1
    rw [h] at this
    exact this
  · cases c2 : okF a1_0 a1_1
    · rw [if_neg (fun z => by rw [c2] at z; exact absurd z.2 (by decide))] at h
      have := impl_MulFractions.no2 a0_0 a0_1 a1_0 a1_1 w c1 c2
      rw [h] at this
      exact this
    · rw [if_pos ⟨c1, c2⟩] at h
      have := impl_MulFractions.yes a0_0 a0_1 a1_0 a1_1 w c1 c2
      rw [h] at this
      exact this

end Go.Proofs.YtdgohcdemnmieaaDoor.A
/- slices.Repeat at one fraction and at most sixteen copies. No conditions. -/
namespace Go.Proofs.YtdgohcdemnmieaaDoor.A
open Go.RowKit Go.Proofs.YtdgohcdemnmieaaDoorW.PrintWords Go.Proofs.YtdgohcdemnmieaaDoorW.PrintLast Go.Proofs.YtdgohcdemnmieaaDoorW.PrintMore
set_option linter.unusedVariables false
set_option linter.unusedSimpArgs false
/-- copy between rows of elements of z cells. -/
theorem run_copy_rowz {P : Program} (w : World) (dT sT ty elem : TypeId) (g o dLen dCap : Nat) (a : Addr) (sLen sCap : Nat) (cur : Array Value) (t : TypeId) (cs : List Value) (z : Nat)
    (hu : P.underlying dT = some (.slice elem)) (hs : (P.info? elem).map (·.size) = some z)
    (hg : w.heap[g]? = some (.cells cur t (0, 0))) (m : Nat) (hm : Nat.min sLen dLen = m) (hn : cs.length = m * z)
    (hsrc : ∀ j v, cs[j]? = some v → w.cell? (a.add j) = some v) (hfit : o + cs.length ≤ cur.size) (h1 : ∀ v ∈ cs, v.oneCell' = true) :
    (Builtin.copy_ #[dT, sT] ty #[.slice (some ⟨g, o, none⟩) dLen dCap, .slice (some a) sLen sCap]).run P w =
      .ok (goInt m) (w.setRow g (cur.toList.take o ++ (cs ++ cur.toList.drop (o + cs.length))).toArray) := by
  subst hm
  have hl := run_loadCells_list (P := P) w a cs hsrc
  have hst := run_storeCells_at P g o t cs 0 cur w hg (by simpa using hfit) h1
  cases hq : P.info? elem with
  | none => simp [hq] at hs
  | some i =>
    have hi : i.size = z := by simpa [hq] using hs
    rw [hn] at hl
    simp [Builtin.copy_, run_underlying hu, Builtin.lenOf, Builtin.firstCells, sizeOf, typeInfo, hq, hi, hl, hst]
theorem wpList_copy_rowz {P : Program} {w : World} {ops : Array Oper} {rest : List Oper} {o : Oper} {a : Act} {Q : Exit → Act → World → Prop} (hgd : o.guard = none) (d s : Operand) (dT sT : TypeId)
    (ho : o.op = .call { callee := .builtin .copy, args := #[d, s], argTypes := #[dT, sT] }) (elem : TypeId) (z : Nat) (hu : P.underlying dT = some (.slice elem)) (hsz : (P.info? elem).map (·.size) = some z)
    (g off dLen dCap : Nat) (ad : Addr) (sLen sCap : Nat) (hd : a.eval d = .slice (some ⟨g, off, none⟩) dLen dCap) (hs : a.eval s = .slice (some ad) sLen sCap)
    (cur : List Value) (t : TypeId) (hg : w.heap[g]? = some (.cells cur.toArray t (0, 0))) (cs : List Value) (m : Nat) (hm : Nat.min sLen dLen = m) (hn : cs.length = m * z)
    (hsrc : ∀ j v, cs[j]? = some v → w.cell? (ad.add j) = some v) (hfit : off + cs.length ≤ cur.length) (h1 : ∀ v ∈ cs, v.oneCell' = true) (B : Nat) (w0 : World) (hb : Below B w0 w) (hBg : B ≤ g)
    (h : ∀ w', Aside0 (w'.heap[g]? = some (.cells (splice cur off cs).toArray t (0, 0))) → Below B w0 w' → wpList P ops Q rest (a.put o.dst (goInt m)) w') : wpList P ops Q (o :: rest) a w := by
  refine wpList_plain hgd fun K hK => ?_
  have hrun := run_copy_rowz (P := P) w dT sT o.type elem g off dLen dCap ad sLen sCap cur.toArray t cs z hu hsz hg m hm hn hsrc (by simpa using hfit) h1
  unfold Oper.wp
  simp [execOp, ho, resolve, invoke, builtin, hd, hs, hrun, Result.andThen]
  exact hK _ _ (h _ ⟨by simpa [splice] using setRow_heap w g _ _ t _ hg⟩ (below_setRow hb hBg _))
theorem step_copy_rowz {P : Program} {ops : Array Oper} {o : Oper} {a : Act} {w : World} {K : Act → World → Prop} {Q : Exit → Act → World → Prop} {E : Prop} (hgd : o.guard = none) (d s : Operand) (dT sT : TypeId)
    (ho : o.op = .call { callee := .builtin .copy, args := #[d, s], argTypes := #[dT, sT] }) (elem : TypeId) (z : Nat) (hu : P.underlying dT = some (.slice elem)) (hsz : (P.info? elem).map (·.size) = some z)
    (g off dLen dCap : Nat) (ad : Addr) (sLen sCap : Nat) (hd : a.eval d = .slice (some ⟨g, off, none⟩) dLen dCap) (hs : a.eval s = .slice (some ad) sLen sCap)
    (cur : List Value) (t : TypeId) (hg : w.heap[g]? = some (.cells cur.toArray t (0, 0))) (cs : List Value) (m : Nat) (hm : Nat.min sLen dLen = m) (hn : cs.length = m * z)
    (hsrc : ∀ j v, cs[j]? = some v → w.cell? (ad.add j) = some v) (hfit : off + cs.length ≤ cur.length) (h1 : ∀ v ∈ cs, v.oneCell' = true) (B : Nat) (w0 : World) (hb : Below B w0 w) (hBg : B ≤ g)
    (h : ∀ w', Aside0 (w'.heap[g]? = some (.cells (splice cur off cs).toArray t (0, 0))) → Below B w0 w' → K (a.put o.dst (goInt m)) w') :
    if Region.wanted o (yielded ops a.tmps) = true then Oper.wp P o a w K Q else E := by
  have hw : Region.wanted o (yielded ops a.tmps) = true := by simp [Region.wanted, hgd]
  rw [if_pos hw]
  have hrun := run_copy_rowz (P := P) w dT sT o.type elem g off dLen dCap ad sLen sCap cur.toArray t cs z hu hsz hg m hm hn hsrc (by simpa using hfit) h1
  unfold Oper.wp
  simp [execOp, ho, resolve, invoke, builtin, hd, hs, hrun, Result.andThen]
  exact h _ ⟨by simpa [splice] using setRow_heap w g _ _ t _ hg⟩ (below_setRow hb hBg _)
/-- k elements a, b one after another. -/
def repC (a b : Value) (k : Nat) : List Value := (List.replicate k [a, b]).flatten
theorem repC_len (a b : Value) (k : Nat) : (repC a b k).length = k * 2 := by simp [repC]
theorem repC_add (a b : Value) (k j : Nat) : repC a b (k + j) = repC a b k ++ repC a b j := by
  unfold repC
  rw [← List.flatten_append, List.replicate_append_replicate]
theorem repC_one {a b : Value} (ha : a.oneCell' = true) (hb : b.oneCell' = true) (k : Nat) : ∀ v ∈ repC a b k, v.oneCell' = true := by
  intro v hv
  simp only [repC, List.mem_flatten, List.mem_replicate] at hv
  obtain ⟨l, ⟨-, rfl⟩, hv⟩ := hv
  simp only [List.mem_cons, List.not_mem_nil, or_false] at hv
  rcases hv with rfl | rfl <;> assumption
theorem repC_splice (a b x y : Value) (k j m : Nat) : splice (repC a b k ++ repC x y (j + m)) (k * 2) (repC a b j) = repC a b (k + j) ++ repC x y m := by
  unfold splice
  rw [List.take_left' (repC_len a b k), repC_len, repC_add a b, repC_add x y, ← List.append_assoc (repC a b k) (repC x y j), List.drop_left' (by rw [List.length_append, repC_len, repC_len]), List.append_assoc]
theorem repC_zero (x : Value) (N : Nat) : madeCells #[x, x] (N * 2) = (repC x x N).toArray := by
  have h : repC x x N = List.replicate (N * 2) x := by
    induction N with
    | zero => rfl
    | succ N ih => rw [repC_add, ih, show (N + 1) * 2 = N * 2 + 2 by omega, ← List.replicate_append_replicate]; rfl
  rw [h]
  unfold madeCells
  apply Array.ext
  · simp
  · intro i h1 h2
    simp only [Array.getElem_map, Array.getElem_range]
    have h0 : (#[x, x] : Array Value).size = 2 := rfl
    rw [h0]
    rcases (show i % 2 = 0 ∨ i % 2 = 1 by omega) with h3 | h3 <;> rw [h3] <;> simp
theorem repC_get (a b : Value) (N k : Nat) (h : k < N) : (repC a b N)[k * 2]? = some a ∧ (repC a b N)[k * 2 + 1]? = some b := by
  obtain ⟨m, rfl⟩ : ∃ m, N = k + (1 + m) := ⟨N - k - 1, by omega⟩
  have e : repC a b (k + (1 + m)) = repC a b k ++ ([a, b] ++ repC a b m) := by rw [repC_add, repC_add a b 1 m]; rfl
  rw [e]
  constructor
  · rw [List.getElem?_append_right (by rw [repC_len]; omega), repC_len, Nat.sub_self]; rfl
  · rw [List.getElem?_append_right (by rw [repC_len]; omega), repC_len, show k * 2 + 1 - k * 2 = 1 by omega]; rfl
theorem repC_take (a b x y : Value) (k j m : Nat) (h : j ≤ k) (i : Nat) (v : Value) (hv : (repC a b j)[i]? = some v) : (repC a b k ++ repC x y m)[i]? = some v := by
  obtain ⟨p, rfl⟩ : ∃ p, k = j + p := ⟨k - j, by omega⟩
  have hi := (List.getElem?_eq_some_iff.1 hv).1
  rw [repC_add, List.append_assoc, List.getElem?_append_left hi, hv]
theorem rep_src {w : World} {g : Nat} {n d : Int} (h : w.heap[g]? = some (boxF n d)) {K : Nat} (hK : K ≤ 1) (j : Nat) (v : Value) (hv : (repC (.int .i64 n) (.int .i64 d) K)[j]? = some v) : w.cell? ((⟨g, 0, none⟩ : Addr).add j) = some v := by
  have hadd : (⟨g, 0, none⟩ : Addr).add j = ⟨g, j, none⟩ := by unfold Addr.add; split <;> simp_all
  rw [hadd, blk_cell h j]
  rcases (show K = 0 ∨ K = 1 by omega) with rfl | rfl
  · simp [repC] at hv
  · simpa [repC] using hv
theorem rep_own {w : World} {g : Nat} {a b x y : Value} {T : TypeId} {k m : Nat} (h : w.heap[g]? = some (.cells (repC a b k ++ repC x y m).toArray T (0, 0))) {J : Nat} (hJ : J ≤ k) (j : Nat) (v : Value) (hv : (repC a b J)[j]? = some v) : w.cell? ((⟨g, 0, none⟩ : Addr).add j) = some v := by
  have hadd : (⟨g, 0, none⟩ : Addr).add j = ⟨g, j, none⟩ := by unfold Addr.add; split <;> simp_all
  rw [hadd, blk_cell h j]
  have := repC_take a b x y k J m hJ j v hv
  simpa using this
theorem mul_one_is : ∀ N : Nat, N ≤ 16 → bits_Mul.f 1 (N : Int) = some (0, (N : Int)) := by decide +kernel
theorem info_frac : (Tryd.prog.info? 35).map (fun i => (i.zero, i.size, i.bytes)) = some (some (.agg #[.int .i64 0, .int .i64 0]), 2, 16) := by kernel_rfl
theorem info_frac2 : (Tryd.prog.info? 35).map (·.size) = some 2 := by kernel_rfl
theorem make_frac (N : Nat) (hN : N ≤ 16) (w : World) : (Instr.makeSlice 53 (.int .i64 (N : Int)) (.int .i64 (N : Int))).run Tryd.prog w = .ok (.slice (some ⟨w.heap.size, 0, none⟩) N N) (w.alloc (.cells (repC (.int .i64 0) (.int .i64 0) N).toArray 35)) := by
  obtain ⟨i, hi, hz⟩ := Option.map_eq_some_iff.1 info_frac
  simp only [Prod.mk.injEq] at hz
  obtain ⟨hz0, hz1, hz2⟩ := hz
  have h := run_make (P := Tryd.prog) w 53 35 i _ Tryd.underlying53 hi hz0 .i64 .i64 (N : Int) (N : Int) (by omega) (by omega) (by rw [hz2]; omega) (by omega)
  rw [Int.toNat_natCast, hz1] at h
  rw [h, ← repC_zero]
  rfl
def RepPost (n d : Int) (N : Nat) (w : World) (e : Ending) (w' : World) : Prop := ∃ g', w.heap.size ≤ g' ∧ e = .returned (.slice (some ⟨g', 0, none⟩) N N) ∧ w'.heap[g']? = some (.cells (repC (.int .i64 n) (.int .i64 d) N).toArray 35 (0, 0)) ∧ Below w.heap.size w w'
set_option maxHeartbeats 3200000 in
set_option maxRecDepth 100000 in
theorem impl_FailChance.repeat_ (g : Nat) (c0 : Nat) (n d : Int) (N : Nat) (w : World) (hN : N ≤ 16) (hg : w.heap[g]? = some (boxF n d)) :
    Calls Tryd.prog 24 #[.slice (some ⟨g, 0, none⟩) 1 c0, .int .i64 (N : Int)] w (RepPost n d N w) := by
  have hneg : decide ((N : Int) < 0) = false := decide_eq_false (by omega)
  have hbig : decide ((9223372036854775807 : Int) < (N : Int)) = false := decide_eq_false (by omega)
  have hu : IntKind.u64.wrap (N : Int) = (N : Int) := by rw [IntKind.wrap_u64]; omega
  have hi : IntKind.i64.wrap (N : Int) = (N : Int) := by rw [IntKind.wrap_i64]; omega
  have HM := Aside0.mk (mul_one_is N hN)
  have HG := Aside0.mk hg
  have hmk := make_frac N hN
  obtain ⟨K0, hK0⟩ : ∃ K0, Nat.min 1 N = K0 := ⟨_, rfl⟩
  have hK1 : K0 ≤ N ∧ (N = 0 ∨ 1 ≤ K0) ∧ K0 ≤ 1 := by subst hK0; simp only [Nat.min_def]; split <;> omega
  have HK0 := Aside0.mk hK0
  have HK1 := Aside0.mk hK1
  clear hg hK0 hK1
  go_enter Tryd.func24, Tryd.ntmps24
  go_wp2_with (first
    | (go_at_call 39; refine (bits_Mul.calls 1 (N : Int) _ _ _ HM.out).mono ?_; rintro e w1 ⟨rfl, m, hm⟩; have G1 := Aside0.mk (show w1.heap[g]? = some (boxF n d) by rw [hm]; exact HG.out); have C1 := Aside0.mk (show Below w.heap.size w w1 by rw [hm]; exact pw_below_drewN (Below.refl _ _) m); clear hm)
    | ((with_reducible refine gate_builtin (b := .copy) (xs := #[.tmp 31, .tmp 32]) rfl ?_); refine wpList_copy_rowz rfl (.tmp 31) (.tmp 32) 53 53 rfl 35 2 Tryd.underlying53 info_frac2 w1.heap.size 0 N N ⟨g, 0, none⟩ 1 c0 rfl rfl (repC (.int .i64 0) (.int .i64 0) N) 35 (blk_new w1 _) (repC (.int .i64 n) (.int .i64 d) K0) K0 HK0.out (repC_len _ _ _) ?aS ?aF ?aO w.heap.size w (below_alloc C1.out _) C1.out.size ?_; (case aS => exact rep_src (blk_alloc G1.out _) HK1.out.2.2); (case aF => (rw [repC_len, repC_len]; have := HK1.out.1; omega)); (case aO => exact repC_one rfl rfl _); intro w2 HR2 hB2; have B2 := Aside0.mk hB2; clear hB2))
  go_loopw [8] (fun v8 wr => ∃ k : Nat, k ≤ N ∧ (N = 0 ∨ 1 ≤ k) ∧ v8 = .int .i64 (k : Int) ∧ Aside0 (wr.heap[w1.heap.size]? = some (.cells (repC (.int .i64 n) (.int .i64 d) k ++ repC (.int .i64 0) (.int .i64 0) (N - k)).toArray 35 (0, 0))) ∧ Aside0 (Below w.heap.size w wr)) (fun v8 _ => N - (intOf v8).toNat)
  case atStart =>
    refine ⟨K0, HK1.out.1, HK1.out.2.1, rfl, ⟨?_⟩, B2⟩
    have h := HR2.out
    have e := repC_splice (.int .i64 n) (.int .i64 d) (.int .i64 0) (.int .i64 0) 0 K0 (N - K0)
    rw [show K0 + (N - K0) = N by have := HK1.out.1; omega, Nat.zero_add, Nat.zero_mul] at e
    rw [show repC (.int .i64 n) (.int .i64 d) 0 ++ repC (.int .i64 0) (.int .i64 0) N = repC (.int .i64 0) (.int .i64 0) N from rfl] at e
    rw [e] at h
    exact h
  case round =>
    obtain ⟨k, hk, hk1, rfl, HR, HB⟩ := hrel
    by_cases hlt : k < N
    · obtain ⟨j, hj⟩ : ∃ j, Nat.min k (N - k) = j := ⟨_, rfl⟩
      have hj2 : j ≤ k ∧ j ≤ N - k ∧ 1 ≤ j := by subst hj; simp only [Nat.min_def]; split <;> omega
      obtain ⟨m, hm⟩ : ∃ m, N - k = j + m := ⟨N - k - j, by omega⟩
      have hw : IntKind.i64.wrap ((k : Int) + (j : Int)) = ((k + j : Nat) : Int) := by rw [IntKind.wrap_i64]; omega
      have hNk : ¬ N = k := by omega
      have hb0 : (0 : Int) ≤ (k : Int) := by omega
      have hb1 : (k : Int) ≤ (N : Int) := by omega
      have HJ := Aside0.mk hj
      have HJ2 := Aside0.mk hj2
      have HMM := Aside0.mk hm
      have hsp := repC_splice (.int .i64 n) (.int .i64 d) (.int .i64 0) (.int .i64 0) k j m
      have HSP := Aside0.mk hsp
      have HRm := HR.out
      rw [hm] at HRm
      have HR' := Aside0.mk HRm
      clear hj hj2 hm hsp HRm
      go_wp2
      go_region_law (refine step_copy_rowz rfl (.tmp 41) (.tmp 44) 53 53 (by rfl) 35 2 Tryd.underlying53 info_frac2 w1.heap.size (k * 2) (N - k) (N - k) ⟨w1.heap.size, 0, none⟩ k N (by rfl) (by rfl) (repC (.int .i64 n) (.int .i64 d) k ++ repC (.int .i64 0) (.int .i64 0) (j + m)) 35 HR'.out (repC (.int .i64 n) (.int .i64 d) j) j HJ.out (repC_len _ _ _) (rep_own HR'.out HJ2.out.1) (by rw [List.length_append, repC_len, repC_len, repC_len]; omega) (repC_one rfl rfl _) w.heap.size w (below_drew HB.out) C1.out.size ?_; intro w4 HR4 hB4; have B4 := Aside0.mk hB4; clear hB4)
      simp only [Act.put, List.getElem_toArray, List.getElem_cons_zero, List.getElem_cons_succ, List.setIfInBounds_toArray, List.set_cons_zero, List.set_cons_succ]
      go_wp2
      refine ⟨?_, ?_⟩
      · first
          | (refine ⟨k + j, by have := HJ2.out; omega, Or.inr (by have := HJ2.out; omega), rfl, ⟨?_⟩, B4⟩
             have h4 := HR4.out
             rw [HSP.out] at h4
             rw [show N - (k + j) = m by have := HMM.out; omega]
             exact h4)
          | ((repeat apply Exists.intro)
             refine ⟨⟨k + j, by have := HJ2.out; omega, Or.inr (by have := HJ2.out; omega), rfl, ⟨?_⟩, B4⟩, rfl⟩
             have h4 := HR4.out
             rw [HSP.out] at h4
             rw [show N - (k + j) = m by have := HMM.out; omega]
             exact h4)
          | (trace_state; sorry)
      · simp [intOf]; have := HJ2.out; omega
    · obtain rfl : k = N := by omega
      have hf := HR.out
      rw [Nat.sub_self, show repC (.int .i64 0) (.int .i64 0) 0 = [] from rfl, List.append_nil] at hf
      have HF := Aside0.mk hf
      clear hf
      go_wp2
      go_ret
      exact ⟨w1.heap.size, C1.out.size, rfl, HF.out, HB.out⟩
end Go.Proofs.YtdgohcdemnmieaaDoor.A
-- Printed by this session's oprint.py through the kit's printer.
namespace Go.Proofs.YtdgohcdemnmieaaDoor.A
open Go.RowKit Go.Proofs.YtdgohcdemnmieaaDoorW.PrintWords Go.Proofs.YtdgohcdemnmieaaDoorW.PrintLast Go.Proofs.YtdgohcdemnmieaaDoorW.PrintMore
attribute [local go_sem] max2_int min2_int max_two min_two max_three min_three max_four min_four   -- for this text's walks alone
set_option linter.unusedVariables false
set_option linter.unusedSimpArgs false

/-! ### impl_FailChance: function 12 -/
-- given: proved by hand (failchance.tpl)
/-- A product of two, as MulFractions tells it. -/
def mulR (n d n' d' : Int) : Int × Int × Bool := if okF n d = true ∧ okF n' d' = true then mkF (n * n') (d * d') else (0, 0, false)
def mulN (n d : Int) : Nat → Int → Int → Int × Int × Bool
  | 0, a, b => (a, b, true)
  | k + 1, a, b => if (mulR a b n d).2.2 = true then mulN n d k (mulR a b n d).1 (mulR a b n d).2.1 else (0, 0, false)
def chanceOk (n d s : Int) : Prop := okF n d = true ∧ 0 ≤ n ∧ n ≤ d ∧ 0 ≤ s ∧ s ≤ 16
instance (n d s : Int) : Decidable (chanceOk n d s) := by unfold chanceOk; exact inferInstance
def impl_FailChance.f (n d s : Int) : Option (Int × Int × Bool) := some (if chanceOk n d s then mulN n d s.toNat 1 1 else (0, 0, false))
set_option maxHeartbeats 3200000 in
set_option maxRecDepth 100000 in
theorem impl_FailChance.no (n d s : Int) (w : World) (hno : ¬ chanceOk n d s) :
    Calls Tryd.prog 12 #[.agg #[.int .i64 n, .int .i64 d], .int .i64 s] w fun e w' => e = .returned (.tuple #[.agg #[.int .i64 0, .int .i64 0], .bool false]) ∧ Below w.heap.size w w' := by
  have hu23 := Tryd.underlying35; have CA := Aside0.mk (below_alloc (below_alloc (Below.refl w.heap.size w) (boxF n d)) zeroF); have BX := Aside0.mk (blk_alloc (blk_new w (boxF n d)) zeroF); have BK := Aside0.mk (blk_new (w.alloc (boxF n d)) zeroF); rw [size_alloc'] at BK; obtain ⟨x0, x1, -, -⟩ := two_cells BX.out
  cases c1 : okF n d
  · clear hno
    go_enter Tryd.func12, Tryd.ntmps12
    go_wp2_with (first
      | (go_at_call 23; refine (impl_ValidFraction.law n d _).mono ?_; rintro e w1 ⟨rfl, hB⟩; rw [c1]; have C1 := Aside0.mk (below_step CA.out hB); have BK1 := Aside0.mk (blk_below BK.out hB); obtain ⟨z0, z1, z2, z3⟩ := two_cells BK1.out; clear hB))
    refine bodyPost_ret (results_ct rfl _ _ (w.heap.size + 1) 35 #[.int .i64 0, .int .i64 0] (0, 0) _ rfl (by (repeat (first | refine blk_drewN ?_ _ | refine blk_drew ?_)); refine blk_put (cs := #[.int .i64 0, .int .i64 0]) ?_ 1 _ rfl; refine blk_put (cs := #[.int .i64 0, .int .i64 0]) ?_ 0 _ rfl; exact BK1.out) Tryd.underlying35 rfl (by kernel_rfl)) rfl ?_; exact ⟨rfl, by first | exact below_set2 C1.out (by omega) _ _ | exact below_drew (below_set2 C1.out (by omega) _ _)⟩
  · by_cases c2 : n < 0
    · have hb2 : decide (n < 0) = true := decide_eq_true c2; clear hno
      go_enter Tryd.func12, Tryd.ntmps12
      go_wp2_with (first
        | (go_at_call 23; refine (impl_ValidFraction.law n d _).mono ?_; rintro e w1 ⟨rfl, hB⟩; rw [c1]; have C1 := Aside0.mk (below_step CA.out hB); have BK1 := Aside0.mk (blk_below BK.out hB); obtain ⟨z0, z1, z2, z3⟩ := two_cells BK1.out; obtain ⟨y0, y1, -, -⟩ := two_cells (blk_below BX.out hB); clear hB))
      refine bodyPost_ret (results_ct rfl _ _ (w.heap.size + 1) 35 #[.int .i64 0, .int .i64 0] (0, 0) _ rfl (by (repeat (first | refine blk_drewN ?_ _ | refine blk_drew ?_)); refine blk_put (cs := #[.int .i64 0, .int .i64 0]) ?_ 1 _ rfl; refine blk_put (cs := #[.int .i64 0, .int .i64 0]) ?_ 0 _ rfl; exact BK1.out) Tryd.underlying35 rfl (by kernel_rfl)) rfl ?_; exact ⟨rfl, by first | exact below_set2 C1.out (by omega) _ _ | exact below_drew (below_set2 C1.out (by omega) _ _)⟩
    · have hb2 : decide (n < 0) = false := decide_eq_false c2
      by_cases c3 : d < n
      · have hb3 : decide (d < n) = true := decide_eq_true c3; clear hno
        go_enter Tryd.func12, Tryd.ntmps12
        go_wp2_with (first
          | (go_at_call 23; refine (impl_ValidFraction.law n d _).mono ?_; rintro e w1 ⟨rfl, hB⟩; rw [c1]; have C1 := Aside0.mk (below_step CA.out hB); have BK1 := Aside0.mk (blk_below BK.out hB); obtain ⟨z0, z1, z2, z3⟩ := two_cells BK1.out; obtain ⟨y0, y1, -, -⟩ := two_cells (blk_below BX.out hB); clear hB))
        refine bodyPost_ret (results_ct rfl _ _ (w.heap.size + 1) 35 #[.int .i64 0, .int .i64 0] (0, 0) _ rfl (by (repeat (first | refine blk_drewN ?_ _ | refine blk_drew ?_)); refine blk_put (cs := #[.int .i64 0, .int .i64 0]) ?_ 1 _ rfl; refine blk_put (cs := #[.int .i64 0, .int .i64 0]) ?_ 0 _ rfl; exact BK1.out) Tryd.underlying35 rfl (by kernel_rfl)) rfl ?_; exact ⟨rfl, by first | exact below_set2 C1.out (by omega) _ _ | exact below_drew (below_set2 C1.out (by omega) _ _)⟩
      · have hb3 : decide (d < n) = false := decide_eq_false c3; have HW := Aside0.mk ((within_is s 0 16).trans (by rw [decide_eq_false (fun z => hno ⟨c1, by omega, by omega, z.1, z.2⟩)] : _ = some false)); clear hno
        go_enter Tryd.func12, Tryd.ntmps12
        go_wp2_with (first
          | (go_at_call 23; refine (impl_ValidFraction.law n d _).mono ?_; rintro e w1 ⟨rfl, hB⟩; rw [c1]; have C1 := Aside0.mk (below_step CA.out hB); have BK1 := Aside0.mk (blk_below BK.out hB); have BX1 := Aside0.mk (blk_below BX.out hB); obtain ⟨y0, y1, -, -⟩ := two_cells BX1.out; clear hB)
          | (go_at_call 20; refine (impl_within.calls s 0 16 false _ HW.out).mono ?_; rintro e w2 ⟨rfl, n2, h2⟩; have C2 := Aside0.mk (show Below w.heap.size w w2 by rw [h2]; exact pw_below_drewN C1.out n2); have BK2 := Aside0.mk (show w2.heap[w.heap.size + 1]? = some zeroF by rw [h2]; exact BK1.out); obtain ⟨z0, z1, z2, z3⟩ := two_cells BK2.out; clear h2))
        refine bodyPost_ret (results_ct rfl _ _ (w.heap.size + 1) 35 #[.int .i64 0, .int .i64 0] (0, 0) _ rfl (by (repeat (first | refine blk_drewN ?_ _ | refine blk_drew ?_)); refine blk_put (cs := #[.int .i64 0, .int .i64 0]) ?_ 1 _ rfl; refine blk_put (cs := #[.int .i64 0, .int .i64 0]) ?_ 0 _ rfl; exact BK2.out) Tryd.underlying35 rfl (by kernel_rfl)) rfl ?_; exact ⟨rfl, by first | exact below_set2 C2.out (by omega) _ _ | exact below_drew (below_set2 C2.out (by omega) _ _)⟩
theorem mul_next (n d a b : Int) (k : Nat) : mulN n d (k + 1) a b = if (mulR a b n d).2.2 = true then mulN n d k (mulR a b n d).1 (mulR a b n d).2.1 else (0, 0, false) := rfl
set_option maxHeartbeats 6400000 in
set_option maxRecDepth 100000 in
theorem impl_FailChance.yes (n d s : Int) (w : World) (c0 : chanceOk n d s) :
    Calls Tryd.prog 12 #[.agg #[.int .i64 n, .int .i64 d], .int .i64 s] w fun e w' => e = .returned (.tuple #[.agg #[.int .i64 (mulN n d s.toNat 1 1).1, .int .i64 (mulN n d s.toNat 1 1).2.1], .bool (mulN n d s.toNat 1 1).2.2]) ∧ Below w.heap.size w w' := by
  have hu23 := Tryd.underlying35; obtain ⟨c1, c2, c3, c4, c5⟩ := c0; obtain ⟨N, rfl⟩ := Int.eq_ofNat_of_zero_le c4; rw [Int.toNat_natCast]
  have hN : N ≤ 16 := by omega
  have CA := Aside0.mk (below_alloc (below_alloc (Below.refl w.heap.size w) (boxF n d)) zeroF); have BX := Aside0.mk (blk_alloc (blk_new w (boxF n d)) zeroF); have BK := Aside0.mk (blk_new (w.alloc (boxF n d)) zeroF); rw [size_alloc'] at BK; obtain ⟨x0, x1, -, -⟩ := two_cells BX.out; have hb2 : decide (n < 0) = false := decide_eq_false (by omega); have hb3 : decide (d < n) = false := decide_eq_false (by omega); have HW := Aside0.mk ((within_is (N : Int) 0 16).trans (by rw [decide_eq_true (by omega)] : _ = some true)); obtain ⟨R, hR⟩ : ∃ R, mulN n d N 1 1 = R := ⟨_, rfl⟩; have HRS := Aside0.mk hR; rw [hR]; clear hR c2 c3 c4 c5
  go_enter Tryd.func12, Tryd.ntmps12
  go_wp2_with (first
    | (go_at_call 23; refine (impl_ValidFraction.law n d _).mono ?_; rintro e w1 ⟨rfl, hB⟩; rw [c1]; have C1 := Aside0.mk (below_step CA.out hB); have BK1 := Aside0.mk (blk_below BK.out hB); have BX1 := Aside0.mk (blk_below BX.out hB); obtain ⟨y0, y1, -, -⟩ := two_cells BX1.out; clear hB)
    | (go_at_call 20; refine (impl_within.calls (N : Int) 0 16 true _ HW.out).mono ?_; rintro e w2 ⟨rfl, n2, h2⟩; have C2 := Aside0.mk (show Below w.heap.size w w2 by rw [h2]; exact pw_below_drewN C1.out n2); have BK2 := Aside0.mk (show w2.heap[w.heap.size + 1]? = some zeroF by rw [h2]; exact BK1.out); have BX2 := Aside0.mk (show w2.heap[w.heap.size]? = some (boxF n d) by rw [h2]; exact BX1.out); obtain ⟨v0, v1, -, -⟩ := two_cells (blk_alloc BX2.out (boxF 1 1)); clear h2)
    | (go_at_call 24; refine (impl_FailChance.repeat_ (w2.heap.size + 1) _ n d N _ hN (by have h_ := blk_new (w2.alloc (boxF 1 1)) (boxF n d); rw [size_alloc'] at h_; exact h_)).mono ?_; rintro e w3 ⟨g3, hg3, rfl, hr3, hB⟩; have R3 := Aside0.mk hr3; have C3 := Aside0.mk (below_step (below_alloc (below_alloc C2.out (boxF 1 1)) (boxF n d)) hB); have BK3 := Aside0.mk (blk_below (blk_alloc (blk_alloc BK2.out (boxF 1 1)) (boxF n d)) hB); have F3 := Aside0.mk (blk_below (blk_alloc (blk_new w2 (boxF 1 1)) (boxF n d)) hB); have G3 := Aside0.mk hg3; clear hr3 hB hg3))
  go_loopw [38] (fun v38 wr => ∃ (k : Nat) (a b : Int), k ≤ N ∧ v38 = .int .i64 (k : Int) ∧ Aside0 (mulN n d (N - k) a b = R) ∧ Aside0 (Below w.heap.size w wr) ∧ Aside0 (wr.heap[w.heap.size + 1]? = some zeroF) ∧ Aside0 (wr.heap[w2.heap.size]? = some (boxF a b)) ∧ Aside0 (wr.heap[g3]? = some (.cells (repC (.int .i64 n) (.int .i64 d) N).toArray 35 (0, 0)))) (fun v38 _ => N - (intOf v38).toNat)
  case atStart => exact ⟨0, 1, 1, Nat.zero_le _, rfl, HRS, C3, BK3, F3, R3⟩
  case round =>
    obtain ⟨k, a, b, hk, rfl, HS, HB, HZ, HF, HG⟩ := hrel
    by_cases hlt : k < N
    · have hget := repC_get (.int .i64 n) (.int .i64 d) N k hlt
      have hx0 : wr.cell? ⟨g3, k * 2, none⟩ = some (.int .i64 n) := by rw [blk_cell HG.out]; simpa using hget.1
      have hx1 : wr.cell? ⟨g3, k * 2 + 1, none⟩ = some (.int .i64 d) := by rw [blk_cell HG.out]; simpa using hget.2
      have hs := HS.out; rw [show N - k = (N - (k + 1)) + 1 by omega, mul_next] at hs; obtain ⟨r, hr⟩ : ∃ r, mulR a b n d = r := ⟨_, rfl⟩
      have hf : impl_MulFractions.f a b n d = some (r.1, r.2.1, r.2.2) := by rw [← hr]; rfl
      rw [hr] at hs; obtain ⟨f0, f1, f2, f3⟩ := two_cells HF.out; have hne1 : w.heap.size + 1 < w2.heap.size := blk_lt BK2.out
      have hne4 : w2.heap.size < g3 := by have := G3.out; simp at this; omega
      have HN1 := Aside0.mk (show w.heap.size + 1 ≠ w2.heap.size by omega); have HN2 := Aside0.mk (show g3 ≠ w2.heap.size by omega); have HL2 := Aside0.mk (show w.heap.size ≤ w2.heap.size by omega); have hlt1 : w.heap.size + 1 < wr.heap.size := blk_lt HZ.out; have hlt2 : w2.heap.size < wr.heap.size := blk_lt HF.out; have hlt3 : g3 < wr.heap.size := blk_lt HG.out
      cases hok : r.2.2 with
      | true =>
        rw [hok, if_pos rfl] at hs; have HS2 := Aside0.mk hs; rw [hok] at hf; have HF2 := Aside0.mk hf; clear hs hok hf hr hget
        go_wp2_with (first
          | (go_at_call 13; refine (impl_MulFractions.calls a b n d _ _ _ _ HF2.out).mono ?_; rintro e w4 ⟨rfl, hB⟩; have B4 := Aside0.mk (below_step (below_alloc HB.out _) hB); have Z4 := Aside0.mk (blk_below (blk_alloc HZ.out _) hB); have F4 := Aside0.mk (blk_below (blk_alloc HF.out _) hB); have G4 := Aside0.mk (blk_below (blk_alloc HG.out _) hB); obtain ⟨h0, h1, h2, h3⟩ := two_cells (blk_alloc F4.out (boxF r.1 r.2.1)); clear hB))
        refine ⟨⟨k + 1, r.1, r.2.1, by omega, by go_num, HS2, ⟨below_set2 (below_alloc B4.out _) HL2.out _ _⟩, ⟨blk_put_ne (blk_put_ne (blk_alloc Z4.out _) HN1.out) HN1.out⟩, ⟨blk_put (cs := #[.int .i64 r.1, .int .i64 b]) (blk_put (cs := #[.int .i64 a, .int .i64 b]) (blk_alloc F4.out _) 0 _ rfl) 1 _ rfl⟩, ⟨blk_put_ne (blk_put_ne (blk_alloc G4.out _) HN2.out) HN2.out⟩⟩, by simp [intOf]; omega⟩
      | false =>
        rw [hok, if_neg (by decide)] at hs; subst hs; rw [hok] at hf; have HF2 := Aside0.mk hf; clear hok hf hr hget
        go_wp2_with (first
          | (go_at_call 13; refine (impl_MulFractions.calls a b n d _ _ _ _ HF2.out).mono ?_; rintro e w4 ⟨rfl, hB⟩; have B4 := Aside0.mk (below_step (below_alloc HB.out _) hB); have Z4 := Aside0.mk (blk_below (blk_alloc HZ.out _) hB); obtain ⟨h0, h1, h2, h3⟩ := two_cells (blk_alloc Z4.out (boxF r.1 r.2.1)); clear hB))
        refine bodyPost_ret (results_ct rfl _ _ (w.heap.size + 1) 35 #[.int .i64 0, .int .i64 0] (0, 0) _ rfl (by refine blk_put (cs := #[.int .i64 0, .int .i64 0]) ?_ 1 _ rfl; refine blk_put (cs := #[.int .i64 0, .int .i64 0]) ?_ 0 _ rfl; exact blk_alloc Z4.out _) Tryd.underlying35 rfl (by kernel_rfl)) rfl ?_; exact ⟨rfl, below_set2 (below_alloc B4.out _) (by omega) _ _⟩
    · have e : k = N := by omega
      subst e; have hs := HS.out; rw [Nat.sub_self] at hs; have hs : (a, b, true) = R := hs; subst hs; obtain ⟨f0, f1, f2, f3⟩ := two_cells HF.out; obtain ⟨y0, y1, y2, y3⟩ := two_cells HZ.out; clear HRS HS; go_wp2; refine bodyPost_ret (results_ct rfl _ _ (w.heap.size + 1) 35 #[.int .i64 a, .int .i64 b] (0, 0) _ rfl (by (repeat (first | refine blk_drewN ?_ _ | refine blk_drew ?_)); refine blk_put (cs := #[.int .i64 a, .int .i64 0]) ?_ 1 _ rfl; refine blk_put (cs := #[.int .i64 0, .int .i64 0]) ?_ 0 _ rfl; exact HZ.out) Tryd.underlying35 rfl (by kernel_rfl)) rfl ?_; exact ⟨rfl, below_set2 HB.out (by omega) _ _⟩
theorem impl_FailChance.calls (n : Int) (d : Int) (s : Int) (r1 : Int) (r2 : Int) (r3 : Bool) (w : World) (h : impl_FailChance.f n d s = some (r1, r2, r3)) :
    Calls Tryd.prog 12 #[.agg #[.int .i64 n, .int .i64 d], .int .i64 s] w fun e w' => e = .returned (.tuple #[.agg #[.int .i64 r1, .int .i64 r2], .bool r3]) ∧ Below w.heap.size w w' := by
  have h := Option.some.inj h
  by_cases c : chanceOk n d s
  · rw [if_pos c] at h; have := impl_FailChance.yes n d s w c; rw [h] at this; exact this
  · rw [if_neg c] at h; have := impl_FailChance.no n d s w c
    injection h with h1 h2
    injection h2 with h2 h3
    subst h1; subst h2; subst h3; exact this

end Go.Proofs.YtdgohcdemnmieaaDoor.A
