-- Printed by this session's oprint.py through the kit's printer.
import Derived.Test.YtenlaanknlafdaaA0
import Derived.Test.YtenlaanknlafdaaRats8
namespace Go.Proofs.Ytenlaanknlafdaa.A
open Go.RowKit Go.Proofs.YtenlaanknlafdaaW.PrintWords Go.Proofs.YtenlaanknlafdaaW.PrintLast Go.Proofs.YtenlaanknlafdaaW.PrintMore
attribute [local go_sem] max2_int min2_int max_two min_two max_three min_three max_four min_four   -- for this text's walks alone
set_option linter.unusedVariables false
set_option linter.unusedSimpArgs false

/-! ### impl_CompareFractions: function 26 -/
-- given: proved by hand (comparefractions.tpl)
def impl_CompareFractions.f (n d n' d' : Int) : Option (Int × Bool) := some (if okF n d = true ∧ okF n' d' = true then (sign (n * d' - n' * d), true) else (0, false))
set_option maxHeartbeats 3200000 in
set_option maxRecDepth 100000 in
theorem impl_CompareFractions.no1 (n d n' d' : Int) (W : World) (c1 : okF n d = false) :
    Calls Try.prog 26 #[.agg #[.int .i64 n, .int .i64 d], .agg #[.int .i64 n', .int .i64 d']] W fun e w' => e = .returned (.tuple #[.int .i64 0, .bool false]) ∧ Below W.heap.size W w' := by
  have hu23 := Try.underlying23
  have B0 := Aside0.mk (show Below W.heap.size W ((W.alloc (boxF n d)).alloc (boxF n' d')) from below_alloc (below_alloc (Below.refl _ _) _) _)
  have X0 := Aside0.mk (show ((W.alloc (boxF n d)).alloc (boxF n' d')).heap[W.heap.size]? = some (boxF n d) from blk_alloc (blk_new W _) _)
  have Y0 := Aside0.mk (show ((W.alloc (boxF n d)).alloc (boxF n' d')).heap[W.heap.size + 1]? = some (boxF n' d') by have h := blk_new (W.alloc (boxF n d)) (boxF n' d'); rw [size_alloc'] at h; exact h)
  go_enter Try.func26, Try.ntmps26
  go_wp2_with (first
    | (go_at_call 55; refine (impl_ValidFraction.law n d _).mono ?_; rintro e w1 ⟨rfl, hB⟩; rw [c1]; have B1 := Aside0.mk (below_step B0.out hB); have X1 := Aside0.mk (blk_below X0.out hB); have Y1 := Aside0.mk (blk_below Y0.out hB); obtain ⟨p0, p1, -, -⟩ := two_cells X1.out; obtain ⟨q0, q1, -, -⟩ := two_cells Y1.out; clear hB))
  go_ret2
  exact ⟨rfl, B1.out⟩
set_option maxHeartbeats 3200000 in
set_option maxRecDepth 100000 in
theorem impl_CompareFractions.no2 (n d n' d' : Int) (W : World) (c1 : okF n d = true) (c2 : okF n' d' = false) :
    Calls Try.prog 26 #[.agg #[.int .i64 n, .int .i64 d], .agg #[.int .i64 n', .int .i64 d']] W fun e w' => e = .returned (.tuple #[.int .i64 0, .bool false]) ∧ Below W.heap.size W w' := by
  have hu23 := Try.underlying23
  have B0 := Aside0.mk (show Below W.heap.size W ((W.alloc (boxF n d)).alloc (boxF n' d')) from below_alloc (below_alloc (Below.refl _ _) _) _)
  have X0 := Aside0.mk (show ((W.alloc (boxF n d)).alloc (boxF n' d')).heap[W.heap.size]? = some (boxF n d) from blk_alloc (blk_new W _) _)
  have Y0 := Aside0.mk (show ((W.alloc (boxF n d)).alloc (boxF n' d')).heap[W.heap.size + 1]? = some (boxF n' d') by have h := blk_new (W.alloc (boxF n d)) (boxF n' d'); rw [size_alloc'] at h; exact h)
  go_enter Try.func26, Try.ntmps26
  go_wp2_with (first
    | (go_at_call 55; refine (impl_ValidFraction.law n' d' w1).mono ?_; rintro e w2 ⟨rfl, hB⟩; rw [c2]; have B2 := Aside0.mk (below_step B1.out hB); have X2 := Aside0.mk (blk_below X1.out hB); have Y2 := Aside0.mk (blk_below Y1.out hB); obtain ⟨s0, s1, -, -⟩ := two_cells X2.out; obtain ⟨t0, t1, -, -⟩ := two_cells Y2.out; clear hB)
    | (go_at_call 55; refine (impl_ValidFraction.law n d _).mono ?_; rintro e w1 ⟨rfl, hB⟩; rw [c1]; have B1 := Aside0.mk (below_step B0.out hB); have X1 := Aside0.mk (blk_below X0.out hB); have Y1 := Aside0.mk (blk_below Y0.out hB); obtain ⟨p0, p1, -, -⟩ := two_cells X1.out; obtain ⟨q0, q1, -, -⟩ := two_cells Y1.out; clear hB))
  go_ret2
  exact ⟨rfl, B2.out⟩
set_option maxHeartbeats 3200000 in
set_option maxRecDepth 100000 in
theorem impl_CompareFractions.yes (n d n' d' : Int) (W : World) (c1 : okF n d = true) (c2 : okF n' d' = true) :
    Calls Try.prog 26 #[.agg #[.int .i64 n, .int .i64 d], .agg #[.int .i64 n', .int .i64 d']] W fun e w' => e = .returned (.tuple #[.int .i64 (sign (n * d' - n' * d)), .bool true]) ∧ Below W.heap.size W w' := by
  have hu23 := Try.underlying23
  have B0 := Aside0.mk (show Below W.heap.size W ((W.alloc (boxF n d)).alloc (boxF n' d')) from below_alloc (below_alloc (Below.refl _ _) _) _)
  have X0 := Aside0.mk (show ((W.alloc (boxF n d)).alloc (boxF n' d')).heap[W.heap.size]? = some (boxF n d) from blk_alloc (blk_new W _) _)
  have Y0 := Aside0.mk (show ((W.alloc (boxF n d)).alloc (boxF n' d')).heap[W.heap.size + 1]? = some (boxF n' d') by have h := blk_new (W.alloc (boxF n d)) (boxF n' d'); rw [size_alloc'] at h; exact h)
  obtain ⟨pn, pd, a0⟩ := okF_parts c1
  obtain ⟨pn', pd', b0⟩ := okF_parts c2
  have hr1 := Aside0.mk (fun w => rat_ok n d w c1)
  have hr2 := Aside0.mk (fun w => rat_ok n' d' w c2)
  have ln := lo_part pn
  have ld := lo_part pd
  have ln' := lo_part pn'
  have ld' := lo_part pd'
  have hop := Aside0.mk (fun gx gy w hx hy => impl_exactRat_Cmp.law gx gy n d n' d' w hx hy ln ld ln' ld')
  clear a0 b0 pn pd pn' pd' ln ld ln' ld'
  go_enter Try.func26, Try.ntmps26
  go_wp2_with (first
    | (go_at_call 55; refine (impl_ValidFraction.law n' d' w1).mono ?_; rintro e w2 ⟨rfl, hB⟩; rw [c2]; have B2 := Aside0.mk (below_step B1.out hB); have X2 := Aside0.mk (blk_below X1.out hB); have Y2 := Aside0.mk (blk_below Y1.out hB); obtain ⟨s0, s1, -, -⟩ := two_cells X2.out; obtain ⟨t0, t1, -, -⟩ := two_cells Y2.out; clear hB)
    | (go_at_call 55; refine (impl_ValidFraction.law n d _).mono ?_; rintro e w1 ⟨rfl, hB⟩; rw [c1]; have B1 := Aside0.mk (below_step B0.out hB); have X1 := Aside0.mk (blk_below X0.out hB); have Y1 := Aside0.mk (blk_below Y0.out hB); obtain ⟨p0, p1, -, -⟩ := two_cells X1.out; obtain ⟨q0, q1, -, -⟩ := two_cells Y1.out; clear hB))
  go_region_held3 (fun w' => w'.cell? ⟨W.heap.size, 0, none⟩ = some (.int .i64 n) ∧ w'.cell? ⟨W.heap.size, 1, none⟩ = some (.int .i64 d) ∧ w'.cell? ⟨W.heap.size + 1, 0, none⟩ = some (.int .i64 n') ∧ w'.cell? ⟨W.heap.size + 1, 1, none⟩ = some (.int .i64 d'))
    (first
      | exact ⟨P5.out.1, P5.out.2.1, P5.out.2.2.1, P5.out.2.2.2⟩
      | exact ⟨P4.out.1, P4.out.2.1, P4.out.2.2.1, P4.out.2.2.2⟩
      | exact ⟨P3.out.1, P3.out.2.1, P3.out.2.2.1, P3.out.2.2.2⟩
      | exact ⟨s0, s1, t0, t1⟩
      | go_keep)
    (first
      | (go_at_call 56; refine (hr2.out w3).mono ?_; rintro e w4 ⟨g2, rfl, j1_, j2_, j3_⟩; have R2 := Aside0.mk j2_; have R1' := Aside0.mk (R1.out.below j3_); have C4 := Aside0.mk (below_step C3.out j3_); have X4 := Aside0.mk (blk_below X3.out j3_); have Y4 := Aside0.mk (blk_below Y3.out j3_); have P4 := Aside0.mk (four_cells X4.out Y4.out); clear j1_ j2_ j3_)
      | (go_at_call 56; refine (hr1.out w2.drew).mono ?_; rintro e w3 ⟨g1, rfl, j1_, j2_, j3_⟩; have R1 := Aside0.mk j2_; have C3 := Aside0.mk (below_step (below_drew B2.out) j3_); have X3 := Aside0.mk (blk_below (w := w2.drew) X2.out j3_); have Y3 := Aside0.mk (blk_below (w := w2.drew) Y2.out j3_); have P3 := Aside0.mk (four_cells X3.out Y3.out); clear j1_ j2_ j3_)
      | (go_at_call 57; refine (hop.out g1 g2 w4 R1'.out R2.out).mono ?_; rintro e w5 ⟨rfl, j3_⟩; have C5 := Aside0.mk (below_step C4.out j3_); have X5 := Aside0.mk (blk_below X4.out j3_); have Y5 := Aside0.mk (blk_below Y4.out j3_); have P5 := Aside0.mk (four_cells X5.out Y5.out); clear j3_))
  all_goals (try go_wp2)
  all_goals (
    go_ret2
    exact ⟨rfl, C5.out⟩)
theorem impl_CompareFractions.calls (a0_0 : Int) (a0_1 : Int) (a1_0 : Int) (a1_1 : Int) (r1 : Int) (r2 : Bool) (w : World) (h : impl_CompareFractions.f a0_0 a0_1 a1_0 a1_1 = some (r1, r2)) :
    Calls Try.prog 26 #[.agg #[.int .i64 a0_0, .int .i64 a0_1], .agg #[.int .i64 a1_0, .int .i64 a1_1]] w fun e w' => e = .returned (.tuple #[.int .i64 r1, .bool r2]) ∧ Below w.heap.size w w' := by
  have h := Option.some.inj h
  cases c1 : okF a0_0 a0_1
  · rw [if_neg (fun z => by rw [c1] at z; exact absurd z.1 (by decide))] at h
    injection h with h1 h2; subst h1; subst h2
    exact impl_CompareFractions.no1 a0_0 a0_1 a1_0 a1_1 w c1
  · cases c2 : okF a1_0 a1_1
    · rw [if_neg (fun z => by rw [c2] at z; exact absurd z.2 (by decide))] at h
      injection h with h1 h2; subst h1; subst h2
      exact impl_CompareFractions.no2 a0_0 a0_1 a1_0 a1_1 w c1 c2
    · rw [if_pos ⟨c1, c2⟩] at h
      injection h with h1 h2; subst h1; subst h2
      exact impl_CompareFractions.yes a0_0 a0_1 a1_0 a1_1 w c1 c2

end Go.Proofs.Ytenlaanknlafdaa.A
