-- Printed by this session's oprint.py through the kit's printer.
import Derived.Test.YtenlaanknlafdaaA0
import Derived.Test.YtenlaanknlafdaaRats8
namespace Go.Proofs.Ytenlaanknlafdaa.A
open Go.RowKit Go.Proofs.YtenlaanknlafdaaW.PrintWords Go.Proofs.YtenlaanknlafdaaW.PrintLast Go.Proofs.YtenlaanknlafdaaW.PrintMore
attribute [local go_sem] max2_int min2_int max_two min_two max_three min_three max_four min_four   -- for this text's walks alone
set_option linter.unusedVariables false
set_option linter.unusedSimpArgs false

/-! ### impl_AddFractions: function 34 -/
-- given: proved by hand (addfractions.tpl)
def impl_AddFractions.f (n d n' d' : Int) : Option (Int × Int × Bool) := some (if okF n d = true ∧ okF n' d' = true then mkF (n * d' + n' * d) (d * d') else (0, 0, false))
set_option maxHeartbeats 3200000 in
set_option maxRecDepth 100000 in
theorem impl_AddFractions.no1 (n d n' d' : Int) (W : World) (c1 : okF n d = false) :
    Calls Try.prog 34 #[.agg #[.int .i64 n, .int .i64 d], .agg #[.int .i64 n', .int .i64 d']] W fun e w' => e = .returned (.tuple #[.agg #[.int .i64 (((0, 0, false) : Int × Int × Bool)).1, .int .i64 (((0, 0, false) : Int × Int × Bool)).2.1], .bool (((0, 0, false) : Int × Int × Bool)).2.2]) ∧ Below W.heap.size W w' := by
  have hu23 := Try.underlying23; have B0 := Aside0.mk (below_box W n d n' d'); have X0 := Aside0.mk (box0 W n d n' d'); have Y0 := Aside0.mk (box1 W n d n' d'); have Z0 := Aside0.mk (box2 W n d n' d')
  go_enter Try.func34, Try.ntmps34
  go_wp2_with (first
    | (go_at_call 55; refine (impl_ValidFraction.law n d _).mono ?_; rintro e w1 ⟨rfl, hB⟩; rw [c1]; have B1 := Aside0.mk (below_step B0.out hB); have X1 := Aside0.mk (blk_below X0.out hB); have Y1 := Aside0.mk (blk_below Y0.out hB); have Z1 := Aside0.mk (blk_below Z0.out hB); obtain ⟨p0, p1, -, -⟩ := two_cells X1.out; obtain ⟨q0, q1, -, -⟩ := two_cells Y1.out; obtain ⟨r0, r1, r2, r3⟩ := two_cells Z1.out; clear hB))
  refine bodyPost_ret (results_ct rfl _ _ (W.heap.size + 2) 23 #[.int .i64 0, .int .i64 0] (0, 0) _ rfl (by (repeat (first | refine blk_drewN ?_ _ | refine blk_drew ?_)); refine blk_put (cs := #[.int .i64 0, .int .i64 0]) ?_ 1 _ rfl; refine blk_put (cs := #[.int .i64 0, .int .i64 0]) ?_ 0 _ rfl; exact Z1.out) Try.underlying23 rfl (by kernel_rfl)) rfl ?_; exact ⟨rfl, by first | exact below_set2 B1.out (by omega) _ _ | exact below_drew (below_set2 B1.out (by omega) _ _)⟩
set_option maxHeartbeats 3200000 in
set_option maxRecDepth 100000 in
theorem impl_AddFractions.no2 (n d n' d' : Int) (W : World) (c1 : okF n d = true) (c2 : okF n' d' = false) :
    Calls Try.prog 34 #[.agg #[.int .i64 n, .int .i64 d], .agg #[.int .i64 n', .int .i64 d']] W fun e w' => e = .returned (.tuple #[.agg #[.int .i64 (((0, 0, false) : Int × Int × Bool)).1, .int .i64 (((0, 0, false) : Int × Int × Bool)).2.1], .bool (((0, 0, false) : Int × Int × Bool)).2.2]) ∧ Below W.heap.size W w' := by
  have hu23 := Try.underlying23; have B0 := Aside0.mk (below_box W n d n' d'); have X0 := Aside0.mk (box0 W n d n' d'); have Y0 := Aside0.mk (box1 W n d n' d'); have Z0 := Aside0.mk (box2 W n d n' d')
  go_enter Try.func34, Try.ntmps34
  go_wp2_with (first
    | (go_at_call 55; refine (impl_ValidFraction.law n' d' w1).mono ?_; rintro e w2 ⟨rfl, hB⟩; rw [c2]; have B2 := Aside0.mk (below_step B1.out hB); have X2 := Aside0.mk (blk_below X1.out hB); have Y2 := Aside0.mk (blk_below Y1.out hB); have Z2 := Aside0.mk (blk_below Z1.out hB); obtain ⟨s0, s1, -, -⟩ := two_cells X2.out; obtain ⟨t0, t1, -, -⟩ := two_cells Y2.out; obtain ⟨y0, y1, y2, y3⟩ := two_cells Z2.out; clear hB)
    | (go_at_call 55; refine (impl_ValidFraction.law n d _).mono ?_; rintro e w1 ⟨rfl, hB⟩; rw [c1]; have B1 := Aside0.mk (below_step B0.out hB); have X1 := Aside0.mk (blk_below X0.out hB); have Y1 := Aside0.mk (blk_below Y0.out hB); have Z1 := Aside0.mk (blk_below Z0.out hB); obtain ⟨p0, p1, -, -⟩ := two_cells X1.out; obtain ⟨q0, q1, -, -⟩ := two_cells Y1.out; obtain ⟨r0, r1, r2, r3⟩ := two_cells Z1.out; clear hB))
  refine bodyPost_ret (results_ct rfl _ _ (W.heap.size + 2) 23 #[.int .i64 0, .int .i64 0] (0, 0) _ rfl (by (repeat (first | refine blk_drewN ?_ _ | refine blk_drew ?_)); refine blk_put (cs := #[.int .i64 0, .int .i64 0]) ?_ 1 _ rfl; refine blk_put (cs := #[.int .i64 0, .int .i64 0]) ?_ 0 _ rfl; exact Z2.out) Try.underlying23 rfl (by kernel_rfl)) rfl ?_; exact ⟨rfl, by first | exact below_set2 B2.out (by omega) _ _ | exact below_drew (below_set2 B2.out (by omega) _ _)⟩
set_option maxHeartbeats 3200000 in
set_option maxRecDepth 100000 in
theorem impl_AddFractions.yes (n d n' d' : Int) (W : World) (c1 : okF n d = true) (c2 : okF n' d' = true) :
    Calls Try.prog 34 #[.agg #[.int .i64 n, .int .i64 d], .agg #[.int .i64 n', .int .i64 d']] W fun e w' => e = .returned (.tuple #[.agg #[.int .i64 (mkF (n * d' + n' * d) (d * d')).1, .int .i64 (mkF (n * d' + n' * d) (d * d')).2.1], .bool (mkF (n * d' + n' * d) (d * d')).2.2]) ∧ Below W.heap.size W w' := by
  have hu23 := Try.underlying23; have B0 := Aside0.mk (below_box W n d n' d'); have X0 := Aside0.mk (box0 W n d n' d'); have Y0 := Aside0.mk (box1 W n d n' d'); have Z0 := Aside0.mk (box2 W n d n' d'); obtain ⟨pn, pd, a0⟩ := okF_parts c1; obtain ⟨pn', pd', b0⟩ := okF_parts c2; have hr1 := Aside0.mk (fun w => rat_ok n d w c1); have hr2 := Aside0.mk (fun w => rat_ok n' d' w c2); have ln := lo_part pn; have ld := lo_part pd; have ln' := lo_part pn'; have ld' := lo_part pd'; have hop := Aside0.mk (fun g gx gy w hb hx hy => impl_exactRat_Add.law g gx gy n d n' d' (.bool false) (.slice none 0 0) (.slice none 0 0) w hb hx hy ln ld ln' ld'); have f1 := Aside0.mk (show Fits2 (n * d' + n' * d) from fits2_add pn pd' pn' pd); have f2 := Aside0.mk (show Fits2 (d * d') from fits2_mul pd pd'); clear a0 b0 pn pd pn' pd' ln ld ln' ld'
  go_enter Try.func34, Try.ntmps34
  go_wp2_with (first
    | (go_at_call 55; refine (impl_ValidFraction.law n' d' w1).mono ?_; rintro e w2 ⟨rfl, hB⟩; rw [c2]; have B2 := Aside0.mk (below_step B1.out hB); have X2 := Aside0.mk (blk_below X1.out hB); have Y2 := Aside0.mk (blk_below Y1.out hB); have Z2 := Aside0.mk (blk_below Z1.out hB); obtain ⟨s0, s1, -, -⟩ := two_cells X2.out; obtain ⟨t0, t1, -, -⟩ := two_cells Y2.out; obtain ⟨y0, y1, y2, y3⟩ := two_cells Z2.out; clear hB)
    | (go_at_call 55; refine (impl_ValidFraction.law n d _).mono ?_; rintro e w1 ⟨rfl, hB⟩; rw [c1]; have B1 := Aside0.mk (below_step B0.out hB); have X1 := Aside0.mk (blk_below X0.out hB); have Y1 := Aside0.mk (blk_below Y0.out hB); have Z1 := Aside0.mk (blk_below Z0.out hB); obtain ⟨p0, p1, -, -⟩ := two_cells X1.out; obtain ⟨q0, q1, -, -⟩ := two_cells Y1.out; obtain ⟨r0, r1, r2, r3⟩ := two_cells Z1.out; clear hB))
  go_region_held3 (fun w' => w'.cell? ⟨W.heap.size, 0, none⟩ = some (.int .i64 n) ∧ w'.cell? ⟨W.heap.size, 1, none⟩ = some (.int .i64 d) ∧ w'.cell? ⟨W.heap.size + 1, 0, none⟩ = some (.int .i64 n') ∧ w'.cell? ⟨W.heap.size + 1, 1, none⟩ = some (.int .i64 d'))
    (first
      | exact ⟨(P7.out _ _).1, (P7.out _ _).2.1, (P7.out _ _).2.2.1, (P7.out _ _).2.2.2⟩
      | exact ⟨P6.out.1, P6.out.2.1, P6.out.2.2.1, P6.out.2.2.2⟩
      | exact ⟨P5.out.1, P5.out.2.1, P5.out.2.2.1, P5.out.2.2.2⟩
      | exact ⟨P4.out.1, P4.out.2.1, P4.out.2.2.1, P4.out.2.2.2⟩
      | exact ⟨P4b.out.1, P4b.out.2.1, P4b.out.2.2.1, P4b.out.2.2.2⟩
      | exact ⟨P4c.out.1, P4c.out.2.1, P4c.out.2.2.1, P4c.out.2.2.2⟩
      | exact ⟨P3.out.1, P3.out.2.1, P3.out.2.2.1, P3.out.2.2.2⟩
      | exact ⟨P3b.out.1, P3b.out.2.1, P3b.out.2.2.1, P3b.out.2.2.2⟩
      | exact ⟨s0, s1, t0, t1⟩
      | exact four_cells (blk_alloc (w := w2.drew) X2.out zeroR) (blk_alloc (w := w2.drew) Y2.out zeroR)
      | exact four_cells (blk_alloc (w := v3) X3b.out zeroR) (blk_alloc (w := v3) Y3b.out zeroR)
      | exact four_cells (blk_alloc (w := u4) X4c.out zeroR) (blk_alloc (w := u4) Y4c.out zeroR)
      | go_keep)
    (first
      | (go_at_call 56; refine (hr2.out w3).mono ?_; rintro e w4 ⟨g24, rfl, j1_, j2_, j3_⟩; have R24 := Aside0.mk j2_; have R14 := Aside0.mk ((R13.out).below j3_); have C4 := Aside0.mk (below_step C3.out j3_); have X4 := Aside0.mk (blk_below X3.out j3_); have Y4 := Aside0.mk (blk_below Y3.out j3_); have Z4 := Aside0.mk (blk_below Z3.out j3_); have P4 := Aside0.mk (four_cells X4.out Y4.out); have N4 := Aside0.mk (blk_below N3.out j3_); clear j1_ j2_ j3_)
      | (go_at_call 56; refine (hr2.out (v3.alloc zeroR)).mono ?_; rintro e v4 ⟨g24b, rfl, j1_, j2_, j3_⟩; have R24b := Aside0.mk j2_; have R14b := Aside0.mk (((R13b.out.below (below_alloc (Below.refl _ _) zeroR))).below j3_); have C4b := Aside0.mk (below_step (below_alloc C3b.out zeroR) j3_); have X4b := Aside0.mk (blk_below (blk_alloc (w := v3) X3b.out zeroR) j3_); have Y4b := Aside0.mk (blk_below (blk_alloc (w := v3) Y3b.out zeroR) j3_); have Z4b := Aside0.mk (blk_below (blk_alloc (w := v3) Z3b.out zeroR) j3_); have P4b := Aside0.mk (four_cells X4b.out Y4b.out); have N4b := Aside0.mk (blk_below (blk_new v3 zeroR) j3_); clear j1_ j2_ j3_)
      | (go_at_call 56; refine (hr2.out v3).mono ?_; rintro e u4 ⟨g24c, rfl, j1_, j2_, j3_⟩; have R24c := Aside0.mk j2_; have R14c := Aside0.mk ((R13b.out).below j3_); have C4c := Aside0.mk (below_step C3b.out j3_); have X4c := Aside0.mk (blk_below X3b.out j3_); have Y4c := Aside0.mk (blk_below Y3b.out j3_); have Z4c := Aside0.mk (blk_below Z3b.out j3_); have P4c := Aside0.mk (four_cells X4c.out Y4c.out); have S4c := Aside0.mk j3_.size; clear j1_ j2_ j3_)
      | (go_at_call 56; refine (hr1.out (w2.drew.alloc zeroR)).mono ?_; rintro e w3 ⟨g13, rfl, j1_, j2_, j3_⟩; have R13 := Aside0.mk j2_; have C3 := Aside0.mk (below_step (below_alloc (below_drew B2.out) zeroR) j3_); have X3 := Aside0.mk (blk_below (blk_alloc (w := w2.drew) X2.out zeroR) j3_); have Y3 := Aside0.mk (blk_below (blk_alloc (w := w2.drew) Y2.out zeroR) j3_); have Z3 := Aside0.mk (blk_below (blk_alloc (w := w2.drew) Z2.out zeroR) j3_); have P3 := Aside0.mk (four_cells X3.out Y3.out); have N3 := Aside0.mk (show w3.heap[w2.heap.size]? = some zeroR from blk_below (blk_new w2.drew zeroR) j3_); clear j1_ j2_ j3_)
      | (go_at_call 56; refine (hr1.out w2.drew).mono ?_; rintro e v3 ⟨g13b, rfl, j1_, j2_, j3_⟩; have R13b := Aside0.mk j2_; have C3b := Aside0.mk (below_step (below_drew B2.out) j3_); have X3b := Aside0.mk (blk_below (w := w2.drew) X2.out j3_); have Y3b := Aside0.mk (blk_below (w := w2.drew) Y2.out j3_); have Z3b := Aside0.mk (blk_below (w := w2.drew) Z2.out j3_); have P3b := Aside0.mk (four_cells X3b.out Y3b.out); have S3b := Aside0.mk (show w2.heap.size ≤ v3.heap.size from j3_.size); clear j1_ j2_ j3_)
      | (go_at_call 66; refine (hop.out w2.heap.size g13 g24 w4 N4.out R14.out R24.out).mono ?_; rintro e w5 ⟨rfl, j1_, j2_⟩; have R5 := Aside0.mk j1_; have C5 := Aside0.mk (below_at C4.out j2_ (by have := B2.out.size; skip; omega)); have X5 := Aside0.mk (blk_grown X4.out j2_ (by have := blk_lt X2.out; skip; simp; omega)); have Y5 := Aside0.mk (blk_grown Y4.out j2_ (by have := blk_lt Y2.out; skip; simp; omega)); have Z5 := Aside0.mk (blk_grown Z4.out j2_ (by have := blk_lt Z2.out; skip; simp; omega)); have P5 := Aside0.mk (four_cells X5.out Y5.out); clear j1_ j2_)
      | (go_at_call 66; refine (hop.out v3.heap.size g13b g24b v4 N4b.out R14b.out R24b.out).mono ?_; rintro e w5 ⟨rfl, j1_, j2_⟩; have R5 := Aside0.mk j1_; have C5 := Aside0.mk (below_at C4b.out j2_ (by have := B2.out.size; have := S3b.out; omega)); have X5 := Aside0.mk (blk_grown X4b.out j2_ (by have := blk_lt X2.out; have := S3b.out; simp; omega)); have Y5 := Aside0.mk (blk_grown Y4b.out j2_ (by have := blk_lt Y2.out; have := S3b.out; simp; omega)); have Z5 := Aside0.mk (blk_grown Z4b.out j2_ (by have := blk_lt Z2.out; have := S3b.out; simp; omega)); have P5 := Aside0.mk (four_cells X5.out Y5.out); clear j1_ j2_)
      | (go_at_call 66; refine (hop.out u4.heap.size g13b g24c (u4.alloc zeroR) (blk_new u4 zeroR) (R14c.out.below (below_alloc (Below.refl _ _) zeroR)) (R24c.out.below (below_alloc (Below.refl _ _) zeroR))).mono ?_; rintro e w5 ⟨rfl, j1_, j2_⟩; have R5 := Aside0.mk j1_; have C5 := Aside0.mk (below_at (below_alloc C4c.out zeroR) j2_ (by have := B2.out.size; have := S3b.out; have := S4c.out; omega)); have X5 := Aside0.mk (blk_grown (blk_alloc (w := u4) X4c.out zeroR) j2_ (by have := blk_lt X2.out; have := S3b.out; have := S4c.out; simp; omega)); have Y5 := Aside0.mk (blk_grown (blk_alloc (w := u4) Y4c.out zeroR) j2_ (by have := blk_lt Y2.out; have := S3b.out; have := S4c.out; simp; omega)); have Z5 := Aside0.mk (blk_grown (blk_alloc (w := u4) Z4c.out zeroR) j2_ (by have := blk_lt Z2.out; have := S3b.out; have := S4c.out; simp; omega)); have P5 := Aside0.mk (four_cells X5.out Y5.out); clear j1_ j2_)
      | (go_at_call 47; refine (checked_new _ _ _ w5 R5.out f1.out f2.out).mono ?_; rintro e w6 ⟨rfl, j3_⟩; have C6 := Aside0.mk (below_step C5.out j3_); have X6 := Aside0.mk (blk_below X5.out j3_); have Y6 := Aside0.mk (blk_below Y5.out j3_); have Z6 := Aside0.mk (blk_below Z5.out j3_); have P6 := Aside0.mk (four_cells X6.out Y6.out); have P7 := Aside0.mk (fun a b => four_cells (blk_put_ne (blk_put_ne (i := 0) (v := a) X6.out (show W.heap.size ≠ W.heap.size + 2 by omega)) (i := 1) (v := b) (show W.heap.size ≠ W.heap.size + 2 by omega)) (blk_put_ne (blk_put_ne (i := 0) (v := a) Y6.out (show W.heap.size + 1 ≠ W.heap.size + 2 by omega)) (i := 1) (v := b) (show W.heap.size + 1 ≠ W.heap.size + 2 by omega))); obtain ⟨v0_, v1_, v2_, v3_⟩ := two_cells Z6.out; clear j3_))
  all_goals (try go_wp2)
  all_goals (
    refine bodyPost_ret (results_ct rfl _ _ (W.heap.size + 2) 23 #[.int .i64 (mkF (n * d' + n' * d) (d * d')).1, .int .i64 (mkF (n * d' + n' * d) (d * d')).2.1] (0, 0) _ rfl (by (repeat (first | refine blk_drewN ?_ _ | refine blk_drew ?_)); refine blk_put (cs := #[.int .i64 (mkF (n * d' + n' * d) (d * d')).1, .int .i64 0]) ?_ 1 _ rfl; refine blk_put (cs := #[.int .i64 0, .int .i64 0]) ?_ 0 _ rfl; exact Z6.out) Try.underlying23 rfl (by kernel_rfl)) rfl ?_
    exact ⟨rfl, by first | exact below_set2 C6.out (by omega) _ _ | exact below_drew (below_set2 C6.out (by omega) _ _)⟩)
theorem impl_AddFractions.calls (a0_0 : Int) (a0_1 : Int) (a1_0 : Int) (a1_1 : Int) (r1 : Int) (r2 : Int) (r3 : Bool) (w : World) (h : impl_AddFractions.f a0_0 a0_1 a1_0 a1_1 = some (r1, r2, r3)) :
    Calls Try.prog 34 #[.agg #[.int .i64 a0_0, .int .i64 a0_1], .agg #[.int .i64 a1_0, .int .i64 a1_1]] w fun e w' => e = .returned (.tuple #[.agg #[.int .i64 r1, .int .i64 r2], .bool r3]) ∧ Below w.heap.size w w' := by
  have h := Option.some.inj h
  cases c1 : okF a0_0 a0_1
  · rw [if_neg (fun z => by rw [c1] at z; exact absurd z.1 (by decide))] at h; have := impl_AddFractions.no1 a0_0 a0_1 a1_0 a1_1 w c1; rw [h] at this; exact this
  · cases c2 : okF a1_0 a1_1
    · rw [if_neg (fun z => by rw [c2] at z; exact absurd z.2 (by decide))] at h; have := impl_AddFractions.no2 a0_0 a0_1 a1_0 a1_1 w c1 c2; rw [h] at this; exact this
    · rw [if_pos ⟨c1, c2⟩] at h; have := impl_AddFractions.yes a0_0 a0_1 a1_0 a1_1 w c1 c2; rw [h] at this; exact this

end Go.Proofs.Ytenlaanknlafdaa.A
