/- A step of the program's queue, on its state in memory. No conditions. -/
import Derived.Test.YtgmnbpdfdagniaaZ22
namespace Go.Proofs.Ytgmnbpdfdagniaa.A
open Go.RowKit Go.Proofs.YtgmnbpdfdagniaaW.PrintWords Go.Proofs.YtgmnbpdfdagniaaW.PrintLast Go.Proofs.YtgmnbpdfdagniaaW.PrintMore
set_option linter.unusedVariables false
set_option linter.unusedSimpArgs false
def boxY (x : S80) : Obj := .cells #[.int .i64 x.f0, .int .i64 x.f1, .int .i64 x.f2, .int .i64 x.f3, .int .i64 x.f4, .int .i64 x.f5, .int .i64 x.f6] 80 (0, 0)
theorem y_cells {w : World} {g : Nat} {x : S80} (h : w.heap[g]? = some (boxY x)) :
    w.cell? ⟨g, 0, none⟩ = some (.int .i64 x.f0) ∧ w.cell? ⟨g, 1, none⟩ = some (.int .i64 x.f1) ∧ w.cell? ⟨g, 2, none⟩ = some (.int .i64 x.f2) ∧ w.cell? ⟨g, 3, none⟩ = some (.int .i64 x.f3) ∧ w.cell? ⟨g, 4, none⟩ = some (.int .i64 x.f4) ∧ w.cell? ⟨g, 5, none⟩ = some (.int .i64 x.f5) ∧ w.cell? ⟨g, 6, none⟩ = some (.int .i64 x.f6) :=
  ⟨(blk_cell h 0).trans rfl, (blk_cell h 1).trans rfl, (blk_cell h 2).trans rfl, (blk_cell h 3).trans rfl, (blk_cell h 4).trans rfl, (blk_cell h 5).trans rfl, (blk_cell h 6).trans rfl⟩
theorem qq_cells {w : World} {g : Nat} {q0 q1 : Int} (h : w.heap[g]? = some (boxQ q0 q1)) : w.cell? ⟨g, 0, none⟩ = some (.int .i64 q0) ∧ w.cell? ⟨g, 1, none⟩ = some (.int .i64 q1) := ⟨(blk_cell h 0).trans rfl, (blk_cell h 1).trans rfl⟩
theorem within_is' (n a b : Int) : impl_within.f n a b = some (decide (a ≤ n ∧ n ≤ b)) := by
  unfold impl_within.f
  by_cases h : n ≥ a
  · rw [if_pos h]; congr 1; rw [decide_eq_decide]; omega
  · rw [if_neg h, decide_eq_false (fun z => h z.1)]
/-- All that a region of the step reads. -/
def HeldY (gx gq : Nat) (x : S80) (q0 q1 : Int) (w' : World) : Prop := w'.heap[gx]? = some (boxY x) ∧ w'.heap[gq]? = some (boxQ q0 q1)
/-- A step: a letter 115 is 's'. -/
def stepF (k : Nat) (q0 q1 : Int) (x : S80) (letter : Int) : Option S80 :=
  if wrap64 (2 * q0) = 0 then none else
  if letter = 115 then
    (impl_Queue_count.f k q0 q1 x.f2).bind fun b =>
    if Int.tmod (wrap64 (wrap64 (x.f0 - b) + wrap64 (2 * q0))) (wrap64 (2 * q0)) < q0 then
      (impl_Queue_code.f q0 q1 x.f0).bind fun c1 => (impl_Queue_code.f q0 q1 (Int.tmod (wrap64 (x.f0 + 1)) (wrap64 (2 * q0)))).bind fun c2 => (impl_Queue_code.f q0 q1 x.f1).bind fun c3 =>
        some ⟨Int.tmod (wrap64 (x.f0 + 1)) (wrap64 (2 * q0)), x.f1, c3, x.f3, Go.bits .xor .i64 c1 c2, x.f5, wrap64 (x.f6 + 1)⟩
    else (impl_Queue_code.f q0 q1 x.f1).bind fun c3 => some ⟨x.f0, x.f1, c3, x.f3, x.f4, x.f5, x.f6⟩
  else
    (impl_Queue_count.f k q0 q1 x.f3).bind fun b =>
    if 1 ≤ Int.tmod (wrap64 (wrap64 (b - x.f1) + wrap64 (2 * q0))) (wrap64 (2 * q0)) ∧ Int.tmod (wrap64 (wrap64 (b - x.f1) + wrap64 (2 * q0))) (wrap64 (2 * q0)) ≤ q0 then
      (impl_Queue_code.f q0 q1 x.f1).bind fun c1 => (impl_Queue_code.f q0 q1 (Int.tmod (wrap64 (x.f1 + 1)) (wrap64 (2 * q0)))).bind fun c2 => (impl_Queue_code.f q0 q1 x.f0).bind fun c3 =>
        some ⟨x.f0, Int.tmod (wrap64 (x.f1 + 1)) (wrap64 (2 * q0)), x.f2, c3, x.f4, Go.bits .xor .i64 c1 c2, wrap64 (x.f6 - 1)⟩
    else (impl_Queue_code.f q0 q1 x.f0).bind fun c3 => some ⟨x.f0, x.f1, x.f2, c3, x.f4, x.f5, x.f6⟩
set_option maxHeartbeats 6400000 in
set_option maxRecDepth 100000 in
theorem stepF.calls (k gx : Nat) (q0 q1 : Int) (x : S80) (letter : Int) (r : S80) (w : World) (hx : w.heap[gx]? = some (boxY x)) (h : stepF k q0 q1 x letter = some r) :
    Calls Try.prog 53 #[.pointer (some ⟨gx, 0, none⟩), .agg #[.int .i64 q0, .int .i64 q1], .int .u8 letter] w fun e w' => e = .returned (.tuple #[]) ∧ w'.heap[gx]? = some (boxY r) ∧ KB gx w w' := by
  have hu26 := Try.underlying26
  unfold stepF at h
  by_cases c0 : wrap64 (2 * q0) = 0
  · rw [if_pos c0] at h; cases h
  rw [if_neg c0] at h
  have c0b : (wrap64 (2 * q0) == 0) = false := beq_eq_false_iff_ne.mpr c0
  have HX := Aside0.mk (blk_alloc hx (boxQ q0 q1))
  have HQ := Aside0.mk (blk_new w (boxQ q0 q1))
  have HK := Aside0.mk (KB.alloc (KB.refl gx w) (boxQ q0 q1))
  have HN := Aside0.mk (show w.heap.size ≠ gx from fun e => by have := blk_lt hx; omega)
  obtain ⟨z0, z1⟩ := qq_cells HQ.out
  obtain ⟨x0, x1, x2, x3, x4, x5, x6⟩ := y_cells HX.out
  clear hx
  by_cases cs : letter = 115
  · rw [if_pos cs] at h
    have csb : (letter == 115) = true := beq_iff_eq.2 cs
    replace h := Option.bind_eq_some_iff.1 h
    obtain ⟨b, hb, h⟩ := h
    have HB := Aside0.mk hb
    clear hb
    by_cases c1 : Int.tmod (wrap64 (wrap64 (x.f0 - b) + wrap64 (2 * q0))) (wrap64 (2 * q0)) < q0
    · rw [if_pos c1] at h
      have c1b := decide_eq_true c1
      replace h := Option.bind_eq_some_iff.1 h
      obtain ⟨e1, h1, h⟩ := h
      have H1 := Aside0.mk h1
      replace h := Option.bind_eq_some_iff.1 h
      obtain ⟨e2, h2, h⟩ := h
      have H2 := Aside0.mk h2
      replace h := Option.bind_eq_some_iff.1 h
      obtain ⟨e3, h3, h⟩ := h
      have H3 := Aside0.mk h3
      have HR := Aside0.mk (Option.some.inj h)
      clear h1 h2 h3 h c1 cs
      go_enter Try.func53, Try.ntmps53
      go_wp2
      go_region_held3 (fun w' => w'.cell? ⟨gx, 0, none⟩ = some (.int .i64 (x.f0)) ∧ w'.cell? ⟨gx, 2, none⟩ = some (.int .i64 (x.f2)) ∧ w'.cell? ⟨w.heap.size, 0, none⟩ = some (.int .i64 q0) ∧ w'.cell? ⟨w.heap.size, 1, none⟩ = some (.int .i64 q1))
        (first
          | exact ⟨(blk_cell X1.out 0).trans rfl, (blk_cell X1.out 2).trans rfl, (blk_cell Q1.out 0).trans rfl, (blk_cell Q1.out 1).trans rfl⟩
          | exact ⟨(blk_cell (HX.out) 0).trans rfl, (blk_cell (HX.out) 2).trans rfl, (blk_cell (HQ.out) 0).trans rfl, (blk_cell (HQ.out) 1).trans rfl⟩
          | go_keep)
        (first
          | (go_at_call 57; (with_reducible refine (impl_Queue_count.calls k q0 q1 x.f2 b _ HB.out).mono ?_); rintro e v1 ⟨rfl, hB⟩; have X1 := Aside0.mk (blk_below (o := boxY ⟨x.f0, x.f1, x.f2, x.f3, x.f4, x.f5, x.f6⟩) (w := ((w.alloc (boxQ q0 q1))).drew) (HX.out) hB); have Q1 := Aside0.mk (blk_below (o := boxQ q0 q1) (w := ((w.alloc (boxQ q0 q1))).drew) (HQ.out) hB); have K1 := Aside0.mk (KB.below (b := ((w.alloc (boxQ q0 q1))).drew) (KB.drew HK.out) hB); clear hB))
      all_goals obtain ⟨z0, z1⟩ := qq_cells Q1.out
      all_goals obtain ⟨x0, x1, x2, x3, x4, x5, x6⟩ := y_cells X1.out
      all_goals (try dsimp only at x0 x1 x2 x3 x4 x5 x6)
      all_goals (try simp only [i64_w])
      (try rw [c1b])
      go_wp2
      go_region_held3 (fun w' => w'.cell? ⟨gx, 0, none⟩ = some (.int .i64 (x.f0)) ∧ w'.cell? ⟨w.heap.size, 0, none⟩ = some (.int .i64 q0) ∧ w'.cell? ⟨w.heap.size, 1, none⟩ = some (.int .i64 q1))
        (first
          | exact ⟨(blk_cell X2.out 0).trans rfl, (blk_cell Q2.out 0).trans rfl, (blk_cell Q2.out 1).trans rfl⟩
          | exact ⟨(blk_cell (X1.out) 0).trans rfl, (blk_cell (Q1.out) 0).trans rfl, (blk_cell (Q1.out) 1).trans rfl⟩
          | go_keep)
        (first
          | (go_at_call 58; (with_reducible refine (impl_Queue_code.calls q0 q1 x.f0 e1 _ H1.out).mono ?_); rintro e v2 ⟨rfl, hB⟩; have X2 := Aside0.mk (blk_below (o := boxY ⟨x.f0, x.f1, x.f2, x.f3, x.f4, x.f5, x.f6⟩) (w := (v1).drew) (X1.out) hB); have Q2 := Aside0.mk (blk_below (o := boxQ q0 q1) (w := (v1).drew) (Q1.out) hB); have K2 := Aside0.mk (KB.below (b := (v1).drew) (KB.drew K1.out) hB); clear hB))
      all_goals obtain ⟨z0, z1⟩ := qq_cells Q2.out
      all_goals obtain ⟨x0, x1, x2, x3, x4, x5, x6⟩ := y_cells X2.out
      all_goals (try dsimp only at x0 x1 x2 x3 x4 x5 x6)
      all_goals (try simp only [i64_w])
      have y0 := blk_frozen X2.out 0
      go_wp2
      have HX2 := Aside0.mk (show (v2.setCell ⟨gx, 0, none⟩ (.int .i64 (Int.tmod (wrap64 (x.f0 + 1)) (wrap64 (2 * q0))))).heap[gx]? = some (boxY ⟨Int.tmod (wrap64 (x.f0 + 1)) (wrap64 (2 * q0)), x.f1, x.f2, x.f3, x.f4, x.f5, x.f6⟩) from blk_put X2.out 0 _ rfl)
      have HQ2 := Aside0.mk (show (v2.setCell ⟨gx, 0, none⟩ (.int .i64 (Int.tmod (wrap64 (x.f0 + 1)) (wrap64 (2 * q0))))).heap[w.heap.size]? = some (boxQ q0 q1) from blk_far Q2.out HN.out _)
      go_region_held3 (fun w' => w'.cell? ⟨gx, 0, none⟩ = some (.int .i64 (Int.tmod (wrap64 (x.f0 + 1)) (wrap64 (2 * q0)))) ∧ w'.cell? ⟨w.heap.size, 0, none⟩ = some (.int .i64 q0) ∧ w'.cell? ⟨w.heap.size, 1, none⟩ = some (.int .i64 q1))
        (first
          | exact ⟨(blk_cell X3.out 0).trans rfl, (blk_cell Q3.out 0).trans rfl, (blk_cell Q3.out 1).trans rfl⟩
          | exact ⟨(blk_cell (HX2.out) 0).trans rfl, (blk_cell (HQ2.out) 0).trans rfl, (blk_cell (HQ2.out) 1).trans rfl⟩
          | exact ⟨(blk_cell (blk_put X3.out 4 _ rfl) 0).trans rfl, (blk_cell (blk_far Q3.out HN.out _) 0).trans rfl, (blk_cell (blk_far Q3.out HN.out _) 1).trans rfl⟩
          | go_keep)
        (first
          | (go_at_call 58; (with_reducible refine (impl_Queue_code.calls q0 q1 (Int.tmod (wrap64 (x.f0 + 1)) (wrap64 (2 * q0))) e2 _ H2.out).mono ?_); rintro e v3 ⟨rfl, hB⟩; have X3 := Aside0.mk (blk_below (o := boxY ⟨Int.tmod (wrap64 (x.f0 + 1)) (wrap64 (2 * q0)), x.f1, x.f2, x.f3, x.f4, x.f5, x.f6⟩) (w := (v2.setCell ⟨gx, 0, none⟩ (.int .i64 (Int.tmod (wrap64 (x.f0 + 1)) (wrap64 (2 * q0))))).drew) (HX2.out) hB); have Q3 := Aside0.mk (blk_below (o := boxQ q0 q1) (w := (v2.setCell ⟨gx, 0, none⟩ (.int .i64 (Int.tmod (wrap64 (x.f0 + 1)) (wrap64 (2 * q0))))).drew) (HQ2.out) hB); have K3 := Aside0.mk (KB.below (b := (v2.setCell ⟨gx, 0, none⟩ (.int .i64 (Int.tmod (wrap64 (x.f0 + 1)) (wrap64 (2 * q0))))).drew) (KB.drew (KB.set K2.out 0 _)) hB); have y_ := blk_frozen X3.out 4; obtain ⟨x0, x1, x2, x3, x4, x5, x6⟩ := y_cells X3.out; (try dsimp only at x0 x1 x2 x3 x4 x5 x6); clear hB))
      all_goals obtain ⟨z0, z1⟩ := qq_cells Q3.out
      all_goals obtain ⟨x0, x1, x2, x3, x4, x5, x6⟩ := y_cells X3.out
      all_goals (try dsimp only at x0 x1 x2 x3 x4 x5 x6)
      all_goals (try simp only [i64_w])
      have HX3 := Aside0.mk (show ((v3.setCell ⟨gx, 4, none⟩ (.int .i64 (Go.bits .xor .i64 e1 e2)))).heap[gx]? = some (boxY ⟨Int.tmod (wrap64 (x.f0 + 1)) (wrap64 (2 * q0)), x.f1, x.f2, x.f3, Go.bits .xor .i64 e1 e2, x.f5, x.f6⟩) from blk_put X3.out 4 _ rfl)
      have HQ3 := Aside0.mk (show ((v3.setCell ⟨gx, 4, none⟩ (.int .i64 (Go.bits .xor .i64 e1 e2)))).heap[w.heap.size]? = some (boxQ q0 q1) from blk_far Q3.out HN.out _)
      have y6 := blk_frozen X3.out 6
      go_wp2
      have HX4 := Aside0.mk (show (((v3.setCell ⟨gx, 4, none⟩ (.int .i64 (Go.bits .xor .i64 e1 e2))).setCell ⟨gx, 6, none⟩ (.int .i64 (wrap64 (x.f6 + 1))))).heap[gx]? = some (boxY ⟨Int.tmod (wrap64 (x.f0 + 1)) (wrap64 (2 * q0)), x.f1, x.f2, x.f3, Go.bits .xor .i64 e1 e2, x.f5, wrap64 (x.f6 + 1)⟩) from blk_put HX3.out 6 _ rfl)
      have HQ4 := Aside0.mk (show (((v3.setCell ⟨gx, 4, none⟩ (.int .i64 (Go.bits .xor .i64 e1 e2))).setCell ⟨gx, 6, none⟩ (.int .i64 (wrap64 (x.f6 + 1))))).heap[w.heap.size]? = some (boxQ q0 q1) from blk_far HQ3.out HN.out _)
      go_region_held3 (fun w' => w'.cell? ⟨gx, 1, none⟩ = some (.int .i64 (x.f1)) ∧ w'.cell? ⟨w.heap.size, 0, none⟩ = some (.int .i64 q0) ∧ w'.cell? ⟨w.heap.size, 1, none⟩ = some (.int .i64 q1))
        (first
          | exact ⟨(blk_cell X5.out 1).trans rfl, (blk_cell Q5.out 0).trans rfl, (blk_cell Q5.out 1).trans rfl⟩
          | exact ⟨(blk_cell (HX4.out) 1).trans rfl, (blk_cell (HQ4.out) 0).trans rfl, (blk_cell (HQ4.out) 1).trans rfl⟩
          | exact ⟨(blk_cell (blk_put X5.out 2 _ rfl) 1).trans rfl, (blk_cell (blk_far Q5.out HN.out _) 0).trans rfl, (blk_cell (blk_far Q5.out HN.out _) 1).trans rfl⟩
          | go_keep)
        (first
          | (go_at_call 58; (with_reducible refine (impl_Queue_code.calls q0 q1 x.f1 e3 _ H3.out).mono ?_); rintro e v5 ⟨rfl, hB⟩; have X5 := Aside0.mk (blk_below (o := boxY ⟨Int.tmod (wrap64 (x.f0 + 1)) (wrap64 (2 * q0)), x.f1, x.f2, x.f3, Go.bits .xor .i64 e1 e2, x.f5, wrap64 (x.f6 + 1)⟩) (w := (((v3.setCell ⟨gx, 4, none⟩ (.int .i64 (Go.bits .xor .i64 e1 e2))).setCell ⟨gx, 6, none⟩ (.int .i64 (wrap64 (x.f6 + 1))))).drew) (HX4.out) hB); have Q5 := Aside0.mk (blk_below (o := boxQ q0 q1) (w := (((v3.setCell ⟨gx, 4, none⟩ (.int .i64 (Go.bits .xor .i64 e1 e2))).setCell ⟨gx, 6, none⟩ (.int .i64 (wrap64 (x.f6 + 1))))).drew) (HQ4.out) hB); have K5 := Aside0.mk (KB.below (b := (((v3.setCell ⟨gx, 4, none⟩ (.int .i64 (Go.bits .xor .i64 e1 e2))).setCell ⟨gx, 6, none⟩ (.int .i64 (wrap64 (x.f6 + 1))))).drew) (KB.drew (KB.set (KB.set K3.out 4 _) 6 _)) hB); have y_ := blk_frozen X5.out 2; obtain ⟨x0, x1, x2, x3, x4, x5, x6⟩ := y_cells X5.out; (try dsimp only at x0 x1 x2 x3 x4 x5 x6); clear hB))
      all_goals obtain ⟨z0, z1⟩ := qq_cells Q5.out
      all_goals obtain ⟨x0, x1, x2, x3, x4, x5, x6⟩ := y_cells X5.out
      all_goals (try dsimp only at x0 x1 x2 x3 x4 x5 x6)
      all_goals (try simp only [i64_w])
      all_goals go_wp2
      all_goals (first | go_end0 | ((try simp only [Exit.inBlock, Exit.then]); refine bodyPost_ret (results_none rfl _ _ _) rfl ?_))
      all_goals exact ⟨rfl, by rw [← HR.out]; exact blk_put X5.out 2 _ rfl, KB.set K5.out 2 _⟩
    · rw [if_neg c1] at h
      have c1b := decide_eq_false c1
      replace h := Option.bind_eq_some_iff.1 h
      obtain ⟨e3, h3, h⟩ := h
      have H3 := Aside0.mk h3
      have HR := Aside0.mk (Option.some.inj h)
      clear h3 h c1 cs
      go_enter Try.func53, Try.ntmps53
      go_wp2
      go_region_held3 (fun w' => w'.cell? ⟨gx, 0, none⟩ = some (.int .i64 (x.f0)) ∧ w'.cell? ⟨gx, 2, none⟩ = some (.int .i64 (x.f2)) ∧ w'.cell? ⟨w.heap.size, 0, none⟩ = some (.int .i64 q0) ∧ w'.cell? ⟨w.heap.size, 1, none⟩ = some (.int .i64 q1))
        (first
          | exact ⟨(blk_cell X1.out 0).trans rfl, (blk_cell X1.out 2).trans rfl, (blk_cell Q1.out 0).trans rfl, (blk_cell Q1.out 1).trans rfl⟩
          | exact ⟨(blk_cell (HX.out) 0).trans rfl, (blk_cell (HX.out) 2).trans rfl, (blk_cell (HQ.out) 0).trans rfl, (blk_cell (HQ.out) 1).trans rfl⟩
          | go_keep)
        (first
          | (go_at_call 57; (with_reducible refine (impl_Queue_count.calls k q0 q1 x.f2 b _ HB.out).mono ?_); rintro e v1 ⟨rfl, hB⟩; have X1 := Aside0.mk (blk_below (o := boxY ⟨x.f0, x.f1, x.f2, x.f3, x.f4, x.f5, x.f6⟩) (w := ((w.alloc (boxQ q0 q1))).drew) (HX.out) hB); have Q1 := Aside0.mk (blk_below (o := boxQ q0 q1) (w := ((w.alloc (boxQ q0 q1))).drew) (HQ.out) hB); have K1 := Aside0.mk (KB.below (b := ((w.alloc (boxQ q0 q1))).drew) (KB.drew HK.out) hB); clear hB))
      all_goals obtain ⟨z0, z1⟩ := qq_cells Q1.out
      all_goals obtain ⟨x0, x1, x2, x3, x4, x5, x6⟩ := y_cells X1.out
      all_goals (try dsimp only at x0 x1 x2 x3 x4 x5 x6)
      all_goals (try simp only [i64_w])
      (try rw [c1b])
      go_wp2
      go_region_held3 (fun w' => w'.cell? ⟨gx, 1, none⟩ = some (.int .i64 (x.f1)) ∧ w'.cell? ⟨w.heap.size, 0, none⟩ = some (.int .i64 q0) ∧ w'.cell? ⟨w.heap.size, 1, none⟩ = some (.int .i64 q1))
        (first
          | exact ⟨(blk_cell X5.out 1).trans rfl, (blk_cell Q5.out 0).trans rfl, (blk_cell Q5.out 1).trans rfl⟩
          | exact ⟨(blk_cell (X1.out) 1).trans rfl, (blk_cell (Q1.out) 0).trans rfl, (blk_cell (Q1.out) 1).trans rfl⟩
          | exact ⟨(blk_cell (blk_put X5.out 2 _ rfl) 1).trans rfl, (blk_cell (blk_far Q5.out HN.out _) 0).trans rfl, (blk_cell (blk_far Q5.out HN.out _) 1).trans rfl⟩
          | go_keep)
        (first
          | (go_at_call 58; (with_reducible refine (impl_Queue_code.calls q0 q1 x.f1 e3 _ H3.out).mono ?_); rintro e v5 ⟨rfl, hB⟩; have X5 := Aside0.mk (blk_below (o := boxY ⟨x.f0, x.f1, x.f2, x.f3, x.f4, x.f5, x.f6⟩) (w := (v1).drew) (X1.out) hB); have Q5 := Aside0.mk (blk_below (o := boxQ q0 q1) (w := (v1).drew) (Q1.out) hB); have K5 := Aside0.mk (KB.below (b := (v1).drew) (KB.drew K1.out) hB); have y_ := blk_frozen X5.out 2; obtain ⟨x0, x1, x2, x3, x4, x5, x6⟩ := y_cells X5.out; (try dsimp only at x0 x1 x2 x3 x4 x5 x6); clear hB))
      all_goals obtain ⟨z0, z1⟩ := qq_cells Q5.out
      all_goals obtain ⟨x0, x1, x2, x3, x4, x5, x6⟩ := y_cells X5.out
      all_goals (try dsimp only at x0 x1 x2 x3 x4 x5 x6)
      all_goals (try simp only [i64_w])
      all_goals go_wp2
      all_goals (first | go_end0 | ((try simp only [Exit.inBlock, Exit.then]); refine bodyPost_ret (results_none rfl _ _ _) rfl ?_))
      all_goals exact ⟨rfl, by rw [← HR.out]; exact blk_put X5.out 2 _ rfl, KB.set K5.out 2 _⟩

  · rw [if_neg cs] at h
    have csb : (letter == 115) = false := beq_eq_false_iff_ne.2 cs
    replace h := Option.bind_eq_some_iff.1 h
    obtain ⟨b, hb, h⟩ := h
    have HB := Aside0.mk hb
    clear hb
    by_cases c1 : 1 ≤ Int.tmod (wrap64 (wrap64 (b - x.f1) + wrap64 (2 * q0))) (wrap64 (2 * q0)) ∧ Int.tmod (wrap64 (wrap64 (b - x.f1) + wrap64 (2 * q0))) (wrap64 (2 * q0)) ≤ q0
    · rw [if_pos c1] at h
      have HI := Aside0.mk ((within_is' (Int.tmod (wrap64 (wrap64 (b - x.f1) + wrap64 (2 * q0))) (wrap64 (2 * q0))) 1 q0).trans (by rw [decide_eq_true c1] : _ = some true))
      replace h := Option.bind_eq_some_iff.1 h
      obtain ⟨e1, h1, h⟩ := h
      have H1 := Aside0.mk h1
      replace h := Option.bind_eq_some_iff.1 h
      obtain ⟨e2, h2, h⟩ := h
      have H2 := Aside0.mk h2
      replace h := Option.bind_eq_some_iff.1 h
      obtain ⟨e3, h3, h⟩ := h
      have H3 := Aside0.mk h3
      have HR := Aside0.mk (Option.some.inj h)
      clear h1 h2 h3 h c1 cs
      go_enter Try.func53, Try.ntmps53
      go_wp2
      go_region_held3 (fun w' => w'.cell? ⟨gx, 1, none⟩ = some (.int .i64 (x.f1)) ∧ w'.cell? ⟨gx, 3, none⟩ = some (.int .i64 (x.f3)) ∧ w'.cell? ⟨w.heap.size, 0, none⟩ = some (.int .i64 q0) ∧ w'.cell? ⟨w.heap.size, 1, none⟩ = some (.int .i64 q1))
        (first
          | exact ⟨(blk_cell X1.out 1).trans rfl, (blk_cell X1.out 3).trans rfl, (blk_cell Q1.out 0).trans rfl, (blk_cell Q1.out 1).trans rfl⟩
          | exact ⟨(blk_cell (HX.out) 1).trans rfl, (blk_cell (HX.out) 3).trans rfl, (blk_cell (HQ.out) 0).trans rfl, (blk_cell (HQ.out) 1).trans rfl⟩
          | go_keep)
        (first
          | (go_at_call 57; (with_reducible refine (impl_Queue_count.calls k q0 q1 x.f3 b _ HB.out).mono ?_); rintro e v1 ⟨rfl, hB⟩; have X1 := Aside0.mk (blk_below (o := boxY ⟨x.f0, x.f1, x.f2, x.f3, x.f4, x.f5, x.f6⟩) (w := ((w.alloc (boxQ q0 q1))).drew) (HX.out) hB); have Q1 := Aside0.mk (blk_below (o := boxQ q0 q1) (w := ((w.alloc (boxQ q0 q1))).drew) (HQ.out) hB); have K1 := Aside0.mk (KB.below (b := ((w.alloc (boxQ q0 q1))).drew) (KB.drew HK.out) hB); clear hB))
      all_goals obtain ⟨z0, z1⟩ := qq_cells Q1.out
      all_goals obtain ⟨x0, x1, x2, x3, x4, x5, x6⟩ := y_cells X1.out
      all_goals (try dsimp only at x0 x1 x2 x3 x4 x5 x6)
      all_goals (try simp only [i64_w])
      go_wp2_with (first
        | (go_at_call 46; (with_reducible refine (impl_within.calls (Int.tmod (wrap64 (wrap64 (b - x.f1) + wrap64 (2 * q0))) (wrap64 (2 * q0))) 1 q0 true _ HI.out).mono ?_); rintro e wi ⟨rfl, hD⟩; have X1b := Aside0.mk (show wi.heap[gx]? = some (boxY x) by obtain ⟨m, rfl⟩ := hD; exact X1.out); have Q1b := Aside0.mk (show wi.heap[w.heap.size]? = some (boxQ q0 q1) by obtain ⟨m, rfl⟩ := hD; exact Q1.out); have K1b := Aside0.mk (show KB gx w wi by obtain ⟨m, rfl⟩ := hD; exact KB.drewN K1.out m); clear hD; obtain ⟨z0, z1⟩ := qq_cells Q1b.out; obtain ⟨x0, x1, x2, x3, x4, x5, x6⟩ := y_cells X1b.out))
      go_region_held3 (fun w' => w'.cell? ⟨gx, 1, none⟩ = some (.int .i64 (x.f1)) ∧ w'.cell? ⟨w.heap.size, 0, none⟩ = some (.int .i64 q0) ∧ w'.cell? ⟨w.heap.size, 1, none⟩ = some (.int .i64 q1))
        (first
          | exact ⟨(blk_cell X2.out 1).trans rfl, (blk_cell Q2.out 0).trans rfl, (blk_cell Q2.out 1).trans rfl⟩
          | exact ⟨(blk_cell (X1b.out) 1).trans rfl, (blk_cell (Q1b.out) 0).trans rfl, (blk_cell (Q1b.out) 1).trans rfl⟩
          | go_keep)
        (first
          | (go_at_call 58; (with_reducible refine (impl_Queue_code.calls q0 q1 x.f1 e1 _ H1.out).mono ?_); rintro e v2 ⟨rfl, hB⟩; have X2 := Aside0.mk (blk_below (o := boxY ⟨x.f0, x.f1, x.f2, x.f3, x.f4, x.f5, x.f6⟩) (w := (wi).drew) (X1b.out) hB); have Q2 := Aside0.mk (blk_below (o := boxQ q0 q1) (w := (wi).drew) (Q1b.out) hB); have K2 := Aside0.mk (KB.below (b := (wi).drew) (KB.drew K1b.out) hB); clear hB))
      all_goals obtain ⟨z0, z1⟩ := qq_cells Q2.out
      all_goals obtain ⟨x0, x1, x2, x3, x4, x5, x6⟩ := y_cells X2.out
      all_goals (try dsimp only at x0 x1 x2 x3 x4 x5 x6)
      all_goals (try simp only [i64_w])
      have y0 := blk_frozen X2.out 1
      go_wp2
      have HX2 := Aside0.mk (show (v2.setCell ⟨gx, 1, none⟩ (.int .i64 (Int.tmod (wrap64 (x.f1 + 1)) (wrap64 (2 * q0))))).heap[gx]? = some (boxY ⟨x.f0, Int.tmod (wrap64 (x.f1 + 1)) (wrap64 (2 * q0)), x.f2, x.f3, x.f4, x.f5, x.f6⟩) from blk_put X2.out 1 _ rfl)
      have HQ2 := Aside0.mk (show (v2.setCell ⟨gx, 1, none⟩ (.int .i64 (Int.tmod (wrap64 (x.f1 + 1)) (wrap64 (2 * q0))))).heap[w.heap.size]? = some (boxQ q0 q1) from blk_far Q2.out HN.out _)
      go_region_held3 (fun w' => w'.cell? ⟨gx, 1, none⟩ = some (.int .i64 (Int.tmod (wrap64 (x.f1 + 1)) (wrap64 (2 * q0)))) ∧ w'.cell? ⟨w.heap.size, 0, none⟩ = some (.int .i64 q0) ∧ w'.cell? ⟨w.heap.size, 1, none⟩ = some (.int .i64 q1))
        (first
          | exact ⟨(blk_cell X3.out 1).trans rfl, (blk_cell Q3.out 0).trans rfl, (blk_cell Q3.out 1).trans rfl⟩
          | exact ⟨(blk_cell (HX2.out) 1).trans rfl, (blk_cell (HQ2.out) 0).trans rfl, (blk_cell (HQ2.out) 1).trans rfl⟩
          | exact ⟨(blk_cell (blk_put X3.out 5 _ rfl) 1).trans rfl, (blk_cell (blk_far Q3.out HN.out _) 0).trans rfl, (blk_cell (blk_far Q3.out HN.out _) 1).trans rfl⟩
          | go_keep)
        (first
          | (go_at_call 58; (with_reducible refine (impl_Queue_code.calls q0 q1 (Int.tmod (wrap64 (x.f1 + 1)) (wrap64 (2 * q0))) e2 _ H2.out).mono ?_); rintro e v3 ⟨rfl, hB⟩; have X3 := Aside0.mk (blk_below (o := boxY ⟨x.f0, Int.tmod (wrap64 (x.f1 + 1)) (wrap64 (2 * q0)), x.f2, x.f3, x.f4, x.f5, x.f6⟩) (w := (v2.setCell ⟨gx, 1, none⟩ (.int .i64 (Int.tmod (wrap64 (x.f1 + 1)) (wrap64 (2 * q0))))).drew) (HX2.out) hB); have Q3 := Aside0.mk (blk_below (o := boxQ q0 q1) (w := (v2.setCell ⟨gx, 1, none⟩ (.int .i64 (Int.tmod (wrap64 (x.f1 + 1)) (wrap64 (2 * q0))))).drew) (HQ2.out) hB); have K3 := Aside0.mk (KB.below (b := (v2.setCell ⟨gx, 1, none⟩ (.int .i64 (Int.tmod (wrap64 (x.f1 + 1)) (wrap64 (2 * q0))))).drew) (KB.drew (KB.set K2.out 1 _)) hB); have y_ := blk_frozen X3.out 5; obtain ⟨x0, x1, x2, x3, x4, x5, x6⟩ := y_cells X3.out; (try dsimp only at x0 x1 x2 x3 x4 x5 x6); clear hB))
      all_goals obtain ⟨z0, z1⟩ := qq_cells Q3.out
      all_goals obtain ⟨x0, x1, x2, x3, x4, x5, x6⟩ := y_cells X3.out
      all_goals (try dsimp only at x0 x1 x2 x3 x4 x5 x6)
      all_goals (try simp only [i64_w])
      have HX3 := Aside0.mk (show ((v3.setCell ⟨gx, 5, none⟩ (.int .i64 (Go.bits .xor .i64 e1 e2)))).heap[gx]? = some (boxY ⟨x.f0, Int.tmod (wrap64 (x.f1 + 1)) (wrap64 (2 * q0)), x.f2, x.f3, x.f4, Go.bits .xor .i64 e1 e2, x.f6⟩) from blk_put X3.out 5 _ rfl)
      have HQ3 := Aside0.mk (show ((v3.setCell ⟨gx, 5, none⟩ (.int .i64 (Go.bits .xor .i64 e1 e2)))).heap[w.heap.size]? = some (boxQ q0 q1) from blk_far Q3.out HN.out _)
      have y6 := blk_frozen X3.out 6
      go_wp2
      have HX4 := Aside0.mk (show (((v3.setCell ⟨gx, 5, none⟩ (.int .i64 (Go.bits .xor .i64 e1 e2))).setCell ⟨gx, 6, none⟩ (.int .i64 (wrap64 (x.f6 - 1))))).heap[gx]? = some (boxY ⟨x.f0, Int.tmod (wrap64 (x.f1 + 1)) (wrap64 (2 * q0)), x.f2, x.f3, x.f4, Go.bits .xor .i64 e1 e2, wrap64 (x.f6 - 1)⟩) from blk_put HX3.out 6 _ rfl)
      have HQ4 := Aside0.mk (show (((v3.setCell ⟨gx, 5, none⟩ (.int .i64 (Go.bits .xor .i64 e1 e2))).setCell ⟨gx, 6, none⟩ (.int .i64 (wrap64 (x.f6 - 1))))).heap[w.heap.size]? = some (boxQ q0 q1) from blk_far HQ3.out HN.out _)
      go_region_held3 (fun w' => w'.cell? ⟨gx, 0, none⟩ = some (.int .i64 (x.f0)) ∧ w'.cell? ⟨w.heap.size, 0, none⟩ = some (.int .i64 q0) ∧ w'.cell? ⟨w.heap.size, 1, none⟩ = some (.int .i64 q1))
        (first
          | exact ⟨(blk_cell X5.out 0).trans rfl, (blk_cell Q5.out 0).trans rfl, (blk_cell Q5.out 1).trans rfl⟩
          | exact ⟨(blk_cell (HX4.out) 0).trans rfl, (blk_cell (HQ4.out) 0).trans rfl, (blk_cell (HQ4.out) 1).trans rfl⟩
          | exact ⟨(blk_cell (blk_put X5.out 3 _ rfl) 0).trans rfl, (blk_cell (blk_far Q5.out HN.out _) 0).trans rfl, (blk_cell (blk_far Q5.out HN.out _) 1).trans rfl⟩
          | go_keep)
        (first
          | (go_at_call 58; (with_reducible refine (impl_Queue_code.calls q0 q1 x.f0 e3 _ H3.out).mono ?_); rintro e v5 ⟨rfl, hB⟩; have X5 := Aside0.mk (blk_below (o := boxY ⟨x.f0, Int.tmod (wrap64 (x.f1 + 1)) (wrap64 (2 * q0)), x.f2, x.f3, x.f4, Go.bits .xor .i64 e1 e2, wrap64 (x.f6 - 1)⟩) (w := (((v3.setCell ⟨gx, 5, none⟩ (.int .i64 (Go.bits .xor .i64 e1 e2))).setCell ⟨gx, 6, none⟩ (.int .i64 (wrap64 (x.f6 - 1))))).drew) (HX4.out) hB); have Q5 := Aside0.mk (blk_below (o := boxQ q0 q1) (w := (((v3.setCell ⟨gx, 5, none⟩ (.int .i64 (Go.bits .xor .i64 e1 e2))).setCell ⟨gx, 6, none⟩ (.int .i64 (wrap64 (x.f6 - 1))))).drew) (HQ4.out) hB); have K5 := Aside0.mk (KB.below (b := (((v3.setCell ⟨gx, 5, none⟩ (.int .i64 (Go.bits .xor .i64 e1 e2))).setCell ⟨gx, 6, none⟩ (.int .i64 (wrap64 (x.f6 - 1))))).drew) (KB.drew (KB.set (KB.set K3.out 5 _) 6 _)) hB); have y_ := blk_frozen X5.out 3; obtain ⟨x0, x1, x2, x3, x4, x5, x6⟩ := y_cells X5.out; (try dsimp only at x0 x1 x2 x3 x4 x5 x6); clear hB))
      all_goals obtain ⟨z0, z1⟩ := qq_cells Q5.out
      all_goals obtain ⟨x0, x1, x2, x3, x4, x5, x6⟩ := y_cells X5.out
      all_goals (try dsimp only at x0 x1 x2 x3 x4 x5 x6)
      all_goals (try simp only [i64_w])
      all_goals go_wp2
      all_goals (first | go_end0 | ((try simp only [Exit.inBlock, Exit.then]); refine bodyPost_ret (results_none rfl _ _ _) rfl ?_))
      all_goals exact ⟨rfl, by rw [← HR.out]; exact blk_put X5.out 3 _ rfl, KB.set K5.out 3 _⟩
    · rw [if_neg c1] at h
      have HI := Aside0.mk ((within_is' (Int.tmod (wrap64 (wrap64 (b - x.f1) + wrap64 (2 * q0))) (wrap64 (2 * q0))) 1 q0).trans (by rw [decide_eq_false c1] : _ = some false))
      replace h := Option.bind_eq_some_iff.1 h
      obtain ⟨e3, h3, h⟩ := h
      have H3 := Aside0.mk h3
      have HR := Aside0.mk (Option.some.inj h)
      clear h3 h c1 cs
      go_enter Try.func53, Try.ntmps53
      go_wp2
      go_region_held3 (fun w' => w'.cell? ⟨gx, 1, none⟩ = some (.int .i64 (x.f1)) ∧ w'.cell? ⟨gx, 3, none⟩ = some (.int .i64 (x.f3)) ∧ w'.cell? ⟨w.heap.size, 0, none⟩ = some (.int .i64 q0) ∧ w'.cell? ⟨w.heap.size, 1, none⟩ = some (.int .i64 q1))
        (first
          | exact ⟨(blk_cell X1.out 1).trans rfl, (blk_cell X1.out 3).trans rfl, (blk_cell Q1.out 0).trans rfl, (blk_cell Q1.out 1).trans rfl⟩
          | exact ⟨(blk_cell (HX.out) 1).trans rfl, (blk_cell (HX.out) 3).trans rfl, (blk_cell (HQ.out) 0).trans rfl, (blk_cell (HQ.out) 1).trans rfl⟩
          | go_keep)
        (first
          | (go_at_call 57; (with_reducible refine (impl_Queue_count.calls k q0 q1 x.f3 b _ HB.out).mono ?_); rintro e v1 ⟨rfl, hB⟩; have X1 := Aside0.mk (blk_below (o := boxY ⟨x.f0, x.f1, x.f2, x.f3, x.f4, x.f5, x.f6⟩) (w := ((w.alloc (boxQ q0 q1))).drew) (HX.out) hB); have Q1 := Aside0.mk (blk_below (o := boxQ q0 q1) (w := ((w.alloc (boxQ q0 q1))).drew) (HQ.out) hB); have K1 := Aside0.mk (KB.below (b := ((w.alloc (boxQ q0 q1))).drew) (KB.drew HK.out) hB); clear hB))
      all_goals obtain ⟨z0, z1⟩ := qq_cells Q1.out
      all_goals obtain ⟨x0, x1, x2, x3, x4, x5, x6⟩ := y_cells X1.out
      all_goals (try dsimp only at x0 x1 x2 x3 x4 x5 x6)
      all_goals (try simp only [i64_w])
      go_wp2_with (first
        | (go_at_call 46; (with_reducible refine (impl_within.calls (Int.tmod (wrap64 (wrap64 (b - x.f1) + wrap64 (2 * q0))) (wrap64 (2 * q0))) 1 q0 false _ HI.out).mono ?_); rintro e wi ⟨rfl, hD⟩; have X1b := Aside0.mk (show wi.heap[gx]? = some (boxY x) by obtain ⟨m, rfl⟩ := hD; exact X1.out); have Q1b := Aside0.mk (show wi.heap[w.heap.size]? = some (boxQ q0 q1) by obtain ⟨m, rfl⟩ := hD; exact Q1.out); have K1b := Aside0.mk (show KB gx w wi by obtain ⟨m, rfl⟩ := hD; exact KB.drewN K1.out m); clear hD; obtain ⟨z0, z1⟩ := qq_cells Q1b.out; obtain ⟨x0, x1, x2, x3, x4, x5, x6⟩ := y_cells X1b.out))
      go_region_held3 (fun w' => w'.cell? ⟨gx, 0, none⟩ = some (.int .i64 (x.f0)) ∧ w'.cell? ⟨w.heap.size, 0, none⟩ = some (.int .i64 q0) ∧ w'.cell? ⟨w.heap.size, 1, none⟩ = some (.int .i64 q1))
        (first
          | exact ⟨(blk_cell X5.out 0).trans rfl, (blk_cell Q5.out 0).trans rfl, (blk_cell Q5.out 1).trans rfl⟩
          | exact ⟨(blk_cell (X1b.out) 0).trans rfl, (blk_cell (Q1b.out) 0).trans rfl, (blk_cell (Q1b.out) 1).trans rfl⟩
          | exact ⟨(blk_cell (blk_put X5.out 3 _ rfl) 0).trans rfl, (blk_cell (blk_far Q5.out HN.out _) 0).trans rfl, (blk_cell (blk_far Q5.out HN.out _) 1).trans rfl⟩
          | go_keep)
        (first
          | (go_at_call 58; (with_reducible refine (impl_Queue_code.calls q0 q1 x.f0 e3 _ H3.out).mono ?_); rintro e v5 ⟨rfl, hB⟩; have X5 := Aside0.mk (blk_below (o := boxY ⟨x.f0, x.f1, x.f2, x.f3, x.f4, x.f5, x.f6⟩) (w := (wi).drew) (X1b.out) hB); have Q5 := Aside0.mk (blk_below (o := boxQ q0 q1) (w := (wi).drew) (Q1b.out) hB); have K5 := Aside0.mk (KB.below (b := (wi).drew) (KB.drew K1b.out) hB); have y_ := blk_frozen X5.out 3; obtain ⟨x0, x1, x2, x3, x4, x5, x6⟩ := y_cells X5.out; (try dsimp only at x0 x1 x2 x3 x4 x5 x6); clear hB))
      all_goals obtain ⟨z0, z1⟩ := qq_cells Q5.out
      all_goals obtain ⟨x0, x1, x2, x3, x4, x5, x6⟩ := y_cells X5.out
      all_goals (try dsimp only at x0 x1 x2 x3 x4 x5 x6)
      all_goals (try simp only [i64_w])
      all_goals go_wp2
      all_goals (first | go_end0 | ((try simp only [Exit.inBlock, Exit.then]); refine bodyPost_ret (results_none rfl _ _ _) rfl ?_))
      all_goals exact ⟨rfl, by rw [← HR.out]; exact blk_put X5.out 3 _ rfl, KB.set K5.out 3 _⟩

end Go.Proofs.Ytgmnbpdfdagniaa.A
