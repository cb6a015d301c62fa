/- Texts of this claim, put together by this session's pack2.py: each part is introduced by its own comment. No conditions. -/
import Derived.Test.YtgmnbpdfdagniaaZ22
import Derived.Test.YtgmnbpdfdagniaaQ4
import Derived.Test.YtgmnbpdfdagniaaWEqStruct
import Derived.Maps.Own
import Derived.MapKept
import Derived.ChangeMaps5
import Derived.ArgAppend
import Derived.Lib.SlBytesConst
/- A step of the writer and of the reader of a queue (the reference). No conditions. -/
namespace Go.Proofs.Ytgmnbpdfdagniaa.A
open Go.RowKit Go.Proofs.YtgmnbpdfdagniaaW.PrintWords Go.Proofs.YtgmnbpdfdagniaaW.PrintLast Go.Proofs.YtgmnbpdfdagniaaW.PrintMore
set_option linter.unusedVariables false
set_option linter.unusedSimpArgs false
/-- What both sides have, in memory. -/
def cellsX (x : S73) : Array Value := #[.int .i64 x.f0, .int .i64 x.f1, .int .i64 x.f2, .int .i64 x.f3, .int .i64 x.f4, .int .i64 x.f5, .int .i64 x.f6]
def boxX (x : S73) : Obj := .cells (cellsX x) 73 (0, 0)
theorem x_cells {w : World} {g : Nat} {x : S73} (h : w.heap[g]? = some (boxX x)) :
    w.cell? ⟨g, 0, none⟩ = some (.int .i64 x.f0) ∧ w.cell? ⟨g, 1, none⟩ = some (.int .i64 x.f1) ∧ w.cell? ⟨g, 2, none⟩ = some (.int .i64 x.f2) ∧ w.cell? ⟨g, 3, none⟩ = some (.int .i64 x.f3) ∧ w.cell? ⟨g, 4, none⟩ = some (.int .i64 x.f4) ∧ w.cell? ⟨g, 5, none⟩ = some (.int .i64 x.f5) ∧ w.cell? ⟨g, 6, none⟩ = some (.int .i64 x.f6) :=
  ⟨(blk_cell h 0).trans rfl, (blk_cell h 1).trans rfl, (blk_cell h 2).trans rfl, (blk_cell h 3).trans rfl, (blk_cell h 4).trans rfl, (blk_cell h 5).trans rfl, (blk_cell h 6).trans rfl⟩
theorem q_cells {w : World} {g : Nat} {q0 q1 : Int} (h : w.heap[g]? = some (boxQ q0 q1)) : w.cell? ⟨g, 0, none⟩ = some (.int .i64 q0) ∧ w.cell? ⟨g, 1, none⟩ = some (.int .i64 q1) := ⟨(blk_cell h 0).trans rfl, (blk_cell h 1).trans rfl⟩
theorem drawn_quiet {w w' : World} (h : Drawn0 w w') : ∃ m, w' = w.drewN m := by obtain ⟨m, rfl⟩ := h; exact ⟨m, rfl⟩
/-- A step of the writer. -/
def spec_l05Write.f (k : Nat) (q0 q1 : Int) (x : S73) (old : Int) : Option S73 :=
  if wrap64 (2 * q0) = 0 then none else
  (countO k q0 q1 x.f2).bind fun b =>
  if Int.tmod (wrap64 (wrap64 (x.f0 - b) + wrap64 (2 * q0))) (wrap64 (2 * q0)) < q0 then
    (codeO q0 q1 x.f0).bind fun c1 => (codeO q0 q1 (Int.tmod (wrap64 (x.f0 + 1)) (wrap64 (2 * q0)))).bind fun c2 => (codeO q0 q1 x.f1).bind fun c3 =>
      some ⟨Int.tmod (wrap64 (x.f0 + 1)) (wrap64 (2 * q0)), x.f1, Go.bits .xor .i64 c3 old, x.f3, wrap64 (x.f4 + 1), Go.bits .xor .i64 c1 c2, x.f6⟩
  else (codeO q0 q1 x.f1).bind fun c3 => some ⟨x.f0, x.f1, Go.bits .xor .i64 c3 old, x.f3, x.f4, x.f5, x.f6⟩
set_option maxHeartbeats 1600000 in
set_option maxRecDepth 100000 in
theorem spec_l05Write.calls (k g gx : Nat) (q0 q1 : Int) (x : S73) (old : Int) (r : S73) (w : World) (hq : w.heap[g]? = some (boxQ q0 q1)) (hx : w.heap[gx]? = some (boxX x)) (h : spec_l05Write.f k q0 q1 x old = some r) :
    Calls Try.prog 43 #[.pointer (some ⟨g, 0, none⟩), .pointer (some ⟨gx, 0, none⟩), .int .i64 old] w fun e w' => e = .returned (.tuple #[]) ∧ w'.heap[gx]? = some (boxX r) ∧ KB gx w w' := by
  have hne : g ≠ gx := by intro e; subst e; rw [hq] at hx; simp [boxQ, boxX] at hx
  unfold spec_l05Write.f at h
  by_cases c0 : wrap64 (2 * q0) = 0
  · rw [if_pos c0] at h; cases h
  rw [if_neg c0] at h
  have c0b : (wrap64 (2 * q0) == 0) = false := beq_eq_false_iff_ne.mpr c0
  replace h := Option.bind_eq_some_iff.1 h
  obtain ⟨b, hb, h⟩ := h
  have HQ := Aside0.mk hq
  have HX := Aside0.mk hx
  have HB := Aside0.mk hb
  obtain ⟨z0, z1⟩ := q_cells hq
  obtain ⟨x0, x1, x2, x3, x4, x5, x6⟩ := x_cells hx
  have hne' : gx ≠ g := fun e => hne e.symm
  have HN := Aside0.mk hne
  clear hq hx hb
  by_cases c1 : Int.tmod (wrap64 (wrap64 (x.f0 - b) + wrap64 (2 * q0))) (wrap64 (2 * q0)) < q0
  · rw [if_pos c1] at h
    have c1b := decide_eq_true c1
    replace h := Option.bind_eq_some_iff.1 h
    obtain ⟨e1, h1, h⟩ := h
    have H1 := Aside0.mk h1
    replace h := Option.bind_eq_some_iff.1 h
    obtain ⟨e2, h2, h⟩ := h
    have H2 := Aside0.mk h2
    replace h := Option.bind_eq_some_iff.1 h
    obtain ⟨e3, h3, h⟩ := h
    have H3 := Aside0.mk h3
    have HR := Aside0.mk (Option.some.inj h)
    clear h1 h2 h3 h c1
    go_enter Try.func43, Try.ntmps43
    go_wp2_with (first
      | (go_at_call 51; (with_reducible refine (count_q k g q0 q1 x.f2 b _ HQ.out HB.out).mono ?_); rintro e w1 ⟨rfl, hB⟩; have B1 := Aside0.mk (KB.below (KB.refl gx w) hB); have Q1 := Aside0.mk (blk_below HQ.out hB); have X1 := Aside0.mk (blk_below HX.out hB); obtain ⟨z0, z1⟩ := q_cells Q1.out; obtain ⟨x0, x1, x2, x3, x4, x5, x6⟩ := x_cells X1.out; clear hB))
    go_quiet (fail)
    go_wp2_with (first
      | (go_at_call 52; (with_reducible refine (code_q g q0 q1 (x.f0) e1 _ ?hq H1.out).mono ?_); (case hq => exact Q1.out); rintro e w2 ⟨rfl, hB⟩; have B2 := Aside0.mk (KB.below (KB.drewN B1.out nq) hB); have Q2 := Aside0.mk (blk_below (blk_drewN Q1.out nq) hB); have X2 := Aside0.mk (blk_below (blk_drewN X1.out nq) hB); obtain ⟨z0, z1⟩ := q_cells Q2.out; obtain ⟨x0, x1, x2, x3, x4, x5, x6⟩ := x_cells X2.out; (try dsimp only at x0 x1 x2 x3 x4 x5 x6); have y0 := blk_frozen X2.out 0; have y4 := blk_frozen X2.out 4; clear hB)
      | (go_at_call 52; (with_reducible refine (code_q g q0 q1 (Int.tmod (wrap64 (x.f0 + 1)) (wrap64 (2 * q0))) e2 _ ?hq H2.out).mono ?_); (case hq => exact blk_far (blk_far Q2.out HN.out _) HN.out _); rintro e w3 ⟨rfl, hB⟩; have B3 := Aside0.mk (KB.below (KB.set (KB.set B2.out 0 _) 4 _) hB); have Q3 := Aside0.mk (blk_below (o := boxQ q0 q1) (blk_far (blk_far Q2.out HN.out _) HN.out _) hB); have X3 := Aside0.mk (blk_below (o := boxX ⟨Int.tmod (wrap64 (x.f0 + 1)) (wrap64 (2 * q0)), x.f1, x.f2, x.f3, wrap64 (x.f4 + 1), x.f5, x.f6⟩) (blk_put (blk_put X2.out 0 _ rfl) 4 _ rfl) hB); obtain ⟨z0, z1⟩ := q_cells Q3.out; obtain ⟨x0, x1, x2, x3, x4, x5, x6⟩ := x_cells X3.out; (try dsimp only at x0 x1 x2 x3 x4 x5 x6); have y5 := blk_frozen X3.out 5; clear hB)
      | (go_at_call 52; (with_reducible refine (code_q g q0 q1 (x.f1) e3 _ ?hq H3.out).mono ?_); (case hq => exact blk_far Q3.out HN.out _); rintro e w4 ⟨rfl, hB⟩; have B4 := Aside0.mk (KB.below (KB.set B3.out 5 _) hB); have Q4 := Aside0.mk (blk_below (o := boxQ q0 q1) (blk_far Q3.out HN.out _) hB); have X4 := Aside0.mk (blk_below (o := boxX ⟨Int.tmod (wrap64 (x.f0 + 1)) (wrap64 (2 * q0)), x.f1, x.f2, x.f3, wrap64 (x.f4 + 1), Go.bits .xor .i64 e1 e2, x.f6⟩) (blk_put X3.out 5 _ rfl) hB); obtain ⟨z0, z1⟩ := q_cells Q4.out; obtain ⟨x0, x1, x2, x3, x4, x5, x6⟩ := x_cells X4.out; (try dsimp only at x0 x1 x2 x3 x4 x5 x6); have y2 := blk_frozen X4.out 2; clear hB))
    go_end0
    exact ⟨rfl, by rw [← HR.out]; exact blk_put X4.out 2 _ rfl, KB.set B4.out 2 _⟩
  · rw [if_neg c1] at h
    have c1b := decide_eq_false c1
    replace h := Option.bind_eq_some_iff.1 h
    obtain ⟨e3, h3, h⟩ := h
    have H3 := Aside0.mk h3
    have HR := Aside0.mk (Option.some.inj h)
    clear h3 h c1
    go_enter Try.func43, Try.ntmps43
    go_wp2_with (first
      | (go_at_call 51; (with_reducible refine (count_q k g q0 q1 x.f2 b _ HQ.out HB.out).mono ?_); rintro e w1 ⟨rfl, hB⟩; have B1 := Aside0.mk (KB.below (KB.refl gx w) hB); have Q1 := Aside0.mk (blk_below HQ.out hB); have X1 := Aside0.mk (blk_below HX.out hB); obtain ⟨z0, z1⟩ := q_cells Q1.out; obtain ⟨x0, x1, x2, x3, x4, x5, x6⟩ := x_cells X1.out; clear hB))
    go_quiet (fail)
    go_wp2_with (first
      | (go_at_call 52; (with_reducible refine (code_q g q0 q1 (x.f1) e3 _ ?hq H3.out).mono ?_); (case hq => exact Q1.out); rintro e w4 ⟨rfl, hB⟩; have B4 := Aside0.mk (KB.below (KB.drewN B1.out nq) hB); have Q4 := Aside0.mk (blk_below (blk_drewN Q1.out nq) hB); have X4 := Aside0.mk (blk_below (blk_drewN X1.out nq) hB); obtain ⟨z0, z1⟩ := q_cells Q4.out; obtain ⟨x0, x1, x2, x3, x4, x5, x6⟩ := x_cells X4.out; (try dsimp only at x0 x1 x2 x3 x4 x5 x6); have y2 := blk_frozen X4.out 2; clear hB))
    go_end0
    exact ⟨rfl, by rw [← HR.out]; exact blk_put X4.out 2 _ rfl, KB.set B4.out 2 _⟩
/-- A step of the reader. -/
def spec_l05Read.f (k : Nat) (q0 q1 : Int) (x : S73) (old : Int) : Option S73 :=
  if wrap64 (2 * q0) = 0 then none else
  (countO k q0 q1 x.f3).bind fun b =>
  if 1 ≤ Int.tmod (wrap64 (wrap64 (b - x.f1) + wrap64 (2 * q0))) (wrap64 (2 * q0)) ∧ Int.tmod (wrap64 (wrap64 (b - x.f1) + wrap64 (2 * q0))) (wrap64 (2 * q0)) ≤ q0 then
    (codeO q0 q1 x.f1).bind fun c1 => (codeO q0 q1 (Int.tmod (wrap64 (x.f1 + 1)) (wrap64 (2 * q0)))).bind fun c2 => (codeO q0 q1 x.f0).bind fun c3 =>
      some ⟨x.f0, Int.tmod (wrap64 (x.f1 + 1)) (wrap64 (2 * q0)), x.f2, Go.bits .xor .i64 c3 old, wrap64 (x.f4 - 1), x.f5, Go.bits .xor .i64 c1 c2⟩
  else (codeO q0 q1 x.f0).bind fun c3 => some ⟨x.f0, x.f1, x.f2, Go.bits .xor .i64 c3 old, x.f4, x.f5, x.f6⟩
set_option maxHeartbeats 1600000 in
set_option maxRecDepth 100000 in
theorem spec_l05Read.calls (k g gx : Nat) (q0 q1 : Int) (x : S73) (old : Int) (r : S73) (w : World) (hq : w.heap[g]? = some (boxQ q0 q1)) (hx : w.heap[gx]? = some (boxX x)) (h : spec_l05Read.f k q0 q1 x old = some r) :
    Calls Try.prog 44 #[.pointer (some ⟨g, 0, none⟩), .pointer (some ⟨gx, 0, none⟩), .int .i64 old] w fun e w' => e = .returned (.tuple #[]) ∧ w'.heap[gx]? = some (boxX r) ∧ KB gx w w' := by
  have hne : g ≠ gx := by intro e; subst e; rw [hq] at hx; simp [boxQ, boxX] at hx
  unfold spec_l05Read.f at h
  by_cases c0 : wrap64 (2 * q0) = 0
  · rw [if_pos c0] at h; cases h
  rw [if_neg c0] at h
  have c0b : (wrap64 (2 * q0) == 0) = false := beq_eq_false_iff_ne.mpr c0
  replace h := Option.bind_eq_some_iff.1 h
  obtain ⟨b, hb, h⟩ := h
  have HQ := Aside0.mk hq
  have HX := Aside0.mk hx
  have HB := Aside0.mk hb
  obtain ⟨z0, z1⟩ := q_cells hq
  obtain ⟨x0, x1, x2, x3, x4, x5, x6⟩ := x_cells hx
  have hne' : gx ≠ g := fun e => hne e.symm
  have HN := Aside0.mk hne
  clear hq hx hb
  by_cases c1 : 1 ≤ Int.tmod (wrap64 (wrap64 (b - x.f1) + wrap64 (2 * q0))) (wrap64 (2 * q0)) ∧ Int.tmod (wrap64 (wrap64 (b - x.f1) + wrap64 (2 * q0))) (wrap64 (2 * q0)) ≤ q0
  · rw [if_pos c1] at h
    have HI := Aside0.mk (show spec_l00In.f (Int.tmod (wrap64 (wrap64 (b - x.f1) + wrap64 (2 * q0))) (wrap64 (2 * q0))) 1 q0 = some true by unfold spec_l00In.f; rw [if_pos c1.1, decide_eq_true c1.2])
    replace h := Option.bind_eq_some_iff.1 h
    obtain ⟨e1, h1, h⟩ := h
    have H1 := Aside0.mk h1
    replace h := Option.bind_eq_some_iff.1 h
    obtain ⟨e2, h2, h⟩ := h
    have H2 := Aside0.mk h2
    replace h := Option.bind_eq_some_iff.1 h
    obtain ⟨e3, h3, h⟩ := h
    have H3 := Aside0.mk h3
    have HR := Aside0.mk (Option.some.inj h)
    clear h1 h2 h3 h c1
    go_enter Try.func44, Try.ntmps44
    go_wp2_with (first
      | (go_at_call 51; (with_reducible refine (count_q k g q0 q1 x.f3 b _ HQ.out HB.out).mono ?_); rintro e w1 ⟨rfl, hB⟩; have B1 := Aside0.mk (KB.below (KB.refl gx w) hB); have Q1 := Aside0.mk (blk_below HQ.out hB); have X1 := Aside0.mk (blk_below HX.out hB); obtain ⟨z0, z1⟩ := q_cells Q1.out; obtain ⟨x0, x1, x2, x3, x4, x5, x6⟩ := x_cells X1.out; clear hB))
    go_quiet (first
      | ((go_at_call 42; exact Calls.quiet_of ((spec_l00In.calls (Int.tmod (wrap64 (wrap64 (b - x.f1) + wrap64 (2 * q0))) (wrap64 (2 * q0))) 1 q0 true _ HI.out).mono fun e W hh => ⟨hh.1, drawn_quiet hh.2⟩))))
    go_wp2_with (first
      | (go_at_call 52; (with_reducible refine (code_q g q0 q1 (x.f1) e1 _ ?hq H1.out).mono ?_); (case hq => exact Q1.out); rintro e w2 ⟨rfl, hB⟩; have B2 := Aside0.mk (KB.below (KB.drewN B1.out nq) hB); have Q2 := Aside0.mk (blk_below (blk_drewN Q1.out nq) hB); have X2 := Aside0.mk (blk_below (blk_drewN X1.out nq) hB); obtain ⟨z0, z1⟩ := q_cells Q2.out; obtain ⟨x0, x1, x2, x3, x4, x5, x6⟩ := x_cells X2.out; (try dsimp only at x0 x1 x2 x3 x4 x5 x6); have y1 := blk_frozen X2.out 1; have y4 := blk_frozen X2.out 4; clear hB)
      | (go_at_call 52; (with_reducible refine (code_q g q0 q1 (Int.tmod (wrap64 (x.f1 + 1)) (wrap64 (2 * q0))) e2 _ ?hq H2.out).mono ?_); (case hq => exact blk_far (blk_far Q2.out HN.out _) HN.out _); rintro e w3 ⟨rfl, hB⟩; have B3 := Aside0.mk (KB.below (KB.set (KB.set B2.out 1 _) 4 _) hB); have Q3 := Aside0.mk (blk_below (o := boxQ q0 q1) (blk_far (blk_far Q2.out HN.out _) HN.out _) hB); have X3 := Aside0.mk (blk_below (o := boxX ⟨x.f0, Int.tmod (wrap64 (x.f1 + 1)) (wrap64 (2 * q0)), x.f2, x.f3, wrap64 (x.f4 - 1), x.f5, x.f6⟩) (blk_put (blk_put X2.out 1 _ rfl) 4 _ rfl) hB); obtain ⟨z0, z1⟩ := q_cells Q3.out; obtain ⟨x0, x1, x2, x3, x4, x5, x6⟩ := x_cells X3.out; (try dsimp only at x0 x1 x2 x3 x4 x5 x6); have y6 := blk_frozen X3.out 6; clear hB)
      | (go_at_call 52; (with_reducible refine (code_q g q0 q1 (x.f0) e3 _ ?hq H3.out).mono ?_); (case hq => exact blk_far Q3.out HN.out _); rintro e w4 ⟨rfl, hB⟩; have B4 := Aside0.mk (KB.below (KB.set B3.out 6 _) hB); have Q4 := Aside0.mk (blk_below (o := boxQ q0 q1) (blk_far Q3.out HN.out _) hB); have X4 := Aside0.mk (blk_below (o := boxX ⟨x.f0, Int.tmod (wrap64 (x.f1 + 1)) (wrap64 (2 * q0)), x.f2, x.f3, wrap64 (x.f4 - 1), x.f5, Go.bits .xor .i64 e1 e2⟩) (blk_put X3.out 6 _ rfl) hB); obtain ⟨z0, z1⟩ := q_cells Q4.out; obtain ⟨x0, x1, x2, x3, x4, x5, x6⟩ := x_cells X4.out; (try dsimp only at x0 x1 x2 x3 x4 x5 x6); have y3 := blk_frozen X4.out 3; clear hB))
    go_end0
    exact ⟨rfl, by rw [← HR.out]; exact blk_put X4.out 3 _ rfl, KB.set B4.out 3 _⟩
  · rw [if_neg c1] at h
    have HI := Aside0.mk (show spec_l00In.f (Int.tmod (wrap64 (wrap64 (b - x.f1) + wrap64 (2 * q0))) (wrap64 (2 * q0))) 1 q0 = some false by unfold spec_l00In.f; split; (rw [decide_eq_false (fun z => c1 ⟨by assumption, z⟩)]); rfl)
    replace h := Option.bind_eq_some_iff.1 h
    obtain ⟨e3, h3, h⟩ := h
    have H3 := Aside0.mk h3
    have HR := Aside0.mk (Option.some.inj h)
    clear h3 h c1
    go_enter Try.func44, Try.ntmps44
    go_wp2_with (first
      | (go_at_call 51; (with_reducible refine (count_q k g q0 q1 x.f3 b _ HQ.out HB.out).mono ?_); rintro e w1 ⟨rfl, hB⟩; have B1 := Aside0.mk (KB.below (KB.refl gx w) hB); have Q1 := Aside0.mk (blk_below HQ.out hB); have X1 := Aside0.mk (blk_below HX.out hB); obtain ⟨z0, z1⟩ := q_cells Q1.out; obtain ⟨x0, x1, x2, x3, x4, x5, x6⟩ := x_cells X1.out; clear hB))
    go_quiet (first
      | ((go_at_call 42; exact Calls.quiet_of ((spec_l00In.calls (Int.tmod (wrap64 (wrap64 (b - x.f1) + wrap64 (2 * q0))) (wrap64 (2 * q0))) 1 q0 false _ HI.out).mono fun e W hh => ⟨hh.1, drawn_quiet hh.2⟩))))
    go_wp2_with (first
      | (go_at_call 52; (with_reducible refine (code_q g q0 q1 (x.f0) e3 _ ?hq H3.out).mono ?_); (case hq => exact Q1.out); rintro e w4 ⟨rfl, hB⟩; have B4 := Aside0.mk (KB.below (KB.drewN B1.out nq) hB); have Q4 := Aside0.mk (blk_below (blk_drewN Q1.out nq) hB); have X4 := Aside0.mk (blk_below (blk_drewN X1.out nq) hB); obtain ⟨z0, z1⟩ := q_cells Q4.out; obtain ⟨x0, x1, x2, x3, x4, x5, x6⟩ := x_cells X4.out; (try dsimp only at x0 x1 x2 x3 x4 x5 x6); have y3 := blk_frozen X4.out 3; clear hB))
    go_end0
    exact ⟨rfl, by rw [← HR.out]; exact blk_put X4.out 3 _ rfl, KB.set B4.out 3 _⟩
end Go.Proofs.Ytgmnbpdfdagniaa.A
/- The set of numbers in a table (the reference): what put does. No conditions. -/
namespace Go.Proofs.Ytgmnbpdfdagniaa.A
open Go.RowKit Go.Proofs.YtgmnbpdfdagniaaW.PrintWords Go.Proofs.YtgmnbpdfdagniaaW.PrintLast Go.Proofs.YtgmnbpdfdagniaaW.PrintMore
set_option linter.unusedVariables false
set_option linter.unusedSimpArgs false
theorem infoInt : (Try.prog.info? 2).map (fun i => (i.zero, i.size, i.bytes)) = some (some (.int .i64 0), 1, 8) := by kernel_rfl
/-- From a place on, the first one that is free or has the number. -/
def probe : Nat → List Int → Int → Int → Option Int
  | 0, _, _, _ => none
  | k + 1, tb, key, at_ => if 0 ≤ at_ ∧ at_ < tb.length then (if 0 < rd tb at_ ∧ ¬ rd tb at_ = wrap64 (key + 1) then probe k tb key (Int.tmod (wrap64 (at_ + 1)) tb.length) else some at_) else none
def putAll (rec : List Int → Int → Int → Option (Bool × List Int × Int)) : List Int → List Int → Int → Option (List Int × Int)
  | [], tb, c => some (tb, c)
  | x :: xs, tb, c => if 0 < x then (rec tb c (wrap64 (x - 1))).bind fun r => putAll rec xs r.2.1 r.2.2 else putAll rec xs tb c
def putEnd (k : Nat) (tb : List Int) (c key : Int) : Option (Bool × List Int × Int) :=
  if (tb.length : Int) = 0 then none else
  (probe k tb key (Int.tmod key tb.length)).bind fun p =>
  if 0 ≤ p ∧ p < tb.length then (if 0 < rd tb p then some (false, tb, c) else some (true, tb.set p.toNat (wrap64 (key + 1)), wrap64 (c + 1))) else none
/-- A number is put into a table. -/
def putF : Nat → List Int → Int → Int → Option (Bool × List Int × Int)
  | 0, _, _, _ => none
  | k + 1, tb, c, key =>
    if 4398046511104 ≤ tb.length then none else
    if (tb.length : Int) ≤ wrap64 (2 * c) then (putAll (putF k) tb (List.replicate (2 * tb.length + 64) 0) 0).bind fun t => putEnd k t.1 t.2 key
    else putEnd k tb c key
def boxS (v : Value) (c : Int) : Obj := .cells #[v, .int .i64 c] 63 (0, 0)
theorem s_cells {w : World} {g : Nat} {v : Value} {c : Int} (h : w.heap[g]? = some (boxS v c)) : w.cell? ⟨g, 0, none⟩ = some v ∧ w.cell? ⟨g, 1, none⟩ = some (.int .i64 c) := ⟨(blk_cell h 0).trans rfl, (blk_cell h 1).trans rfl⟩
abbrev RI (w : World) (B : Nat) (v : Value) (tb : List Int) : Prop := (Kd.int .i64).R 2 w B (fun _ => True) v tb
/-- A table of which something else has changed. -/
theorem RI.keep {w w' : World} {B : Nat} {v : Value} {tb : List Int} {S : Nat → Prop} (h : RI w B v tb) (k : KS S w w') (hS : ∀ i, v.ownBlock = some i → ¬ S i) : RI w' B v tb :=
  Kd.R_mono (Kd.R_step (Kd.R_tight rfl h) (fun i hi hlt => k.block i hlt (hS i hi.symm))) (fun _ _ => trivial)
theorem RI.box_ne {w : World} {B gs : Nat} {v u : Value} {c : Int} {tb : List Int} (h : RI w B v tb) (hb : w.heap[gs]? = some (boxS u c)) : ∀ i, v.ownBlock = some i → i ≠ gs := by
  intro i hi e
  subst e
  exact Kd.R_ne h hb (by decide) hi.symm
theorem RI.lower {w : World} {B B' : Nat} {v : Value} {tb : List Int} (h : RI w B v tb) (hb : B' ≤ B) : RI w B' v tb := Kd.R_lower h hb
theorem KS.widen {S S' : Nat → Prop} {w w' : World} (h : KS S w w') (hs : ∀ i, S i → S' i) : KS S' w w' := ⟨h.os, h.tape, h.output, h.size, fun i hi hn => h.block i hi (fun z => hn (hs i z))⟩
theorem putEnd_len {k : Nat} {tb : List Int} {c key : Int} {r : Bool} {tb' : List Int} {c' : Int} (h : putEnd k tb c key = some (r, tb', c')) : tb'.length = tb.length := by
  unfold putEnd at h
  split at h
  · cases h
  · obtain ⟨p, _, h⟩ := Option.bind_eq_some_iff.1 h
    split at h
    · split at h
      · cases h; rfl
      · cases h; simp
    · cases h
theorem putAll_len {rec : List Int → Int → Int → Option (Bool × List Int × Int)} (hrec : ∀ tb c key r tb' c', rec tb c key = some (r, tb', c') → tb'.length ≤ 8796093022272) : ∀ (xs tb : List Int) (c : Int) {t : List Int} {c' : Int}, putAll rec xs tb c = some (t, c') → tb.length ≤ 8796093022272 → t.length ≤ 8796093022272
  | [], tb, c, t, c', h, hl => by simp only [putAll] at h; cases h; exact hl
  | x :: xs, tb, c, t, c', h, hl => by
    simp only [putAll] at h
    split at h
    · obtain ⟨⟨r, t1, c1⟩, h1, h⟩ := Option.bind_eq_some_iff.1 h
      exact putAll_len hrec xs t1 c1 h (hrec _ _ _ _ _ _ h1)
    · exact putAll_len hrec xs tb c h hl
theorem putF_len : ∀ (k : Nat) {tb : List Int} {c key : Int} {r : Bool} {tb' : List Int} {c' : Int}, putF k tb c key = some (r, tb', c') → tb'.length ≤ 8796093022272
  | 0, tb, c, key, r, tb', c', h => by simp [putF] at h
  | k + 1, tb, c, key, r, tb', c', h => by
    simp only [putF] at h
    split at h
    · cases h
    · split at h
      · obtain ⟨⟨t1, c1⟩, h1, h⟩ := Option.bind_eq_some_iff.1 h
        rw [putEnd_len h]
        exact putAll_len (fun _ _ _ _ _ _ h => putF_len k h) tb _ _ h1 (by rw [List.length_replicate]; omega)
      · rw [putEnd_len h]; omega
/-- What put leaves. -/
def PutPost (w : World) (gs B : Nat) (v : Value) (r : Bool) (tb : List Int) (c : Int) (e : Ending) (w' : World) : Prop :=
  e = .returned (.bool r) ∧ ∃ v', w'.heap[gs]? = some (boxS v' c) ∧ RI w' B v' tb ∧ KS (fun i => i = gs ∨ v.ownBlock = some i) w w'
set_option maxHeartbeats 6400000 in
set_option maxRecDepth 100000 in
theorem putF.calls : ∀ (k gs : Nat) (tb : List Int) (c key : Int) (r : Bool) (tb' : List Int) (c' : Int) (w : World) (B : Nat) (v : Value), B ≤ w.heap.size → w.heap[gs]? = some (boxS v c) → RI w B v tb → putF k tb c key = some (r, tb', c') →
    Calls Try.prog 38 #[.pointer (some ⟨gs, 0, none⟩), .int .i64 key] w (PutPost w gs B v r tb' c') := by
  intro k
  induction k with
  | zero => intro gs tb c key r tb' c' w B v _ _ _ h; simp [putF] at h
  | succ k ih =>
    intro gs tb c key r tb' c' w B v hB hb hR h
    simp only [putF] at h
    by_cases c0 : 4398046511104 ≤ tb.length
    · rw [if_pos c0] at h; cases h
    rw [if_neg c0] at h
    by_cases c1 : (tb.length : Int) ≤ wrap64 (2 * c)
    · rw [if_pos c1] at h
      have c1b := decide_eq_true c1
      replace h := Option.bind_eq_some_iff.1 h
      obtain ⟨⟨tb1, cc1⟩, ht, h⟩ := h
      dsimp only at h
      obtain ⟨A, cp0, rfl, hcp, hC⟩ := Kd.R_reads hR
      obtain ⟨z0, z1⟩ := s_cells hb
      have hs0 := blk_frozen hb 0
      have hs1 := blk_frozen hb 1
      have HBX := Aside0.mk hb
      have HR := Aside0.mk hR
      have HT := Aside0.mk ht
      have HT0 := Aside0.mk (putAll_len (fun _ _ _ _ _ _ h => putF_len k h) tb _ _ ht (by rw [List.length_replicate]; omega))
      have H0 := Aside0.mk h
      have c0' : tb.length < 4398046511104 := by omega
      have HOLD := Aside0.mk (fun i hi => (⟨Kd.R_lt hR i hi, RI.box_ne hR hb i hi⟩ : i < w.heap.size ∧ i ≠ gs))
      clear hb hR ht h c1 hcp hC
      obtain ⟨N, hN⟩ : ∃ N : Nat, 2 * tb.length + 64 = N := ⟨_, rfl⟩
      have HNT := Aside0.mk (show (2 * (tb.length : Int) + 64).toNat = N by omega)
      have hN0 : 0 < N := by omega
      go_enter Try.func38, Try.ntmps38
      go_wp2
      go_quiet (fail)
      go_wp2_with (first
        | ((with_reducible refine gate_dst (N := 28) rfl ?_); refine Kd.R_make (Kd.int .i64) _ 2 rfl (N := 28) rfl 61 _ _ rfl _ rfl rfl Try.underlying61 (.int .i64 0) 8 infoInt rfl (by decide) (by omega) 0 (ok := fun _ => True) (okp := fun _ => True) rfl (fun _ hk => hk) trivial ?h0 ?hl (Below.refl _ _) (Nat.le_refl _) ?_; (case h0 => omega); (case hl => rw [HNT.out, ← hN]; omega); intro v1 w1 hR1 hb1 hg1 hnew1; clear hg1 hnew1; rw [HNT.out] at hR1; obtain ⟨g1, cp1, e1, -, -, -⟩ := Kd.R_form hR1 (by rw [List.length_replicate]; exact hN0); rw [List.length_replicate] at e1; subst e1; have HR1 := Aside0.mk (show RI w1 w.heap.size _ (List.replicate N 0) from hR1); have BX1 := Aside0.mk (blk_below (blk_drewN HBX.out nq) hb1); have KS1 := Aside0.mk (KS.below (KS.drewN (KS.refl (fun i => i = gs) w) nq) hb1); have OLD1 := Aside0.mk (show RI w1 B (.slice A tb.length cp0) tb from Kd.R_below (Kd.R_drewN HR.out nq) hb1); have y0 := blk_frozen BX1.out 0; have y1 := blk_frozen BX1.out 1; obtain ⟨z0, z1⟩ := s_cells BX1.out; clear hb1 hR1))
      go_loopw [6] (fun v6 wr => ∃ (i : Nat) (t2 : List Int) (c2 : Int) (v2 : Value), i ≤ tb.length ∧ v6 = .int .i64 (i : Int) ∧ Aside0 (putAll (putF k) (tb.drop i) t2 c2 = some (tb1, cc1)) ∧ Aside0 (wr.heap[gs]? = some (boxS v2 c2)) ∧ Aside0 (RI wr w.heap.size v2 t2) ∧ Aside0 (RI wr B (.slice A tb.length cp0) tb) ∧ Aside0 (KS (fun i => i = gs) w wr)) (fun v6 _ => tb.length - (intOf v6).toNat)
      case atStart =>
        have hne : ∀ i, (Value.slice (some ⟨g1, 0, none⟩) N cp1).ownBlock = some i → i ≠ gs := RI.box_ne HR1.out BX1.out
        refine ⟨0, _, 0, _, Nat.zero_le _, rfl, ⟨by rw [hN] at HT; exact HT.out⟩, ⟨blk_put (blk_put BX1.out 0 _ rfl) 1 _ rfl⟩, ⟨RI.keep HR1.out (KS.set (KS.set (KS.refl (fun i => i = gs) _) gs 0 _ (fun _ => rfl)) gs 1 _ (fun _ => rfl)) hne⟩, ⟨RI.keep OLD1.out (KS.set (KS.set (KS.refl (fun i => i = gs) _) gs 0 _ (fun _ => rfl)) gs 1 _ (fun _ => rfl)) (fun i hi => (HOLD.out i hi).2)⟩, ⟨KS.set (KS.set KS1.out gs 0 _ (fun _ => rfl)) gs 1 _ (fun _ => rfl)⟩⟩
      case round =>
        obtain ⟨i, t2, c2, v2, hi, rfl, HT, HBX2, HR2, HOR, HK⟩ := hrel
        by_cases hlt : i < tb.length
        · have hcd : decide ((i : Int) < (tb.length : Int)) = true := decide_eq_true (by omega)
          obtain ⟨-, -, hC⟩ := Kd.R_reads' HOR.out
          obtain ⟨ad, rfl, hx0⟩ := Kd.at_int hC (i : Int) (by omega) (by omega)
          obtain ⟨x, hx⟩ : ∃ x, rd tb (i : Int) = x := ⟨_, rfl⟩
          rw [Int.toNat_natCast, hx] at hx0
          have hd : tb.drop i = x :: tb.drop (i + 1) := by
            rw [List.drop_eq_getElem_cons hlt, ← hx]; simp [rd, hlt]
          have hT := HT.out
          rw [hd] at hT
          simp only [putAll] at hT
          have i0 : (0 : Int) ≤ (i : Int) := by omega
          have i1 : (i : Int) < (tb.length : Int) := by omega
          by_cases d0 : 0 < x
          · rw [if_pos d0] at hT
            have d0b := decide_eq_true d0
            replace hT := Option.bind_eq_some_iff.1 hT
            obtain ⟨⟨r1, t3, c3⟩, hr1, hT⟩ := hT
            have HP1 := Aside0.mk hr1
            have HT := Aside0.mk hT
            clear hT hr1 d0 hC hx hd
            go_wp2_with (first
              | (go_at_call 38; (with_reducible refine (ih gs t2 c2 (wrap64 (x - 1)) r1 t3 c3 _ w.heap.size v2 ?hB ?hb ?hR HP1.out).mono ?_); (case hB => exact HK.out.size); (case hb => exact HBX2.out); (case hR => exact HR2.out); rintro e w3 ⟨rfl, v3, hb3, hR3, hK3⟩; have BX3 := Aside0.mk hb3; have R3 := Aside0.mk hR3; have K3 := Aside0.mk hK3; clear hb3 hR3 hK3))
            refine ⟨⟨i + 1, t3, c3, v3, by omega, by go_num, HT, BX3, R3, ?_, ?_⟩, by simp [intOf]; omega⟩
            · exact ⟨RI.keep HOR.out K3.out (fun q hq z => by
                have h1 := HOLD.out q hq
                rcases z with z | z
                · exact h1.2 z
                · have := Kd.R_base HR2.out q z; omega)⟩
            · exact ⟨KS.then HK.out K3.out (fun q hq z => z.elim id (fun z => by have := Kd.R_base HR2.out q z; omega))⟩
          · rw [if_neg d0] at hT
            have d0b := decide_eq_false d0
            have HT := Aside0.mk hT
            clear hT d0 hC hx hd
            go_wp2
            exact ⟨⟨i + 1, t2, c2, v2, by omega, by go_num, HT, HBX2, HR2, HOR, HK⟩, by simp [intOf]; omega⟩
        · have hcd : decide ((i : Int) < (tb.length : Int)) = false := decide_eq_false (by omega)
          obtain rfl : i = tb.length := by omega
          have hT := HT.out
          rw [List.drop_length] at hT
          simp only [putAll] at hT
          injection hT with hT
          injection hT with e1 e2
          subst e1
          subst e2
          have h := H0.out
          unfold putEnd at h
          by_cases d2 : (t2.length : Int) = 0
          · rw [if_pos d2] at h; cases h
          rw [if_neg d2] at h
          have d2b : ((t2.length : Int) == 0) = false := beq_eq_false_iff_ne.2 d2
          replace h := Option.bind_eq_some_iff.1 h
          obtain ⟨p, hp, h⟩ := h
          obtain ⟨g1', cp', e1, -, -, -⟩ := Kd.R_form HR2.out (show 0 < t2.length by omega)
          subst e1
          have HP := Aside0.mk hp
          have H := Aside0.mk h
          have hnew := Kd.R_base HR2.out g1' rfl
          have hlen2 := HT0.out
          obtain ⟨z0, z1⟩ := s_cells HBX2.out
          clear hp h
          go_wp2
          go_loopg [7] k (fun kq v7 wr => ∃ at_ : Int, v7 = .int .i64 at_ ∧ Aside0 (probe kq t2 key at_ = some p) ∧ Aside0 (kq ≤ k) ∧ Aside0 (wr.heap[gs]? = some (boxS (.slice (some ⟨g1', 0, none⟩) t2.length cp') c2)) ∧ Aside0 (RI wr B (.slice (some ⟨g1', 0, none⟩) t2.length cp') t2) ∧ Aside0 (KS (fun i => i = gs ∨ (Value.slice A tb.length cp0).ownBlock = some i) w wr))
          case atStart => exact ⟨_, rfl, HP, ⟨Nat.le_refl _⟩, ⟨HBX2.out⟩, ⟨RI.lower HR2.out hB⟩, ⟨KS.widen HK.out (fun i h => .inl h)⟩⟩
          case round =>
            obtain ⟨at_, rfl, HA, HK1, HBX, HR, HK⟩ := hrel
            cases gk with
            | zero => exact absurd HA.out (by simp [probe])
            | succ k1 =>
              have hA := HA.out
              clear HA
              simp only [probe] at hA
              by_cases d0 : 0 ≤ at_ ∧ at_ < t2.length
              · rw [if_pos d0] at hA
                obtain ⟨i0, i1⟩ := d0
                obtain ⟨z0, z1⟩ := s_cells HBX.out
                obtain ⟨y0, y1⟩ := Kd.R_celln 0 HR.out at_ i0 i1
                change wr.cell? _ = some (.int .i64 (rd t2 at_)) at y0
                by_cases d1 : 0 < rd t2 at_
                · have d1b := decide_eq_true d1
                  by_cases d2 : rd t2 at_ = wrap64 (key + 1)
                  · rw [if_neg (fun z => z.2 d2)] at hA
                    obtain rfl := Option.some.inj hA
                    have d2b : (rd t2 at_ != wrap64 (key + 1)) = false := by rw [d2]; simp
                    have h := H.out
                    rw [if_pos ⟨i0, i1⟩, if_pos d1] at h
                    cases h
                    clear hA d2 d1
                    go_wp2
                    go_ret
                    exact ⟨rfl, _, HBX.out, HR.out, HK.out⟩
                  · rw [if_pos ⟨d1, d2⟩] at hA
                    have d2b : (rd t2 at_ != wrap64 (key + 1)) = true := by simpa using d2
                    rw [show Int.tmod (wrap64 (at_ + 1)) (t2.length : Int) = (at_ + 1) % (t2.length : Int) by rw [show wrap64 (at_ + 1) = at_ + 1 by unfold wrap64; omega, Int.tmod_eq_emod_of_nonneg (by omega)]] at hA
                    have HA := Aside0.mk hA
                    clear hA d2 d1
                    go_wp2
                    go_roundg k1
                    case measure => have := HK1.out; omega
                    case rel => exact ⟨_, rfl, HA, ⟨by have := HK1.out; omega⟩, HBX, HR, HK⟩
                · rw [if_neg (fun z => d1 z.1)] at hA
                  obtain rfl := Option.some.inj hA
                  have d1b := decide_eq_false d1
                  have h := H.out
                  rw [if_pos ⟨i0, i1⟩, if_neg d1] at h
                  cases h
                  have s1 := blk_frozen HBX.out 1
                  clear hA d1
                  have hne := RI.box_ne HR.out HBX.out g1' rfl
                  have hne' := Ne.symm hne
                  go_wp2
                  go_ret
                  refine ⟨rfl, _, blk_put (blk_far HBX.out (Ne.symm hne) _) 1 _ rfl, ?_, ?_⟩
                  · exact RI.keep (Kd.R_putn HR.out at_ (wrap64 (key + 1))) (KS.set (KS.refl (fun i => i = gs) _) gs 1 _ (fun _ => rfl)) (fun i hi e => hne (by rw [← e]; exact (Option.some.inj hi)))
                  · exact KS.set (KS.set HK.out g1' _ _ (fun hlt => by omega)) gs 1 _ (fun _ => .inl rfl)
              · rw [if_neg d0] at hA; cases hA
    · rw [if_neg c1] at h
      have c1b := decide_eq_false c1
      unfold putEnd at h
      by_cases c2 : (tb.length : Int) = 0
      · rw [if_pos c2] at h; cases h
      rw [if_neg c2] at h
      have c2b : ((tb.length : Int) == 0) = false := beq_eq_false_iff_ne.2 c2
      replace h := Option.bind_eq_some_iff.1 h
      obtain ⟨p, hp, h⟩ := h
      obtain ⟨g1, cp, rfl, -, -, -⟩ := Kd.R_form hR (show 0 < tb.length by omega)
      obtain ⟨z0, z1⟩ := s_cells hb
      have HBX := Aside0.mk hb
      have HR := Aside0.mk hR
      have HP := Aside0.mk hp
      have H := Aside0.mk h
      clear hb hR hp h c1
      go_enter Try.func38, Try.ntmps38
      go_wp2
      go_quiet (fail)
      go_wp2
      have K0 := Aside0.mk (KS.refl (fun i => i = gs ∨ (Value.slice (some ⟨g1, 0, none⟩) tb.length cp).ownBlock = some i) w)
      go_loopg [7] k (fun kq v7 wr => ∃ at_ : Int, v7 = .int .i64 at_ ∧ Aside0 (probe kq tb key at_ = some p) ∧ Aside0 (kq ≤ k) ∧ Aside0 (wr.heap[gs]? = some (boxS (.slice (some ⟨g1, 0, none⟩) tb.length cp) c)) ∧ Aside0 (RI wr B (.slice (some ⟨g1, 0, none⟩) tb.length cp) tb) ∧ Aside0 (KS (fun i => i = gs ∨ (Value.slice (some ⟨g1, 0, none⟩) tb.length cp).ownBlock = some i) w wr))
      case atStart => exact ⟨_, rfl, HP, ⟨Nat.le_refl _⟩, ⟨HBX.out⟩, ⟨Kd.R_drewN HR.out _⟩, ⟨KS.drewN K0.out _⟩⟩
      case round =>
        obtain ⟨at_, rfl, HA, HK1, HBX, HR, HK⟩ := hrel
        cases gk with
        | zero => exact absurd HA.out (by simp [probe])
        | succ k1 =>
          have hA := HA.out
          clear HA
          simp only [probe] at hA
          by_cases d0 : 0 ≤ at_ ∧ at_ < tb.length
          · rw [if_pos d0] at hA
            obtain ⟨i0, i1⟩ := d0
            obtain ⟨z0, z1⟩ := s_cells HBX.out
            obtain ⟨y0, y1⟩ := Kd.R_celln 0 HR.out at_ i0 i1
            change wr.cell? _ = some (.int .i64 (rd tb at_)) at y0
            by_cases d1 : 0 < rd tb at_
            · have d1b := decide_eq_true d1
              by_cases d2 : rd tb at_ = wrap64 (key + 1)
              · rw [if_neg (fun z => z.2 d2)] at hA
                obtain rfl := Option.some.inj hA
                have d2b : (rd tb at_ != wrap64 (key + 1)) = false := by rw [d2]; simp
                have h := H.out
                rw [if_pos ⟨i0, i1⟩, if_pos d1] at h
                cases h
                clear hA d2 d1
                go_wp2
                go_ret
                exact ⟨rfl, _, HBX.out, HR.out, HK.out⟩
              · rw [if_pos ⟨d1, d2⟩] at hA
                have d2b : (rd tb at_ != wrap64 (key + 1)) = true := by simpa using d2
                rw [show Int.tmod (wrap64 (at_ + 1)) (tb.length : Int) = (at_ + 1) % (tb.length : Int) by rw [show wrap64 (at_ + 1) = at_ + 1 by unfold wrap64; omega, Int.tmod_eq_emod_of_nonneg (by omega)]] at hA
                have HA := Aside0.mk hA
                clear hA d2 d1
                go_wp2
                go_roundg k1
                case measure => have := HK1.out; omega
                case rel => exact ⟨_, rfl, HA, ⟨by have := HK1.out; omega⟩, HBX, HR, HK⟩
            · rw [if_neg (fun z => d1 z.1)] at hA
              obtain rfl := Option.some.inj hA
              have d1b := decide_eq_false d1
              have h := H.out
              rw [if_pos ⟨i0, i1⟩, if_neg d1] at h
              cases h
              have s1 := blk_frozen HBX.out 1
              clear hA d1
              have hne := RI.box_ne HR.out HBX.out g1 rfl
              have hne' := Ne.symm hne
              go_wp2
              go_ret
              refine ⟨rfl, _, blk_put (blk_far HBX.out (Ne.symm hne) _) 1 _ rfl, ?_, ?_⟩
              · exact RI.keep (Kd.R_putn HR.out at_ (wrap64 (key + 1))) (KS.set (KS.refl (fun i => i = gs) _) gs 1 _ (fun _ => rfl)) (fun i hi e => hne (by rw [← e]; exact (Option.some.inj hi)))
              · exact KS.set (KS.set HK.out g1 _ _ (fun hlt => .inr rfl)) gs 1 _ (fun _ => .inl rfl)
          · rw [if_neg d0] at hA; cases hA
end Go.Proofs.Ytgmnbpdfdagniaa.A
/- All states behind a step of the program's queue. No conditions. -/
namespace Go.Proofs.Ytgmnbpdfdagniaa.A
open Go.RowKit Go.Proofs.YtgmnbpdfdagniaaW.PrintWords Go.Proofs.YtgmnbpdfdagniaaW.PrintLast Go.Proofs.YtgmnbpdfdagniaaW.PrintMore
set_option linter.unusedVariables false
set_option linter.unusedSimpArgs false
/-- A state whose own copy has some bits turned. -/
def ownOf (y : S80) (letter old : Int) : S80 := if letter = 115 then ⟨y.f0, y.f1, Go.bits .xor .i64 y.f2 old, y.f3, y.f4, y.f5, y.f6⟩ else ⟨y.f0, y.f1, y.f2, Go.bits .xor .i64 y.f3 old, y.f4, y.f5, y.f6⟩
def afterL (q0 moved letter : Int) (y : S80) : Nat → Int → List S80 → Option (List S80)
  | 0, _, _ => none
  | n + 1, old, out =>
    if old < wrap64 (2 * q0) then
      if Go.bits .andNot .i64 old moved = 0 then (if out.length < 1099511627776 then afterL q0 moved letter y n (wrap64 (old + 1)) (out ++ [ownOf y letter old]) else none)
      else afterL q0 moved letter y n (wrap64 (old + 1)) out
    else some out
def afterF (k : Nat) (q0 q1 : Int) (x : S80) (letter : Int) : Option (List S80) := (stepF k q0 q1 x letter).bind fun y => if letter = 114 then afterL q0 y.f4 letter y k 0 [] else if letter = 115 then afterL q0 y.f5 letter y k 0 [] else none
set_option maxHeartbeats 6400000 in
set_option maxRecDepth 100000 in
theorem afterF.calls (k : Nat) (q0 q1 : Int) (x : S80) (letter : Int) (r : List S80) (w : World) (h : afterF k q0 q1 x letter = some r) :
    Calls Try.prog 47 #[.agg #[.int .i64 x.f0, .int .i64 x.f1, .int .i64 x.f2, .int .i64 x.f3, .int .i64 x.f4, .int .i64 x.f5, .int .i64 x.f6], .agg #[.int .i64 q0, .int .i64 q1], .int .u8 letter] w fun e w' => ∃ v : Value, e = .returned v ∧ k80.R 80 w' w.heap.size (fun _ => True) v r ∧ Below w.heap.size w w' := by
  have hu26 := Try.underlying26
  have hu80 := Try.underlying80
  replace h := Option.bind_eq_some_iff.1 h
  obtain ⟨y, hy, h⟩ := h
  have HY := Aside0.mk hy
  have HX := Aside0.mk (blk_alloc (blk_new w (boxY x)) (boxQ q0 q1))
  have HQ := Aside0.mk (blk_new (w.alloc (boxY x)) (boxQ q0 q1))
  rw [World.size_alloc] at HQ
  have HB := Aside0.mk (below_alloc (below_alloc (Below.refl w.heap.size w) (boxY x)) (boxQ q0 q1))
  obtain ⟨z0, z1⟩ := qq_cells HQ.out
  by_cases cr : letter = 114
  · rw [if_pos cr] at h
    subst cr
    have H := Aside0.mk h
    clear hy h
    go_enter Try.func47, Try.ntmps47
    go_wp2_with (first
      | (go_at_call 53; (with_reducible refine (stepF.calls k w.heap.size q0 q1 x 114 y _ ?hx HY.out).mono ?_); (case hx => exact HX.out); rintro e w2 ⟨rfl, hx2, hk2⟩; have X2 := Aside0.mk hx2; have Q2 := Aside0.mk (hk2.keep HQ.out (by omega)); have B2 := Aside0.mk (hk2.low HB.out (Nat.le_refl _)); clear hx2 hk2; obtain ⟨z0, z1⟩ := qq_cells Q2.out; obtain ⟨x0, x1, x2, x3, x4, x5, x6⟩ := y_cells X2.out)
      | ((with_reducible refine gate_dst (N := 20) rfl ?_); refine Kd.R_lit k80 w.heap.size 80 ?hg (N := 20) ?hd (w0 := w) (xs := []) (inner := []) (ok := fun k_ => k_ ≠ w.heap.size) (okp := fun _ => False) ?hr ?hp (fun _ hk => hk.elim) (by have := blk_lt X2.out; omega) B2.out B2.out.size (by simp) ?_; (case hd => rfl); (case hg => rfl); (case hr => first | (go_simp; done) | (go_simp; rfl)); (case hp => exact Reps.none _ _); intro v1 w3 ho hb hg_ hnew_; have B3 := Aside0.mk hb; have O3 := Aside0.mk ho; have X3 := Aside0.mk (blk_grown X2.out hg_ (by simp)); have Q3 := Aside0.mk (blk_grown Q2.out hg_ (by simp)); clear ho hb hg_ hnew_; obtain ⟨z0, z1⟩ := qq_cells Q3.out))
    go_loopg [8, 24] k (fun kq v8 v24 wr => ∃ (old : Int) (out : List S80), v24 = .int .i64 old ∧ Aside0 (afterL q0 y.f4 114 y kq old out = some r) ∧ Aside0 (kq ≤ k) ∧ Aside0 (k80.R 80 wr w.heap.size (fun k_ => k_ ≠ w.heap.size) v8 out) ∧ Aside0 (wr.heap[w.heap.size]? = some (boxY y)) ∧ Aside0 (Below w.heap.size w wr))
    case atStart => exact ⟨0, [], rfl, H, ⟨Nat.le_refl _⟩, O3, X3, B3⟩
    case round =>
      obtain ⟨old, out, rfl, HA, HK1, HO, HX, HB⟩ := hrel
      cases gk with
      | zero => exact absurd HA.out (by simp [afterL])
      | succ k1 =>
        have hA := HA.out
        clear HA
        simp only [afterL] at hA
        by_cases d0 : old < wrap64 (2 * q0)
        · rw [if_pos d0] at hA
          have d0b := decide_eq_true d0
          by_cases d1 : Go.bits .andNot .i64 old y.f4 = 0
          · rw [if_pos d1] at hA
            have d1b : (Go.bits .andNot .i64 old y.f4 != 0) = false := bne_eq_false_iff_eq.2 d1
            by_cases d2 : out.length < 1099511627776
            · rw [if_pos d2] at hA
              have HD2 := Aside0.mk d2
              have HA := Aside0.mk hA
              obtain ⟨x0, x1, x2, x3, x4, x5, x6⟩ := y_cells HX.out
              clear hA d0 d1 d2
              go_wp2_with (first
                | ((with_reducible refine gate_builtin (b := .append) (xs := #[.tmp 44, .tmp 46]) rfl ?_); at_builtin; refine Kd.R_append k80 (w0 := w) w.heap.size rfl (.tmp 44) (.tmp 46) 82 80 (.agg #[.int .i64 0, .int .i64 0, .int .i64 0, .int .i64 0, .int .i64 0, .int .i64 0, .int .i64 0]) 56 rfl Try.underlying82 info80 rfl (by decide) (by omega) u8 out (⟨y.f0, y.f1, y.f2, Go.bits .xor .i64 y.f3 old, y.f4, y.f5, y.f6⟩ : S80) [.int .i64 (y.f0), .int .i64 (y.f1), .int .i64 (y.f2), .int .i64 (Go.bits .xor .i64 y.f3 old), .int .i64 (y.f4), .int .i64 (y.f5), .int .i64 (y.f6)] (fun k_ => k_ ≠ w.heap.size) (fun _ => False) rfl ?aX ?aP (fun _ hk => hk.elim) ?aF ?aO ?aB ?aS ?aL ?_; (case aX => rw [World.size_alloc]; rfl); (case aP => exact k80_mkM _ _ _ (⟨y.f0, y.f1, y.f2, Go.bits .xor .i64 y.f3 old, y.f4, y.f5, y.f6⟩ : S80)); (case aF => exact (fun k_ hk => by have h1_ := blk_lt HX.out; have h2_ : wr.heap.size + 1 ≤ k_ := (by rw [World.size_alloc] at hk; exact hk); omega)); (case aO => exact Kd.R_alloc HO.out _); (case aB => exact below_alloc HB.out _); (case aS => exact (below_alloc HB.out _).size); (case aL => have := HD2.out; omega); intro v10 w10 ho hb hg hat; have O4 := Aside0.mk ho; have X10 := Aside0.mk (blk_grown (blk_alloc HX.out _) hg (fun e => HO.out.1 _ e.symm rfl)); have B10 := Aside0.mk hb; clear ho hb hg hat))
              go_roundg k1
              case measure => omega
              case rel => exact ⟨_, _, rfl, HA, ⟨by have := HK1.out; omega⟩, O4, X10, B10⟩
            · rw [if_neg d2] at hA; cases hA
          · rw [if_neg d1] at hA
            have d1b : (Go.bits .andNot .i64 old y.f4 != 0) = true := bne_iff_ne.2 d1
            have HA := Aside0.mk hA
            clear hA d0 d1
            go_wp2
            go_roundg k1
            case measure => omega
            case rel => exact ⟨_, _, rfl, HA, ⟨by have := HK1.out; omega⟩, HO, HX, HB⟩
        · rw [if_neg d0] at hA
          have d0b := decide_eq_false d0
          obtain rfl := Option.some.inj hA
          clear hA d0
          go_wp2
          go_ret
          exact ⟨_, rfl, Kd.R_mono HO.out (fun _ _ => trivial), HB.out⟩
  · rw [if_neg cr] at h
    by_cases cs : letter = 115
    · rw [if_pos cs] at h
      subst cs
      have H := Aside0.mk h
      clear hy h cr
      go_enter Try.func47, Try.ntmps47
      go_wp2_with (first
        | (go_at_call 53; (with_reducible refine (stepF.calls k w.heap.size q0 q1 x 115 y _ ?hx HY.out).mono ?_); (case hx => exact HX.out); rintro e w2 ⟨rfl, hx2, hk2⟩; have X2 := Aside0.mk hx2; have Q2 := Aside0.mk (hk2.keep HQ.out (by omega)); have B2 := Aside0.mk (hk2.low HB.out (Nat.le_refl _)); clear hx2 hk2; obtain ⟨z0, z1⟩ := qq_cells Q2.out; obtain ⟨x0, x1, x2, x3, x4, x5, x6⟩ := y_cells X2.out)
        | ((with_reducible refine gate_dst (N := 20) rfl ?_); refine Kd.R_lit k80 w.heap.size 80 ?hg (N := 20) ?hd (w0 := w) (xs := []) (inner := []) (ok := fun k_ => k_ ≠ w.heap.size) (okp := fun _ => False) ?hr ?hp (fun _ hk => hk.elim) (by have := blk_lt X2.out; omega) B2.out B2.out.size (by simp) ?_; (case hd => rfl); (case hg => rfl); (case hr => first | (go_simp; done) | (go_simp; rfl)); (case hp => exact Reps.none _ _); intro v1 w3 ho hb hg_ hnew_; have B3 := Aside0.mk hb; have O3 := Aside0.mk ho; have X3 := Aside0.mk (blk_grown X2.out hg_ (by simp)); have Q3 := Aside0.mk (blk_grown Q2.out hg_ (by simp)); clear ho hb hg_ hnew_; obtain ⟨z0, z1⟩ := qq_cells Q3.out))
      go_loopg [8, 24] k (fun kq v8 v24 wr => ∃ (old : Int) (out : List S80), v24 = .int .i64 old ∧ Aside0 (afterL q0 y.f5 115 y kq old out = some r) ∧ Aside0 (kq ≤ k) ∧ Aside0 (k80.R 80 wr w.heap.size (fun k_ => k_ ≠ w.heap.size) v8 out) ∧ Aside0 (wr.heap[w.heap.size]? = some (boxY y)) ∧ Aside0 (Below w.heap.size w wr))
      case atStart => exact ⟨0, [], rfl, H, ⟨Nat.le_refl _⟩, O3, X3, B3⟩
      case round =>
        obtain ⟨old, out, rfl, HA, HK1, HO, HX, HB⟩ := hrel
        cases gk with
        | zero => exact absurd HA.out (by simp [afterL])
        | succ k1 =>
          have hA := HA.out
          clear HA
          simp only [afterL] at hA
          by_cases d0 : old < wrap64 (2 * q0)
          · rw [if_pos d0] at hA
            have d0b := decide_eq_true d0
            by_cases d1 : Go.bits .andNot .i64 old y.f5 = 0
            · rw [if_pos d1] at hA
              have d1b : (Go.bits .andNot .i64 old y.f5 != 0) = false := bne_eq_false_iff_eq.2 d1
              by_cases d2 : out.length < 1099511627776
              · rw [if_pos d2] at hA
                have HD2 := Aside0.mk d2
                have HA := Aside0.mk hA
                obtain ⟨x0, x1, x2, x3, x4, x5, x6⟩ := y_cells HX.out
                clear hA d0 d1 d2
                go_wp2_with (first
                  | ((with_reducible refine gate_builtin (b := .append) (xs := #[.tmp 44, .tmp 46]) rfl ?_); at_builtin; refine Kd.R_append k80 (w0 := w) w.heap.size rfl (.tmp 44) (.tmp 46) 82 80 (.agg #[.int .i64 0, .int .i64 0, .int .i64 0, .int .i64 0, .int .i64 0, .int .i64 0, .int .i64 0]) 56 rfl Try.underlying82 info80 rfl (by decide) (by omega) u8 out (⟨y.f0, y.f1, Go.bits .xor .i64 y.f2 old, y.f3, y.f4, y.f5, y.f6⟩ : S80) [.int .i64 (y.f0), .int .i64 (y.f1), .int .i64 (Go.bits .xor .i64 y.f2 old), .int .i64 (y.f3), .int .i64 (y.f4), .int .i64 (y.f5), .int .i64 (y.f6)] (fun k_ => k_ ≠ w.heap.size) (fun _ => False) rfl ?aX ?aP (fun _ hk => hk.elim) ?aF ?aO ?aB ?aS ?aL ?_; (case aX => rw [World.size_alloc]; rfl); (case aP => exact k80_mkM _ _ _ (⟨y.f0, y.f1, Go.bits .xor .i64 y.f2 old, y.f3, y.f4, y.f5, y.f6⟩ : S80)); (case aF => exact (fun k_ hk => by have h1_ := blk_lt HX.out; have h2_ : wr.heap.size + 1 ≤ k_ := (by rw [World.size_alloc] at hk; exact hk); omega)); (case aO => exact Kd.R_alloc HO.out _); (case aB => exact below_alloc HB.out _); (case aS => exact (below_alloc HB.out _).size); (case aL => have := HD2.out; omega); intro v10 w10 ho hb hg hat; have O4 := Aside0.mk ho; have X10 := Aside0.mk (blk_grown (blk_alloc HX.out _) hg (fun e => HO.out.1 _ e.symm rfl)); have B10 := Aside0.mk hb; clear ho hb hg hat))
                go_roundg k1
                case measure => omega
                case rel => exact ⟨_, _, rfl, HA, ⟨by have := HK1.out; omega⟩, O4, X10, B10⟩
              · rw [if_neg d2] at hA; cases hA
            · rw [if_neg d1] at hA
              have d1b : (Go.bits .andNot .i64 old y.f5 != 0) = true := bne_iff_ne.2 d1
              have HA := Aside0.mk hA
              clear hA d0 d1
              go_wp2
              go_roundg k1
              case measure => omega
              case rel => exact ⟨_, _, rfl, HA, ⟨by have := HK1.out; omega⟩, HO, HX, HB⟩
          · rw [if_neg d0] at hA
            have d0b := decide_eq_false d0
            obtain rfl := Option.some.inj hA
            clear hA d0
            go_wp2
            go_ret
            exact ⟨_, rfl, Kd.R_mono HO.out (fun _ _ => trivial), HB.out⟩
    · rw [if_neg cs] at h; cases h
end Go.Proofs.Ytgmnbpdfdagniaa.A
/- A map whose keys are the states of the program's queue. No conditions. -/
namespace Go.Proofs.Ytgmnbpdfdagniaa.A
open Go.RowKit Go.Proofs.YtgmnbpdfdagniaaW.PrintWords Go.Proofs.YtgmnbpdfdagniaaW.PrintLast Go.Proofs.YtgmnbpdfdagniaaW.PrintMore
set_option linter.unusedVariables false
set_option linter.unusedSimpArgs false
def valY (x : S80) : Value := .agg #[.int .i64 x.f0, .int .i64 x.f1, .int .i64 x.f2, .int .i64 x.f3, .int .i64 x.f4, .int .i64 x.f5, .int .i64 x.f6]
def sameY (a b : S80) : Bool := (a.f0 == b.f0) && ((a.f1 == b.f1) && ((a.f2 == b.f2) && ((a.f3 == b.f3) && ((a.f4 == b.f4) && ((a.f5 == b.f5) && (a.f6 == b.f6))))))
theorem eqI (d : Nat) (a b : Int) (w : World) : (Op.equalIn (d + 1) 2 (.int .i64 a) (.int .i64 b)).run Try.prog w = .ok (a == b) w := by
  simp [Op.equalIn, run_underlying Try.underlying2]
theorem equalY (a b : S80) (w : World) : (Op.equal 80 (valY a) (valY b)).run Try.prog w = .ok (sameY a b) w := by
  show (Op.equalIn (9999 + 1) 80 (valY a) (valY b)).run Try.prog w = _
  refine eqA_of Try.underlying80 (by kernel_rfl) ?_
  refine eqf_cons rfl (a := .int .i64 a.f0) (b := .int .i64 b.f0) (by kernel_rfl) (by kernel_rfl) (eqI 9998 _ _ w) ?_
  refine eqf_cons rfl (a := .int .i64 a.f1) (b := .int .i64 b.f1) (by kernel_rfl) (by kernel_rfl) (eqI 9998 _ _ w) ?_
  refine eqf_cons rfl (a := .int .i64 a.f2) (b := .int .i64 b.f2) (by kernel_rfl) (by kernel_rfl) (eqI 9998 _ _ w) ?_
  refine eqf_cons rfl (a := .int .i64 a.f3) (b := .int .i64 b.f3) (by kernel_rfl) (by kernel_rfl) (eqI 9998 _ _ w) ?_
  refine eqf_cons rfl (a := .int .i64 a.f4) (b := .int .i64 b.f4) (by kernel_rfl) (by kernel_rfl) (eqI 9998 _ _ w) ?_
  refine eqf_cons rfl (a := .int .i64 a.f5) (b := .int .i64 b.f5) (by kernel_rfl) (by kernel_rfl) (eqI 9998 _ _ w) ?_
  exact eqf_last rfl (a := .int .i64 a.f6) (b := .int .i64 b.f6) (by kernel_rfl) (by kernel_rfl) (eqI 9998 _ _ w)
theorem checkY (em : Bool) (a : S80) (w : World) : (Instr.checkKey em 10000 80 (valY a)).run Try.prog w = .ok () w := by
  kernel_rfl
/-- The entries of a map that has been told these states. -/
def Entries (es : List MapEntry) (ks : List S80) : Prop := es.map (fun e => (e.key, e.val)) = ks.map (fun x => (valY x, Value.bool true))
theorem findAskY (y : S80) (w : World) : ∀ (es : List MapEntry) (ks : List S80) (i : Nat), Entries es ks → ∃ r, (Instr.findAsking 80 (valY y) es i).run Try.prog w = .ok r w ∧ r.isSome = ks.any (sameY y) ∧ ∀ p, r = some p → p.2 = .bool true
  | [], [], i, h => ⟨none, rfl, rfl, fun p e => by cases e⟩
  | [], k :: ks, i, h => by simp [Entries] at h
  | e :: es, [], i, h => by simp [Entries] at h
  | e :: es, k :: ks, i, h => by
    unfold Entries at h
    simp only [List.map_cons, List.cons.injEq, Prod.mk.injEq] at h
    obtain ⟨⟨h1, h2⟩, h3⟩ := h
    have hq := equalY y k w
    rw [← h1] at hq
    cases hs : sameY y k with
    | true =>
      rw [hs] at hq
      refine ⟨some (i, e.val), ?_, by simp [hs], fun p ep => by cases ep; exact h2⟩
      simp [Instr.findAsking, hq]
    | false =>
      rw [hs] at hq
      obtain ⟨r, hr, hi, hp⟩ := findAskY y w es ks (i + 1) h3
      refine ⟨r, ?_, by simp [hs, hi], hp⟩
      simp [Instr.findAsking, hq, hr]
theorem findKeyY (y : S80) (w : World) (es : List MapEntry) (ks : List S80) (h : Entries es ks) : ∃ r, (Instr.findKey 80 (valY y) es).run Try.prog w = .ok r w ∧ r.isSome = ks.any (sameY y) ∧ ∀ p, r = some p → p.2 = .bool true := by
  cases es with
  | nil =>
    cases ks with
    | nil => exact ⟨none, by simp [Instr.findKey, Instr.findNow, run_underlying Try.underlying80], rfl, fun p e => by cases e⟩
    | cons k ks => simp [Entries] at h
  | cons e es =>
    obtain ⟨r, hr, hi, hp⟩ := findAskY y w (e :: es) ks 0 h
    refine ⟨r, ?_, hi, hp⟩
    simp [Instr.findKey, Instr.findNow, Instr.sameNow, run_underlying Try.underlying80, hr]
/-- A map in memory that has been told these states. -/
def MapY (w : World) (bm : Nat) (ks : List S80) : Prop := ∃ es clock, w.heap[bm]? = some (.map es clock) ∧ Entries es.toList ks
theorem MapY.look {w : World} {bm : Nat} {ks : List S80} (h : MapY w bm ks) (y : S80) : (Instr.lookup 81 (.map (some bm)) (valY y) false).run Try.prog w = .ok (.bool (ks.any (sameY y))) w := by
  obtain ⟨es, clock, hb, he⟩ := h
  obtain ⟨r, hr, hi, hp⟩ := findKeyY y w es.toList ks he
  cases r with
  | none =>
    rw [← hi]
    have hz : (zeroValue 4).run Try.prog w = .ok (.bool false) w := by kernel_rfl
    simp [Instr.lookup, run_underlying Try.underlying81, Go.MapKept.run_getObj_map hb, checkY, hr, hz]
  | some p =>
    have := hp p rfl
    obtain ⟨p1, p2⟩ := p
    subst this
    rw [← hi]
    simp [Instr.lookup, run_underlying Try.underlying81, Go.MapKept.run_getObj_map hb, checkY, hr]
theorem MapY.upd {w : World} {bm : Nat} {ks : List S80} (h : MapY w bm ks) (y : S80) (hn : ks.any (sameY y) = false) : ∃ w', (Instr.mapUpdate 81 (.map (some bm)) (valY y) (.bool true)).run Try.prog w = .ok () w' ∧ MapY w' bm (ks ++ [y]) ∧ KS (fun i => i = bm) w w' ∧ w'.heap.size = w.heap.size := by
  obtain ⟨es, clock, hb, he⟩ := h
  obtain ⟨r, hr, hi, hp⟩ := findKeyY y w es.toList ks he
  rw [hn] at hi
  have : r = none := by cases r <;> simp_all
  subst this
  refine ⟨Go.ChangeMaps.setBlock w bm (.map (es.push { key := valY y, val := .bool true, born := clock }) (clock + 1)), ?_, ⟨_, _, Go.ChangeMaps.heap_setBlock_same hb _, ?_⟩, ⟨rfl, rfl, rfl, by simp [Go.ChangeMaps.setBlock], fun i hi' hne => Go.ChangeMaps.heap_setBlock_other hb _ hne⟩, by simp [Go.ChangeMaps.setBlock]⟩
  · simp [Instr.mapUpdate, run_underlying Try.underlying81, Go.MapKept.run_getObj_map hb, checkY, hr, Go.MapKept.run_setObj_map _ hb]; rfl
  · unfold Entries at he ⊢
    rw [Array.toList_push, List.map_append, he, List.map_append]
    rfl
end Go.Proofs.Ytgmnbpdfdagniaa.A
/- A queue of groups: a slice that is cut at its head and appended to. No conditions. -/
namespace Go.Proofs.Ytgmnbpdfdagniaa.A
open Go.RowKit Go.Proofs.YtgmnbpdfdagniaaW.PrintWords Go.Proofs.YtgmnbpdfdagniaaW.PrintLast Go.Proofs.YtgmnbpdfdagniaaW.PrintMore
set_option linter.unusedVariables false
set_option linter.unusedSimpArgs false
/-- A slice of elements of two cells (type e), anywhere in a block of the call's own. -/
def OpenIs (e : Nat) (w : World) (B : Nat) (v : Value) (cs : List Value) (n : Nat) : Prop :=
  ∃ b off cap cur, v = .slice (some ⟨b, off, none⟩) n cap ∧ B ≤ b ∧ w.heap[b]? = some (.cells cur e (0, 0)) ∧ n ≤ cap ∧ cap ≤ maxLen ∧ off + cap * 2 ≤ cur.size ∧ cs.length = n * 2 ∧ (cur.toList.drop off).take (n * 2) = cs
theorem OpenIs.keep {e : Nat} {w w' : World} {B : Nat} {v : Value} {cs : List Value} {n : Nat} {S : Nat → Prop} (h : OpenIs e w B v cs n) (k : KS S w w') (hS : ∀ i, v.ownBlock = some i → ¬ S i) : OpenIs e w' B v cs n := by
  obtain ⟨b, off, cap, cur, rfl, h1, h2, h3⟩ := h
  exact ⟨b, off, cap, cur, rfl, h1, k.keep h2 (hS b rfl), h3⟩
theorem OpenIs.below {e : Nat} {w w' : World} {B : Nat} {v : Value} {cs : List Value} {n : Nat} (h : OpenIs e w B v cs n) (k : Below w.heap.size w w') : OpenIs e w' B v cs n := by
  obtain ⟨b, off, cap, cur, rfl, h1, h2, h3⟩ := h
  exact ⟨b, off, cap, cur, rfl, h1, blk_below h2 k, h3⟩
theorem OpenIs.lt {e : Nat} {w : World} {B : Nat} {v : Value} {cs : List Value} {n : Nat} (h : OpenIs e w B v cs n) : ∀ k, v.ownBlock = some k → k < w.heap.size ∧ B ≤ k ∧ ∃ cur, w.heap[k]? = some (.cells cur e (0, 0)) := by
  obtain ⟨b, off, cap, cur, rfl, h1, h2, h3⟩ := h
  intro k hk
  cases hk
  exact ⟨blk_lt h2, h1, cur, h2⟩
theorem OpenIs.cell {e : Nat} {w : World} {B : Nat} {b off n cap : Nat} {cs : List Value} (h : OpenIs e w B (.slice (some ⟨b, off, none⟩) n cap) cs n) (j : Nat) (u : Value) (hu : cs[j]? = some u) : w.cell? ⟨b, off + j, none⟩ = some u := by
  obtain ⟨b, off, cap, cur, hv, h1, h2, h3, h4, h5, h6, h7⟩ := h
  injection hv with e1 e2 e3
  injection e1 with e1
  injection e1 with e4 e5
  subst e4; subst e5; subst e3
  rw [blk_cell h2]
  have hj : j < n * 2 := by rw [← h6]; exact (List.getElem?_eq_some_iff.1 hu).1
  rw [← h7, List.getElem?_take, if_pos hj, List.getElem?_drop] at hu
  simpa using hu
/-- The rest behind the head. -/
theorem OpenIs.tail {e : Nat} {w : World} {B b off n cap : Nat} {c0 c1 : Value} {cs : List Value} (h : OpenIs e w B (.slice (some ⟨b, off, none⟩) (n + 1) cap) (c0 :: c1 :: cs) (n + 1)) (A : Addr) (hA : A = ⟨b, off, none⟩ ∧ cap = 1 ∨ A = ⟨b, off + 2, none⟩) : OpenIs e w B (.slice (some A) n (cap - 1)) cs n := by
  obtain ⟨b, off, cap, cur, hv, h1, h2, h3, h4, h5, h6, h7⟩ := h
  injection hv with e1 e2 e3
  injection e1 with e1
  injection e1 with e4 e5
  subst e4; subst e5; subst e3
  have hl : cs.length = n * 2 := by simp at h6; omega
  have ht : (cur.toList.drop (off + 2)).take (n * 2) = cs := by
    have h8 := congrArg (List.drop 2) h7
    rw [List.drop_take, List.drop_drop] at h8
    rw [show (n + 1) * 2 - 2 = n * 2 by omega] at h8
    simpa using h8
  rcases hA with ⟨rfl, hc⟩ | rfl
  · subst hc
    obtain rfl : n = 0 := by omega
    have : cs = [] := by cases cs with | nil => rfl | cons => simp at hl
    subst this
    exact ⟨_, _, _, _, rfl, h1, h2, by omega, by omega, by omega, by simp, by simp⟩
  · exact ⟨_, _, _, _, rfl, h1, h2, by omega, by omega, by omega, hl, ht⟩
section
variable {P : Program} {ops : Array Oper} {rest : List Oper} {o : Oper} {a : Act} {Q : Exit → Act → World → Prop}
/-- One element of two cells is appended. -/
theorem open_append {W : World} (B : Nat) (hgd : o.guard = none) (s x : Operand) (t e : TypeId) (z : Value) (bytes : Nat)
    (ho : o.op = .call { callee := .builtin .append, args := #[s, x], argTypes := #[t, t] })
    (ht : P.underlying t = some (.slice e)) (hinfo : (P.info? e).map (fun i => (i.zero, i.size, i.bytes)) = some (some z, 2, bytes)) (hz : z.cells.size = 2) (hb0 : 0 < bytes)
    (v : Value) (cs : List Value) (n : Nat) (c0 c1 : Value) (h1c : c0.oneCell' = true ∧ c1.oneCell' = true) (hs : a.eval s = v) (hx : a.eval x = .slice (some ⟨W.heap.size, 0, none⟩) 1 1)
    (HO : OpenIs e W B v cs n) (hbase : B ≤ W.heap.size) (hl : (n + 1) * bytes ≤ 140737488355328)
    (h : ∀ v1 w1, OpenIs e w1 B v1 (cs ++ [c0, c1]) (n + 1) → KS (fun i => v.ownBlock = some i) W w1 → wpList P ops Q rest (a.put o.dst v1) w1) :
    wpList P ops Q (o :: rest) a (W.alloc (.cells #[c0, c1] e)) := by
  obtain ⟨b, off, cap, cur, rfl, hB, hh, hn, hc, hsz, hlen, htake⟩ := HO
  obtain ⟨i0, hi, hzz⟩ := Option.map_eq_some_iff.1 hinfo
  simp only [Prod.mk.injEq] at hzz
  obtain ⟨hz0, hz1, hz2⟩ := hzz
  have hlen1 : n + 1 ≤ 140737488355328 := Nat.le_trans (Nat.le_mul_of_pos_right _ hb0) hl
  have hh' := blk_alloc hh (.cells #[c0, c1] e)
  have hnw := blk_new W (.cells #[c0, c1] e)
  refine wpList_append_arg (W.alloc (.cells #[c0, c1] e)) hgd s x t ho e i0 z 2 bytes ht hi hz0 hz1 hz2 hz (by omega) b off n cap cs hs hlen ?c0 ⟨W.heap.size, 0, none⟩ 1 1 [c0, c1] hx rfl ?c1 ?c2 ?sp (by simp only [maxLen]; omega) hl ?room ?grow
  case c0 =>
    intro j u hu
    have hj : j < n * 2 := by rw [← hlen]; exact (List.getElem?_eq_some_iff.1 hu).1
    rw [blk_cell hh']
    rw [← htake, List.getElem?_take, if_pos hj, List.getElem?_drop] at hu
    simpa using hu
  case c1 =>
    intro j u hu
    rcases j with _ | _ | j
    · cases hu; exact (blk_cell hnw 0).trans rfl
    · cases hu; exact (blk_cell hnw 1).trans rfl
    · simp at hu
  case c2 =>
    intro u hu
    simp only [List.mem_cons, List.not_mem_nil, or_false] at hu
    rcases hu with rfl | rfl
    · exact h1c.1
    · exact h1c.2
  case sp =>
    intro hr j hj
    refine ⟨?_, blk_frozen hh' _⟩
    rw [blk_cell hh']
    have hj2 : j < 2 := hj
    have : off + n * 2 + j < cur.size := by omega
    simp [this]
  case room =>
    intro hr
    refine h _ _ ⟨b, off, cap, _, rfl, hB, blk_set (blk_set hh' (off + n * 2) c0) (off + n * 2 + 1) c1, hr, hc, by simpa using hsz, by simp; omega, ?_⟩ ?_
    · have hk : off + n * 2 + 1 < cur.size := by omega
      simp only [Array.toList_setIfInBounds]
      apply List.ext_getElem?
      intro j
      rw [List.getElem?_take, List.getElem?_drop]
      by_cases hj : j < n * 2
      · rw [if_pos (by omega), List.getElem?_set_ne (by omega), List.getElem?_set_ne (by omega), List.getElem?_append_left (by omega), ← htake, List.getElem?_take, if_pos hj, List.getElem?_drop]
      · by_cases hj0 : j = n * 2
        · subst hj0
          rw [if_pos (by omega), List.getElem?_set_ne (by omega), List.getElem?_set_self (by simp; omega), List.getElem?_append_right (by omega)]
          simp [hlen]
        · by_cases hj1 : j = n * 2 + 1
          · subst hj1
            rw [if_pos (by omega), show off + (n * 2 + 1) = off + n * 2 + 1 by omega, List.getElem?_set_self (by simp; omega), List.getElem?_append_right (by omega)]
            simp [hlen]
          · rw [if_neg (by omega)]
            symm
            apply List.getElem?_eq_none
            simp; omega
    · show KS _ W (((W.alloc _).setCell ⟨b, off + n * 2, none⟩ c0).setCell ⟨b, off + n * 2 + 1, none⟩ c1)
      exact KS.set (KS.set (KS.alloc (KS.refl (fun i => (Value.slice (some ⟨b, off, none⟩) n cap).ownBlock = some i) W) _) b _ _ (fun _ => rfl)) b _ _ (fun _ => rfl)
  case grow =>
    intro hr v' w' hown hg
    obtain ⟨hlo, hv⟩ := hown
    rcases hv with ⟨_, hv⟩ | ⟨g, cap', cur', rfl, hg1, hg2, hg3, hg4, hg5, hg6⟩
    · omega
    have hsz2 : W.heap.size ≤ g := by rw [World.size_alloc] at hg1; omega
    refine h _ _ ⟨g, 0, cap', cur', rfl, by omega, hg2, hg3, hg4, by omega, by simp; omega, by simpa using hg6⟩ ?_
    exact (KS.alloc (KS.refl _ W) _).below (Below.grown (Below.refl _ _) hg (Nat.le_refl _) (fun k e => by cases e))
end
end Go.Proofs.Ytgmnbpdfdagniaa.A
/- The program's search for a queue's fault. No conditions. -/
namespace Go.Proofs.Ytgmnbpdfdagniaa.A
open Go.RowKit Go.Proofs.YtgmnbpdfdagniaaW.PrintWords Go.Proofs.YtgmnbpdfdagniaaW.PrintLast Go.Proofs.YtgmnbpdfdagniaaW.PrintMore
set_option linter.unusedVariables false
set_option linter.unusedSimpArgs false
def oneB (L : Int) : ByteArray := ⟨#[UInt8.ofNat L.toNat]⟩
def qfOwn (q0 : Int) (order : ByteArray) (next : List S80 → List S80 → Option (ByteArray × Bool)) : List S80 → List S80 → List S80 → Option (ByteArray × Bool)
  | [], nst, seen => next nst seen
  | y :: rest, nst, seen =>
    if 0 ≤ y.f6 ∧ y.f6 ≤ q0 then
      if seen.any (sameY y) = true then qfOwn q0 order next rest nst seen
      else if nst.length < 1099511627776 then qfOwn q0 order next rest (nst ++ [y]) (seen ++ [y]) else none
    else some (order, true)
def qfSt (K : Nat) (q0 q1 L : Int) (order : ByteArray) (next : List S80 → List S80 → Option (ByteArray × Bool)) : List S80 → List S80 → List S80 → Option (ByteArray × Bool)
  | [], nst, seen => next nst seen
  | x :: xs, nst, seen => (afterF K q0 q1 x L).bind fun l => if l.length < 1099511627776 then qfOwn q0 order (fun nst seen => qfSt K q0 q1 L order next xs nst seen) l nst seen else none
def qfLet (K : Nat) (q0 q1 : Int) (o : ByteArray) (st : List S80) (next : List (ByteArray × List S80) → List S80 → Option (ByteArray × Bool)) : List Int → List (ByteArray × List S80) → List S80 → Option (ByteArray × Bool)
  | [], opn, seen => next opn seen
  | L :: Ls, opn, seen =>
    if (o ++ oneB L).size ≤ 9223372036854775807 ∧ opn.length < 1099511627776 ∧ st.length < 1099511627776 then
      qfSt K q0 q1 L (o ++ oneB L) (fun nst seen => if nst.length = 0 then qfLet K q0 q1 o st next Ls opn seen else qfLet K q0 q1 o st next Ls (opn ++ [(o ++ oneB L, nst)]) seen) st [] seen
    else none
def qfRow (K : Nat) (q0 q1 : Int) : Nat → List (ByteArray × List S80) → List S80 → Option (ByteArray × Bool)
  | 0, _, _ => none
  | n + 1, [], seen => some (ByteArray.empty, false)
  | n + 1, g :: gs, seen => qfLet K q0 q1 g.1 g.2 (fun opn seen => qfRow K q0 q1 n opn.tail seen) [114, 115] (g :: gs) seen
def qfF (K : Nat) (q0 q1 : Int) : Option (ByteArray × Bool) := qfRow K q0 q1 K [(ByteArray.empty, [z80])] [z80]
abbrev Grp := ByteArray × List S80 × Value
def projG (G : List Grp) : List (ByteArray × List S80) := G.map (fun g => (g.1, g.2.1))
def cellsG (G : List Grp) : List Value := G.flatMap (fun g => [.string g.1, g.2.2])
structure QI (w : World) (gq bm : Nat) (q0 q1 : Int) (G : List Grp) (seen : List S80) (wr : World) (v5 : Value) (ok : Nat → Prop) : Prop where
  opn : OpenIs 84 wr w.heap.size v5 (cellsG G) G.length
  inn : ∀ g ∈ G, k80.R 80 wr w.heap.size ok g.2.2 g.2.1
  map : MapY wr bm seen
  q : wr.heap[gq]? = some (boxQ q0 q1)
  bel : Below w.heap.size w wr
theorem MapY.keep {w w' : World} {bm : Nat} {ks : List S80} {S : Nat → Prop} (h : MapY w bm ks) (k : KS S w w') (hS : ¬ S bm) : MapY w' bm ks := by
  obtain ⟨es, clock, hb, he⟩ := h
  exact ⟨es, clock, k.keep hb hS, he⟩
theorem MapY.below {w w' : World} {bm : Nat} {ks : List S80} (h : MapY w bm ks) (k : Below w.heap.size w w') : MapY w' bm ks := by
  obtain ⟨es, clock, hb, he⟩ := h
  exact ⟨es, clock, blk_below hb k, he⟩
theorem R80.keep {wr w' : World} {B : Nat} {ok : Nat → Prop} {v : Value} {xs : List S80} {S : Nat → Prop} (h : k80.R 80 wr B ok v xs) (k : KS S wr w') (hS : ∀ i cells, wr.heap[i]? = some (.cells cells 80 (0, 0)) → ok i → ¬ S i) : k80.R 80 w' B ok v xs :=
  Kd.R_mono (Kd.R_step (Kd.R_bound h) (fun i hi hlt => k.block i hlt (by
    obtain ⟨h1, _, _, q, hq, cells, hc⟩ := hi
    have hq' : q = 80 := by simpa [k80, Kd.iso, Kd.pair, Kd.int, Kd.scalar] using hq
    subst hq'
    exact hS i cells hc h1))) (fun _ h => h.1)
theorem MapY.ne {w : World} {bm g t : Nat} {ks : List S80} {cs : Array Value} {fr : Nat × Nat} (h : MapY w bm ks) (hg : w.heap[g]? = some (.cells cs t fr)) : g ≠ bm := by
  intro e
  subst e
  obtain ⟨es, clock, hb, _⟩ := h
  rw [hb] at hg
  cases hg
theorem QI.keep {w : World} {gq bm : Nat} {q0 q1 : Int} {G : List Grp} {seen : List S80} {wr w' : World} {v5 : Value} {ok : Nat → Prop} {S : Nat → Prop} (h : QI w gq bm q0 q1 G seen wr v5 ok) (k : KS S wr w') (h5 : ∀ i cells, wr.heap[i]? = some (.cells cells 84 (0, 0)) → v5.ownBlock = some i → ¬ S i) (hok : ∀ i cells, wr.heap[i]? = some (.cells cells 80 (0, 0)) → ok i → ¬ S i) (hm : ¬ S bm) (hq : ¬ S gq) (hS : ∀ i, S i → w.heap.size ≤ i) : QI w gq bm q0 q1 G seen w' v5 ok :=
  ⟨h.opn.keep k (fun i hi => by obtain ⟨_, _, cur, hc⟩ := h.opn.lt i hi; exact h5 i cur hc hi), fun g hg => R80.keep (h.inn g hg) k hok, h.map.keep k hm, k.keep h.q hq, k.low h.bel hS⟩
theorem QI.below {w : World} {gq bm : Nat} {q0 q1 : Int} {G : List Grp} {seen : List S80} {wr w' : World} {v5 : Value} {ok : Nat → Prop} (h : QI w gq bm q0 q1 G seen wr v5 ok) (k : Below wr.heap.size wr w') : QI w gq bm q0 q1 G seen w' v5 ok :=
  ⟨h.opn.below k, fun g hg => Kd.R_below (h.inn g hg) k, h.map.below k, blk_below h.q k, below_step h.bel k⟩
theorem QI.weak {w : World} {gq bm : Nat} {q0 q1 : Int} {G : List Grp} {seen : List S80} {wr : World} {v5 : Value} {ok ok' : Nat → Prop} (h : QI w gq bm q0 q1 G seen wr v5 ok) (hk : ∀ i, i < wr.heap.size → ok i → ok' i) : QI w gq bm q0 q1 G seen wr v5 ok' :=
  ⟨h.opn, fun g hg => Kd.R_mono (Kd.R_bound (h.inn g hg)) (fun i hi => hk i hi.2.2.1 hi.1), h.map, h.q, h.bel⟩
/-- What there is in memory while a letter's states are gone through. -/
structure QN (w : World) (gq bm : Nat) (q0 q1 : Int) (G : List Grp) (seen : List S80) (wr : World) (v5 : Value) (g8 gl : Nat) (OO : ByteArray) (nst : List S80) (nv : Value) : Prop where
  qi : QI w gq bm q0 q1 G seen wr v5 (fun k => nv.ownBlock ≠ some k)
  nx : k80.R 80 wr w.heap.size (fun _ => True) nv nst
  bx : wr.heap[g8]? = some (.cells #[.string OO, nv] 84 (0, 0))
  lt : ∀ k, v5.ownBlock = some k → k ≠ g8
  ge : w.heap.size ≤ g8
  ll : wr.heap[gl]? = some (.cells #[.int .u8 114, .int .u8 115] 5 (2, 3))
theorem QN.below {w : World} {gq bm : Nat} {q0 q1 : Int} {G : List Grp} {seen : List S80} {wr w' : World} {v5 : Value} {g8 gl : Nat} {OO : ByteArray} {nst : List S80} {nv : Value} (h : QN w gq bm q0 q1 G seen wr v5 g8 gl OO nst nv) (k : Below wr.heap.size wr w') : QN w gq bm q0 q1 G seen w' v5 g8 gl OO nst nv :=
  ⟨h.qi.below k, Kd.R_below h.nx k, blk_below h.bx k, h.lt, h.ge, blk_below h.ll k⟩
theorem cells_type {w : World} {g t t' : Nat} {cs cs' : Array Value} {fr fr' : Nat × Nat} (h : w.heap[g]? = some (.cells cs t fr)) (h' : w.heap[g]? = some (.cells cs' t' fr')) : t = t' := by
  rw [h] at h'
  cases h'
  rfl
/-- A state is told to the map. -/
theorem QN.told {w : World} {gq bm : Nat} {q0 q1 : Int} {G : List Grp} {seen seen' : List S80} {wr w' : World} {v5 : Value} {g8 gl : Nat} {OO : ByteArray} {nst : List S80} {nv : Value} (h : QN w gq bm q0 q1 G seen wr v5 g8 gl OO nst nv) (k : KS (fun i => i = bm) wr w') (hm : MapY w' bm seen') (hge : w.heap.size ≤ bm) : QN w gq bm q0 q1 G seen' w' v5 g8 gl OO nst nv :=
  have hb := h.qi.map
  ⟨⟨h.qi.opn.keep k (fun i hi => by obtain ⟨_, _, cur, hc⟩ := h.qi.opn.lt i hi; exact hb.ne hc), fun g hg => R80.keep (h.qi.inn g hg) k (fun i cells hc _ => hb.ne hc), hm, k.keep h.qi.q (hb.ne h.qi.q), k.low h.qi.bel (fun i e => by omega)⟩,
   R80.keep h.nx k (fun i cells hc _ => hb.ne hc), k.keep h.bx (hb.ne h.bx), h.lt, h.ge, k.keep h.ll (hb.ne h.ll)⟩
/-- A state is appended to the next group, whose value is then stored. -/
theorem QN.more {w : World} {gq bm : Nat} {q0 q1 : Int} {G : List Grp} {seen : List S80} {wr w1 : World} {v5 : Value} {g8 gl : Nat} {OO : ByteArray} {nst nst' : List S80} {nv nv' : Value} (h : QN w gq bm q0 q1 G seen wr v5 g8 gl OO nst nv) (ho : k80.R 80 w1 w.heap.size (fun _ => True) nv' nst') (hb : Below w.heap.size w w1) (hg : wr.grownBy w1 nv.ownBlock) (hat : nv'.ownBlock = nv.ownBlock ∨ ∃ b, nv'.ownBlock = some b ∧ wr.heap.size ≤ b) : QN w gq bm q0 q1 G seen (w1.setCell ⟨g8, 1, none⟩ nv') v5 g8 gl OO nst' nv' := by
  have k : KS (fun i => nv.ownBlock = some i) wr w1 := ⟨hb.os.trans h.qi.bel.os.symm, hb.tape.trans h.qi.bel.tape.symm, hb.output.trans h.qi.bel.output.symm, hg.size, fun i hi hn => hg.block i hi (fun e => hn e.symm)⟩
  have hty : ∀ i, nv.ownBlock = some i → ∃ cells, wr.heap[i]? = some (.cells cells 80 (0, 0)) := Kd.R_typed h.nx
  have ne : ∀ g t cs fr, wr.heap[g]? = some (.cells cs t fr) → t ≠ 80 → ¬ nv.ownBlock = some g := fun g t cs fr hc ht e => by obtain ⟨c2, h2⟩ := hty g e; exact ht (cells_type hc h2)
  have hm : ¬ nv.ownBlock = some bm := fun e => by obtain ⟨c2, h2⟩ := hty bm e; exact h.qi.map.ne h2 rfl
  have q1' : QI w gq bm q0 q1 G seen w1 v5 (fun i => nv.ownBlock ≠ some i) := h.qi.keep k (fun i cells hc _ => ne i 84 cells _ hc (by decide)) (fun i cells hc hn => hn) hm (ne gq _ _ _ h.qi.q (by decide)) (fun i e => Kd.R_base h.nx i e)
  have bx1 : w1.heap[g8]? = some (.cells #[.string OO, nv] 84 (0, 0)) := k.keep h.bx (ne g8 _ _ _ h.bx (by decide))
  have ll1 := k.keep h.ll (ne gl _ _ _ h.ll (by decide))
  have q2 : QI w gq bm q0 q1 G seen w1 v5 (fun i => nv'.ownBlock ≠ some i) := by
    refine ⟨q1'.opn, fun g hg' => ?_, q1'.map, q1'.q, q1'.bel⟩
    have h1 := Kd.R_bound (h.qi.inn g hg')
    have h2 : k80.R 80 w1 w.heap.size (fun i => nv'.ownBlock ≠ some i) g.2.2 g.2.1 := by
      refine Kd.R_mono (Kd.R_step h1 (fun i hi hlt => k.block i hlt (fun e => hi.1 e))) (fun i hi e => ?_)
      rcases hat with e2 | ⟨b, e2, hb2⟩
      · rw [e2] at e; exact hi.1 e
      · rw [e2] at e; cases e; have := hi.2.2.1; omega
    exact h2
  have k2 : KS (fun i => i = g8) w1 (w1.setCell ⟨g8, 1, none⟩ nv') := KS.set (KS.refl _ w1) g8 1 _ (fun _ => rfl)
  exact ⟨q2.keep k2 (fun i cells hc hi => h.lt i hi) (fun i cells hc _ e => by subst e; exact absurd (cells_type hc bx1) (by decide)) (fun e => by subst e; exact q2.map.ne bx1 rfl) (fun e => by subst e; exact absurd (cells_type q2.q bx1) (by decide)) (fun i e => by rw [e]; exact h.ge),
    R80.keep ho k2 (fun i cells hc _ e => by subst e; exact absurd (cells_type hc bx1) (by decide)), blk_put bx1 1 nv' rfl, h.lt, h.ge, k2.keep ll1 (fun e => by subst e; exact absurd (cells_type ll1 bx1) (by decide))⟩
/-- Another row of states, while the next group gets one more. -/
theorem RA.more {w : World} {gq bm : Nat} {q0 q1 : Int} {G : List Grp} {seen : List S80} {wr w1 : World} {v5 : Value} {g8 gl : Nat} {OO : ByteArray} {nst nst' : List S80} {nv nv' va : Value} {l : List S80} (h : QN w gq bm q0 q1 G seen wr v5 g8 gl OO nst nv) (ha : k80.R 80 wr w.heap.size (fun k => nv.ownBlock ≠ some k) va l) (ho : k80.R 80 w1 w.heap.size (fun _ => True) nv' nst') (hb : Below w.heap.size w w1) (hg : wr.grownBy w1 nv.ownBlock) (hat : nv'.ownBlock = nv.ownBlock ∨ ∃ b, nv'.ownBlock = some b ∧ wr.heap.size ≤ b) : k80.R 80 (w1.setCell ⟨g8, 1, none⟩ nv') w.heap.size (fun k => nv'.ownBlock ≠ some k) va l := by
  have k : KS (fun i => nv.ownBlock = some i) wr w1 := ⟨hb.os.trans h.qi.bel.os.symm, hb.tape.trans h.qi.bel.tape.symm, hb.output.trans h.qi.bel.output.symm, hg.size, fun i hi hn => hg.block i hi (fun e => hn e.symm)⟩
  have hty : ∀ i, nv.ownBlock = some i → ∃ cells, wr.heap[i]? = some (.cells cells 80 (0, 0)) := Kd.R_typed h.nx
  have bx1 : w1.heap[g8]? = some (.cells #[.string OO, nv] 84 (0, 0)) := k.keep h.bx (fun e => by obtain ⟨c2, h2⟩ := hty g8 e; exact absurd (cells_type h.bx h2) (by decide))
  have h2 : k80.R 80 w1 w.heap.size (fun i => nv'.ownBlock ≠ some i) va l := by
    refine Kd.R_mono (Kd.R_step (Kd.R_bound ha) (fun i hi hlt => k.block i hlt (fun e => hi.1 e))) (fun i hi e => ?_)
    rcases hat with e2 | ⟨b, e2, hb2⟩
    · rw [e2] at e; exact hi.1 e
    · rw [e2] at e; cases e; have := hi.2.2.1; omega
  exact R80.keep h2 (KS.set (KS.refl (fun i => i = g8) w1) g8 1 _ (fun _ => rfl)) (fun i cells hc _ e => by subst e; exact absurd (cells_type hc bx1) (by decide))
/-- The next group goes to the end of the queue. -/
theorem QN.push {w : World} {gq bm : Nat} {q0 q1 : Int} {G : List Grp} {seen : List S80} {wr w1 : World} {v5 v1 : Value} {g8 gl : Nat} {OO : ByteArray} {nst : List S80} {nv : Value} (h : QN w gq bm q0 q1 G seen wr v5 g8 gl OO nst nv) (ho : OpenIs 84 w1 w.heap.size v1 (cellsG G ++ [.string OO, nv]) (G.length + 1)) (k : KS (fun i => v5.ownBlock = some i) wr w1) : QI w gq bm q0 q1 (G ++ [(OO, nst, nv)]) seen w1 v1 (fun _ => True) ∧ w1.heap[gl]? = some (.cells #[.int .u8 114, .int .u8 115] 5 (2, 3)) := by
  have ne : ∀ g t cs fr, wr.heap[g]? = some (.cells cs t fr) → t ≠ 84 → ¬ v5.ownBlock = some g := fun g t cs fr hc ht e => by obtain ⟨_, _, c2, h2⟩ := h.qi.opn.lt g e; exact ht (cells_type hc h2)
  refine ⟨⟨?_, ?_, h.qi.map.keep k (fun e => ?_), k.keep h.qi.q (ne gq _ _ _ h.qi.q (by decide)), k.low h.qi.bel (fun i e => (h.qi.opn.lt i e).2.1)⟩, k.keep h.ll (ne gl _ _ _ h.ll (by decide))⟩
  · have e1 : cellsG (G ++ [(OO, nst, nv)]) = cellsG G ++ [.string OO, nv] := by simp [cellsG]
    have e2 : (G ++ [(OO, nst, nv)]).length = G.length + 1 := by simp
    rw [e1, e2]
    exact ho
  · intro g hg
    rcases List.mem_append.1 hg with hg | hg
    · exact Kd.R_mono (R80.keep (h.qi.inn g hg) k (fun i cells hc _ => ne i 80 cells _ hc (by decide))) (fun _ _ => trivial)
    · simp only [List.mem_singleton] at hg
      subst hg
      exact R80.keep h.nx k (fun i cells hc _ => ne i 80 cells _ hc (by decide))
  · obtain ⟨_, _, c2, h2⟩ := h.qi.opn.lt bm e
    exact h.qi.map.ne h2 rfl
theorem info84 : (Try.prog.info? 84).map (fun i => (i.zero, i.size, i.bytes)) = some (some (.agg #[.string ByteArray.empty, .slice none 0 0]), 2, 40) := by kernel_rfl
theorem convR (W : World) : (convert 21 9 (.int .i32 114)).run Try.prog W = .ok (.string (oneB 114)) W := by kernel_rfl
theorem convS (W : World) : (convert 21 9 (.int .i32 115)).run Try.prog W = .ok (.string (oneB 115)) W := by kernel_rfl
end Go.Proofs.Ytgmnbpdfdagniaa.A
