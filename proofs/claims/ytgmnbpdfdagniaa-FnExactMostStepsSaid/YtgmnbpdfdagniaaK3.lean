/- The state behind a step of a side of a link (the reference). No conditions. -/
import Derived.Test.YtgmnbpdfdagniaaZ25
import Derived.Laws.Rows
import Derived.Laws.Tables
namespace Go.Proofs.Ytgmnbpdfdagniaa.A
open Go.RowKit Go.Proofs.YtgmnbpdfdagniaaW.PrintWords Go.Proofs.YtgmnbpdfdagniaaW.PrintLast Go.Proofs.YtgmnbpdfdagniaaW.PrintMore
set_option linter.unusedVariables false
set_option linter.unusedSimpArgs false
section
variable {P : Program} {ops : Array Oper} {rest : List Oper} {o : Oper} {a : Act} {Q : Exit → Act → World → Prop}
/-- A struct is loaded whole. -/
theorem load_row_event {W : World} (hgd : o.guard = none) (ty : TypeId) (x : Operand) (ho : o.op = .load ty x) (g : Nat) (hx : a.eval x = .pointer (some ⟨g, 0, none⟩)) (t : TypeId) (cs : Array Value) (d : TypeDesc) (hg : W.heap[g]? = some (.cells cs t (0, 0))) (hu : P.underlying ty = some d) (hd : (match d with | .struct _ | .array _ _ => true | _ => false) = true) (hi : (P.info? ty).map (·.size) = some cs.size)
    (h : wpList P ops Q rest (a.put o.dst (.agg cs)) W) : wpList P ops Q (o :: rest) a W :=
  wpList_plain hgd fun K hK => wp_load_row ty x ho g hx t cs (0, 0) d hg hu hd hi (hK _ _ h)
/-- A struct is stored whole. -/
theorem store_row_event {W : World} (hgd : o.guard = none) (hN : o.dst = none) (ty : TypeId) (x y : Operand) (ho : o.op = .store ty x y) (g : Nat) (cells : Array Value) (hx : a.eval x = .pointer (some ⟨g, 0, none⟩)) (hy : a.eval y = .agg cells) (t : TypeId) (old : Array Value) (hg : W.heap[g]? = some (.cells old t (0, 0))) (hi : (P.info? ty).map (·.size) = some cells.size) (hold : old.size = cells.size) (h1 : cells.all (·.oneCell') = true)
    (h : ∀ w1, w1.heap[g]? = some (.cells cells t (0, 0)) → KB g W w1 → wpList P ops Q rest a w1) : wpList P ops Q (o :: rest) a W :=
  wpList_plain hgd fun K hK => wp_store_row ty x y ho g cells hx hy t old hg hi hold h1 (by
    rw [hN]
    exact hK _ _ (h _ (setRow_heap W g old cells t (0, 0) hg) ⟨rfl, rfl, rfl, by simp, fun i hi hne => setRow_other W g i cells hne⟩))
end
def zK : S57 := ⟨0, 0, 0, 0, 0, 0, 0, 0, 0, 0, 0, 0⟩
def valK (x : S57) : Value := .agg #[.int .i64 x.f0, .int .i64 x.f1, .int .i64 x.f2, .int .i64 x.f3, .int .i64 x.f4, .int .i64 x.f5, .int .i64 x.f6, .int .i64 x.f7, .int .i64 x.f8, .int .i64 x.f9, .int .i64 x.f10, .int .i64 x.f11]
def turnK (side : Int) (x : S57) : S57 := if x.f10 = side then x else { x with f10 := side, f11 := 0 }
def nextF (l : Lnk) (ratio side : Int) (x : S57) : Option (S57 × Bool) :=
  if (turnK side x).f11 = ratio then some (turnK side x, false)
  else if side = 1 then (sendF l { turnK side x with f11 := wrap64 ((turnK side x).f11 + 1) }).bind fun r => some (r, true)
  else (takeF l { turnK side x with f11 := wrap64 ((turnK side x).f11 + 1) }).bind fun r => some (r.1, true)
/-- What a step stands on: the state's box, the link's, the result's. -/
structure NI (w : World) (g gx gr : Nat) (l : Lnk) (x r : S57) (W : World) : Prop where
  bel : Below w.heap.size w W
  lb : W.heap[g]? = some (boxL l)
  xb : W.heap[gx]? = some (boxK x)
  rb : W.heap[gr]? = some (boxK r)
  lo : g < w.heap.size ∧ w.heap.size ≤ gx ∧ w.heap.size ≤ gr ∧ gx ≠ gr
theorem NI.kb {w : World} {g gx gr : Nat} {l : Lnk} {x r : S57} {W : World} (h : NI w g gx gr l x r W) {W' : World} (y : S57) (hx : W'.heap[gx]? = some (boxK y)) (hk : KB gx W W') : NI w g gx gr l y r W' :=
  ⟨hk.low h.bel h.lo.2.1, hk.keep h.lb (by have := h.lo; omega), hx, hk.keep h.rb h.lo.2.2.2.symm, h.lo⟩
set_option maxHeartbeats 6400000 in
set_option maxRecDepth 100000 in
theorem nextF.calls (g : Nat) (l : Lnk) (ratio side : Int) (x r : S57) (b : Bool) (w : World) (hl : w.heap[g]? = some (boxL l)) (h : nextF l ratio side x = some (r, b)) :
    Calls Try.prog 37 #[.pointer (some ⟨g, 0, none⟩), .int .i64 ratio, valK x, .int .i64 side] w fun e w' => e = .returned (.tuple #[valK r, .bool b]) ∧ Below w.heap.size w w' := by
  have hu57 := Try.underlying57
  have HL := Aside0.mk hl
  have HU := Aside0.mk hu57
  clear hl hu57
  unfold nextF turnK at h
  by_cases t1 : x.f10 = side
  · have t1b : (x.f10 != side) = false := bne_eq_false_iff_eq.2 t1
    simp only [if_pos t1] at h
    by_cases t2 : x.f11 = ratio
    · have t2b : (x.f11 == ratio) = true := beq_iff_eq.2 t2
      rw [if_pos t2] at h
      simp only [Option.some.injEq, Prod.mk.injEq] at h
      obtain ⟨rfl, rfl⟩ := h
      clear t1 t2
      go_enter Try.func37, Try.ntmps37
      go_wp2_with (first
        | ((with_reducible refine gate_dst (N := 6) rfl ?_); refine box_event ?hg (N := 6) ?hd (cs := #[.int .i64 x.f0, .int .i64 x.f1, .int .i64 x.f2, .int .i64 x.f3, .int .i64 x.f4, .int .i64 x.f5, .int .i64 x.f6, .int .i64 x.f7, .int .i64 x.f8, .int .i64 x.f9, .int .i64 x.f10, .int .i64 x.f11]) (t := 57) ?hr ?_; (case hd => rfl); (case hg => rfl); (case hr => first | (go_simp; done) | (go_simp; rfl)); intro gx hgx W1 hbox hb; have X1 := Aside0.mk hbox; have L1 := Aside0.mk (blk_below HL.out hb); have B1 := Aside0.mk hb; have G1 := Aside0.mk hgx; clear hbox hb hgx)
        | ((with_reducible refine gate_dst (N := 8) rfl ?_); refine box_event ?hg (N := 8) ?hd (cs := #[.int .i64 0, .int .i64 0, .int .i64 0, .int .i64 0, .int .i64 0, .int .i64 0, .int .i64 0, .int .i64 0, .int .i64 0, .int .i64 0, .int .i64 0, .int .i64 0]) (t := 57) ?hr ?_; (case hd => rfl); (case hg => rfl); (case hr => first | (go_simp; done) | (go_simp; rfl)); intro gr hgr W2 hbox hb; have N2 := Aside0.mk (show NI w g gx gr l x zK W2 from ⟨below_step B1.out hb, blk_below L1.out hb, blk_below X1.out hb, hbox, ⟨blk_lt HL.out, by (have h1_ := G1.out; omega), by (have h1_ := B1.out.size; omega), by (have h1_ := blk_lt X1.out; omega)⟩⟩); have x10 : W2.cell? ⟨gx, 10, none⟩ = some (.int .i64 x.f10) := (blk_cell N2.out.xb 10).trans rfl; have x11 : W2.cell? ⟨gx, 11, none⟩ = some (.int .i64 x.f11) := (blk_cell N2.out.xb 11).trans rfl; have y10 := blk_frozen N2.out.xb 10; have y11 := blk_frozen N2.out.xb 11; clear hbox hb hgr)
        | ((with_reducible refine gate_dst (N := 21) rfl ?_); have N3 := Aside0.mk (NI.kb N2.out ⟨x.f0, x.f1, x.f2, x.f3, x.f4, x.f5, x.f6, x.f7, x.f8, x.f9, x.f10, x.f11⟩ (N2.out.xb) (KB.refl gx _)); refine load_row_event rfl 57 (.tmp 6) rfl gx rfl 57 #[.int .i64 (x.f0), .int .i64 (x.f1), .int .i64 (x.f2), .int .i64 (x.f3), .int .i64 (x.f4), .int .i64 (x.f5), .int .i64 (x.f6), .int .i64 (x.f7), .int .i64 (x.f8), .int .i64 (x.f9), .int .i64 (x.f10), .int .i64 (x.f11)] _ N3.out.xb HU.out rfl (by kernel_rfl) ?_)
        | ((with_reducible refine gate_store (t := 57) (p := 8) rfl ?_); refine store_row_event rfl rfl 57 (.tmp 8) (.tmp 21) rfl gr #[.int .i64 (x.f0), .int .i64 (x.f1), .int .i64 (x.f2), .int .i64 (x.f3), .int .i64 (x.f4), .int .i64 (x.f5), .int .i64 (x.f6), .int .i64 (x.f7), .int .i64 (x.f8), .int .i64 (x.f9), .int .i64 (x.f10), .int .i64 (x.f11)] rfl rfl 57 _ N3.out.rb (by kernel_rfl) (by first | rfl | kernel_rfl) (by first | rfl | kernel_rfl | simp [Value.oneCell']) ?_; intro W9 hr9 hk9; have R9 := Aside0.mk hr9; have B9 := Aside0.mk (hk9.low N3.out.bel N3.out.lo.2.2.1); clear hr9 hk9))
      refine bodyPost_ret (results_ct rfl _ _ gr 57 #[.int .i64 (x.f0), .int .i64 (x.f1), .int .i64 (x.f2), .int .i64 (x.f3), .int .i64 (x.f4), .int .i64 (x.f5), .int .i64 (x.f6), .int .i64 (x.f7), .int .i64 (x.f8), .int .i64 (x.f9), .int .i64 (x.f10), .int .i64 (x.f11)] (0, 0) _ rfl R9.out HU.out rfl (by kernel_rfl)) rfl ?_
      exact ⟨rfl, B9.out⟩
    · have t2b : (x.f11 == ratio) = false := beq_eq_false_iff_ne.2 t2
      rw [if_neg t2] at h
      by_cases t3 : side = 1
      · have t3b : (side == 1) = true := beq_iff_eq.2 t3
        rw [if_pos t3] at h
        clear t1 t2 t3
        replace h := Option.bind_eq_some_iff.1 h
        obtain ⟨y, hs, h⟩ := h
        simp only [Option.some.injEq, Prod.mk.injEq] at h
        obtain ⟨rfl, rfl⟩ := h
        have HS := Aside0.mk hs
        clear hs
        go_enter Try.func37, Try.ntmps37
        go_wp2_with (first
          | ((with_reducible refine gate_dst (N := 6) rfl ?_); refine box_event ?hg (N := 6) ?hd (cs := #[.int .i64 x.f0, .int .i64 x.f1, .int .i64 x.f2, .int .i64 x.f3, .int .i64 x.f4, .int .i64 x.f5, .int .i64 x.f6, .int .i64 x.f7, .int .i64 x.f8, .int .i64 x.f9, .int .i64 x.f10, .int .i64 x.f11]) (t := 57) ?hr ?_; (case hd => rfl); (case hg => rfl); (case hr => first | (go_simp; done) | (go_simp; rfl)); intro gx hgx W1 hbox hb; have X1 := Aside0.mk hbox; have L1 := Aside0.mk (blk_below HL.out hb); have B1 := Aside0.mk hb; have G1 := Aside0.mk hgx; clear hbox hb hgx)
          | ((with_reducible refine gate_dst (N := 8) rfl ?_); refine box_event ?hg (N := 8) ?hd (cs := #[.int .i64 0, .int .i64 0, .int .i64 0, .int .i64 0, .int .i64 0, .int .i64 0, .int .i64 0, .int .i64 0, .int .i64 0, .int .i64 0, .int .i64 0, .int .i64 0]) (t := 57) ?hr ?_; (case hd => rfl); (case hg => rfl); (case hr => first | (go_simp; done) | (go_simp; rfl)); intro gr hgr W2 hbox hb; have N2 := Aside0.mk (show NI w g gx gr l x zK W2 from ⟨below_step B1.out hb, blk_below L1.out hb, blk_below X1.out hb, hbox, ⟨blk_lt HL.out, by (have h1_ := G1.out; omega), by (have h1_ := B1.out.size; omega), by (have h1_ := blk_lt X1.out; omega)⟩⟩); have x10 : W2.cell? ⟨gx, 10, none⟩ = some (.int .i64 x.f10) := (blk_cell N2.out.xb 10).trans rfl; have x11 : W2.cell? ⟨gx, 11, none⟩ = some (.int .i64 x.f11) := (blk_cell N2.out.xb 11).trans rfl; have y10 := blk_frozen N2.out.xb 10; have y11 := blk_frozen N2.out.xb 11; clear hbox hb hgr)
          | (go_at_call 49; have N3 := Aside0.mk (NI.kb N2.out ⟨x.f0, x.f1, x.f2, x.f3, x.f4, x.f5, x.f6, x.f7, x.f8, x.f9, x.f10, wrap64 (x.f11 + 1)⟩ (blk_put (N2.out.xb) 11 (.int .i64 (wrap64 (x.f11 + 1))) rfl) (KB.set (KB.refl gx _) 11 (.int .i64 (wrap64 (x.f11 + 1))))); (with_reducible refine (sendF.calls g gx l ⟨x.f0, x.f1, x.f2, x.f3, x.f4, x.f5, x.f6, x.f7, x.f8, x.f9, x.f10, wrap64 (x.f11 + 1)⟩ y _ ?hl ?hx HS.out).mono ?_); (case hl => exact N3.out.lb); (case hx => exact N3.out.xb); rintro e W5 ⟨rfl, hx5, hk5⟩; have N5 := Aside0.mk (NI.kb N3.out y hx5 hk5); clear hx5 hk5)
          | ((with_reducible refine gate_dst (N := 32) rfl ?_); refine load_row_event rfl 57 (.tmp 6) rfl gx rfl 57 #[.int .i64 (y.f0), .int .i64 (y.f1), .int .i64 (y.f2), .int .i64 (y.f3), .int .i64 (y.f4), .int .i64 (y.f5), .int .i64 (y.f6), .int .i64 (y.f7), .int .i64 (y.f8), .int .i64 (y.f9), .int .i64 (y.f10), .int .i64 (y.f11)] _ N5.out.xb HU.out rfl (by kernel_rfl) ?_)
          | ((with_reducible refine gate_store (t := 57) (p := 8) rfl ?_); refine store_row_event rfl rfl 57 (.tmp 8) (.tmp 32) rfl gr #[.int .i64 (y.f0), .int .i64 (y.f1), .int .i64 (y.f2), .int .i64 (y.f3), .int .i64 (y.f4), .int .i64 (y.f5), .int .i64 (y.f6), .int .i64 (y.f7), .int .i64 (y.f8), .int .i64 (y.f9), .int .i64 (y.f10), .int .i64 (y.f11)] rfl rfl 57 _ N5.out.rb (by kernel_rfl) (by first | rfl | kernel_rfl) (by first | rfl | kernel_rfl | simp [Value.oneCell']) ?_; intro W9 hr9 hk9; have R9 := Aside0.mk hr9; have B9 := Aside0.mk (hk9.low N5.out.bel N5.out.lo.2.2.1); clear hr9 hk9))
        refine bodyPost_ret (results_ct rfl _ _ gr 57 #[.int .i64 (y.f0), .int .i64 (y.f1), .int .i64 (y.f2), .int .i64 (y.f3), .int .i64 (y.f4), .int .i64 (y.f5), .int .i64 (y.f6), .int .i64 (y.f7), .int .i64 (y.f8), .int .i64 (y.f9), .int .i64 (y.f10), .int .i64 (y.f11)] (0, 0) _ rfl R9.out HU.out rfl (by kernel_rfl)) rfl ?_
        exact ⟨rfl, B9.out⟩
      · have t3b : (side == 1) = false := beq_eq_false_iff_ne.2 t3
        rw [if_neg t3] at h
        clear t1 t2 t3
        replace h := Option.bind_eq_some_iff.1 h
        obtain ⟨⟨y, v, tk⟩, hs, h⟩ := h
        simp only [Option.some.injEq, Prod.mk.injEq] at h
        obtain ⟨rfl, rfl⟩ := h
        have HS := Aside0.mk hs
        clear hs
        go_enter Try.func37, Try.ntmps37
        go_wp2_with (first
          | ((with_reducible refine gate_dst (N := 6) rfl ?_); refine box_event ?hg (N := 6) ?hd (cs := #[.int .i64 x.f0, .int .i64 x.f1, .int .i64 x.f2, .int .i64 x.f3, .int .i64 x.f4, .int .i64 x.f5, .int .i64 x.f6, .int .i64 x.f7, .int .i64 x.f8, .int .i64 x.f9, .int .i64 x.f10, .int .i64 x.f11]) (t := 57) ?hr ?_; (case hd => rfl); (case hg => rfl); (case hr => first | (go_simp; done) | (go_simp; rfl)); intro gx hgx W1 hbox hb; have X1 := Aside0.mk hbox; have L1 := Aside0.mk (blk_below HL.out hb); have B1 := Aside0.mk hb; have G1 := Aside0.mk hgx; clear hbox hb hgx)
          | ((with_reducible refine gate_dst (N := 8) rfl ?_); refine box_event ?hg (N := 8) ?hd (cs := #[.int .i64 0, .int .i64 0, .int .i64 0, .int .i64 0, .int .i64 0, .int .i64 0, .int .i64 0, .int .i64 0, .int .i64 0, .int .i64 0, .int .i64 0, .int .i64 0]) (t := 57) ?hr ?_; (case hd => rfl); (case hg => rfl); (case hr => first | (go_simp; done) | (go_simp; rfl)); intro gr hgr W2 hbox hb; have N2 := Aside0.mk (show NI w g gx gr l x zK W2 from ⟨below_step B1.out hb, blk_below L1.out hb, blk_below X1.out hb, hbox, ⟨blk_lt HL.out, by (have h1_ := G1.out; omega), by (have h1_ := B1.out.size; omega), by (have h1_ := blk_lt X1.out; omega)⟩⟩); have x10 : W2.cell? ⟨gx, 10, none⟩ = some (.int .i64 x.f10) := (blk_cell N2.out.xb 10).trans rfl; have x11 : W2.cell? ⟨gx, 11, none⟩ = some (.int .i64 x.f11) := (blk_cell N2.out.xb 11).trans rfl; have y10 := blk_frozen N2.out.xb 10; have y11 := blk_frozen N2.out.xb 11; clear hbox hb hgr)
          | (go_at_call 50; have N3 := Aside0.mk (NI.kb N2.out ⟨x.f0, x.f1, x.f2, x.f3, x.f4, x.f5, x.f6, x.f7, x.f8, x.f9, x.f10, wrap64 (x.f11 + 1)⟩ (blk_put (N2.out.xb) 11 (.int .i64 (wrap64 (x.f11 + 1))) rfl) (KB.set (KB.refl gx _) 11 (.int .i64 (wrap64 (x.f11 + 1))))); (with_reducible refine (takeF.calls g gx l ⟨x.f0, x.f1, x.f2, x.f3, x.f4, x.f5, x.f6, x.f7, x.f8, x.f9, x.f10, wrap64 (x.f11 + 1)⟩ y v tk _ ?hl ?hx HS.out).mono ?_); (case hl => exact N3.out.lb); (case hx => exact N3.out.xb); rintro e W5 ⟨rfl, hx5, hk5⟩; have N5 := Aside0.mk (NI.kb N3.out y hx5 hk5); clear hx5 hk5)
          | ((with_reducible refine gate_dst (N := 32) rfl ?_); refine load_row_event rfl 57 (.tmp 6) rfl gx rfl 57 #[.int .i64 (y.f0), .int .i64 (y.f1), .int .i64 (y.f2), .int .i64 (y.f3), .int .i64 (y.f4), .int .i64 (y.f5), .int .i64 (y.f6), .int .i64 (y.f7), .int .i64 (y.f8), .int .i64 (y.f9), .int .i64 (y.f10), .int .i64 (y.f11)] _ N5.out.xb HU.out rfl (by kernel_rfl) ?_)
          | ((with_reducible refine gate_store (t := 57) (p := 8) rfl ?_); refine store_row_event rfl rfl 57 (.tmp 8) (.tmp 32) rfl gr #[.int .i64 (y.f0), .int .i64 (y.f1), .int .i64 (y.f2), .int .i64 (y.f3), .int .i64 (y.f4), .int .i64 (y.f5), .int .i64 (y.f6), .int .i64 (y.f7), .int .i64 (y.f8), .int .i64 (y.f9), .int .i64 (y.f10), .int .i64 (y.f11)] rfl rfl 57 _ N5.out.rb (by kernel_rfl) (by first | rfl | kernel_rfl) (by first | rfl | kernel_rfl | simp [Value.oneCell']) ?_; intro W9 hr9 hk9; have R9 := Aside0.mk hr9; have B9 := Aside0.mk (hk9.low N5.out.bel N5.out.lo.2.2.1); clear hr9 hk9))
        refine bodyPost_ret (results_ct rfl _ _ gr 57 #[.int .i64 (y.f0), .int .i64 (y.f1), .int .i64 (y.f2), .int .i64 (y.f3), .int .i64 (y.f4), .int .i64 (y.f5), .int .i64 (y.f6), .int .i64 (y.f7), .int .i64 (y.f8), .int .i64 (y.f9), .int .i64 (y.f10), .int .i64 (y.f11)] (0, 0) _ rfl R9.out HU.out rfl (by kernel_rfl)) rfl ?_
        exact ⟨rfl, B9.out⟩
  · have t1b : (x.f10 != side) = true := bne_iff_ne.2 t1
    simp only [if_neg t1] at h
    by_cases t2 : (0 : Int) = ratio
    · have t2b : ((0 : Int) == ratio) = true := beq_iff_eq.2 t2
      rw [if_pos t2] at h
      simp only [Option.some.injEq, Prod.mk.injEq] at h
      obtain ⟨rfl, rfl⟩ := h
      clear t1 t2
      go_enter Try.func37, Try.ntmps37
      go_wp2_with (first
        | ((with_reducible refine gate_dst (N := 6) rfl ?_); refine box_event ?hg (N := 6) ?hd (cs := #[.int .i64 x.f0, .int .i64 x.f1, .int .i64 x.f2, .int .i64 x.f3, .int .i64 x.f4, .int .i64 x.f5, .int .i64 x.f6, .int .i64 x.f7, .int .i64 x.f8, .int .i64 x.f9, .int .i64 x.f10, .int .i64 x.f11]) (t := 57) ?hr ?_; (case hd => rfl); (case hg => rfl); (case hr => first | (go_simp; done) | (go_simp; rfl)); intro gx hgx W1 hbox hb; have X1 := Aside0.mk hbox; have L1 := Aside0.mk (blk_below HL.out hb); have B1 := Aside0.mk hb; have G1 := Aside0.mk hgx; clear hbox hb hgx)
        | ((with_reducible refine gate_dst (N := 8) rfl ?_); refine box_event ?hg (N := 8) ?hd (cs := #[.int .i64 0, .int .i64 0, .int .i64 0, .int .i64 0, .int .i64 0, .int .i64 0, .int .i64 0, .int .i64 0, .int .i64 0, .int .i64 0, .int .i64 0, .int .i64 0]) (t := 57) ?hr ?_; (case hd => rfl); (case hg => rfl); (case hr => first | (go_simp; done) | (go_simp; rfl)); intro gr hgr W2 hbox hb; have N2 := Aside0.mk (show NI w g gx gr l x zK W2 from ⟨below_step B1.out hb, blk_below L1.out hb, blk_below X1.out hb, hbox, ⟨blk_lt HL.out, by (have h1_ := G1.out; omega), by (have h1_ := B1.out.size; omega), by (have h1_ := blk_lt X1.out; omega)⟩⟩); have x10 : W2.cell? ⟨gx, 10, none⟩ = some (.int .i64 x.f10) := (blk_cell N2.out.xb 10).trans rfl; have x11 : W2.cell? ⟨gx, 11, none⟩ = some (.int .i64 x.f11) := (blk_cell N2.out.xb 11).trans rfl; have y10 := blk_frozen N2.out.xb 10; have y11 := blk_frozen N2.out.xb 11; clear hbox hb hgr)
        | ((with_reducible refine gate_dst (N := 21) rfl ?_); have N3 := Aside0.mk (NI.kb N2.out ⟨x.f0, x.f1, x.f2, x.f3, x.f4, x.f5, x.f6, x.f7, x.f8, x.f9, side, 0⟩ (blk_put (blk_put (N2.out.xb) 10 (.int .i64 (side)) rfl) 11 (.int .i64 (0)) rfl) (KB.set (KB.set (KB.refl gx _) 10 (.int .i64 (side))) 11 (.int .i64 (0)))); refine load_row_event rfl 57 (.tmp 6) rfl gx rfl 57 #[.int .i64 (x.f0), .int .i64 (x.f1), .int .i64 (x.f2), .int .i64 (x.f3), .int .i64 (x.f4), .int .i64 (x.f5), .int .i64 (x.f6), .int .i64 (x.f7), .int .i64 (x.f8), .int .i64 (x.f9), .int .i64 (side), .int .i64 (0)] _ N3.out.xb HU.out rfl (by kernel_rfl) ?_)
        | ((with_reducible refine gate_store (t := 57) (p := 8) rfl ?_); refine store_row_event rfl rfl 57 (.tmp 8) (.tmp 21) rfl gr #[.int .i64 (x.f0), .int .i64 (x.f1), .int .i64 (x.f2), .int .i64 (x.f3), .int .i64 (x.f4), .int .i64 (x.f5), .int .i64 (x.f6), .int .i64 (x.f7), .int .i64 (x.f8), .int .i64 (x.f9), .int .i64 (side), .int .i64 (0)] rfl rfl 57 _ N3.out.rb (by kernel_rfl) (by first | rfl | kernel_rfl) (by first | rfl | kernel_rfl | simp [Value.oneCell']) ?_; intro W9 hr9 hk9; have R9 := Aside0.mk hr9; have B9 := Aside0.mk (hk9.low N3.out.bel N3.out.lo.2.2.1); clear hr9 hk9))
      refine bodyPost_ret (results_ct rfl _ _ gr 57 #[.int .i64 (x.f0), .int .i64 (x.f1), .int .i64 (x.f2), .int .i64 (x.f3), .int .i64 (x.f4), .int .i64 (x.f5), .int .i64 (x.f6), .int .i64 (x.f7), .int .i64 (x.f8), .int .i64 (x.f9), .int .i64 (side), .int .i64 (0)] (0, 0) _ rfl R9.out HU.out rfl (by kernel_rfl)) rfl ?_
      exact ⟨rfl, B9.out⟩
    · have t2b : ((0 : Int) == ratio) = false := beq_eq_false_iff_ne.2 t2
      rw [if_neg t2] at h
      by_cases t3 : side = 1
      · have t3b : (side == 1) = true := beq_iff_eq.2 t3
        rw [if_pos t3] at h
        clear t1 t2 t3
        simp only [show wrap64 ((0 : Int) + 1) = 1 by unfold wrap64; omega] at h
        replace h := Option.bind_eq_some_iff.1 h
        obtain ⟨y, hs, h⟩ := h
        simp only [Option.some.injEq, Prod.mk.injEq] at h
        obtain ⟨rfl, rfl⟩ := h
        have HS := Aside0.mk hs
        clear hs
        go_enter Try.func37, Try.ntmps37
        go_wp2_with (first
          | ((with_reducible refine gate_dst (N := 6) rfl ?_); refine box_event ?hg (N := 6) ?hd (cs := #[.int .i64 x.f0, .int .i64 x.f1, .int .i64 x.f2, .int .i64 x.f3, .int .i64 x.f4, .int .i64 x.f5, .int .i64 x.f6, .int .i64 x.f7, .int .i64 x.f8, .int .i64 x.f9, .int .i64 x.f10, .int .i64 x.f11]) (t := 57) ?hr ?_; (case hd => rfl); (case hg => rfl); (case hr => first | (go_simp; done) | (go_simp; rfl)); intro gx hgx W1 hbox hb; have X1 := Aside0.mk hbox; have L1 := Aside0.mk (blk_below HL.out hb); have B1 := Aside0.mk hb; have G1 := Aside0.mk hgx; clear hbox hb hgx)
          | ((with_reducible refine gate_dst (N := 8) rfl ?_); refine box_event ?hg (N := 8) ?hd (cs := #[.int .i64 0, .int .i64 0, .int .i64 0, .int .i64 0, .int .i64 0, .int .i64 0, .int .i64 0, .int .i64 0, .int .i64 0, .int .i64 0, .int .i64 0, .int .i64 0]) (t := 57) ?hr ?_; (case hd => rfl); (case hg => rfl); (case hr => first | (go_simp; done) | (go_simp; rfl)); intro gr hgr W2 hbox hb; have N2 := Aside0.mk (show NI w g gx gr l x zK W2 from ⟨below_step B1.out hb, blk_below L1.out hb, blk_below X1.out hb, hbox, ⟨blk_lt HL.out, by (have h1_ := G1.out; omega), by (have h1_ := B1.out.size; omega), by (have h1_ := blk_lt X1.out; omega)⟩⟩); have x10 : W2.cell? ⟨gx, 10, none⟩ = some (.int .i64 x.f10) := (blk_cell N2.out.xb 10).trans rfl; have x11 : W2.cell? ⟨gx, 11, none⟩ = some (.int .i64 x.f11) := (blk_cell N2.out.xb 11).trans rfl; have y10 := blk_frozen N2.out.xb 10; have y11 := blk_frozen N2.out.xb 11; clear hbox hb hgr)
          | (go_at_call 49; have N3 := Aside0.mk (NI.kb N2.out ⟨x.f0, x.f1, x.f2, x.f3, x.f4, x.f5, x.f6, x.f7, x.f8, x.f9, side, 1⟩ (blk_put (blk_put (blk_put (N2.out.xb) 10 (.int .i64 (side)) rfl) 11 (.int .i64 (0)) rfl) 11 (.int .i64 (1)) rfl) (KB.set (KB.set (KB.set (KB.refl gx _) 10 (.int .i64 (side))) 11 (.int .i64 (0))) 11 (.int .i64 (1)))); (with_reducible refine (sendF.calls g gx l ⟨x.f0, x.f1, x.f2, x.f3, x.f4, x.f5, x.f6, x.f7, x.f8, x.f9, side, 1⟩ y _ ?hl ?hx HS.out).mono ?_); (case hl => exact N3.out.lb); (case hx => exact N3.out.xb); rintro e W5 ⟨rfl, hx5, hk5⟩; have N5 := Aside0.mk (NI.kb N3.out y hx5 hk5); clear hx5 hk5)
          | ((with_reducible refine gate_dst (N := 32) rfl ?_); refine load_row_event rfl 57 (.tmp 6) rfl gx rfl 57 #[.int .i64 (y.f0), .int .i64 (y.f1), .int .i64 (y.f2), .int .i64 (y.f3), .int .i64 (y.f4), .int .i64 (y.f5), .int .i64 (y.f6), .int .i64 (y.f7), .int .i64 (y.f8), .int .i64 (y.f9), .int .i64 (y.f10), .int .i64 (y.f11)] _ N5.out.xb HU.out rfl (by kernel_rfl) ?_)
          | ((with_reducible refine gate_store (t := 57) (p := 8) rfl ?_); refine store_row_event rfl rfl 57 (.tmp 8) (.tmp 32) rfl gr #[.int .i64 (y.f0), .int .i64 (y.f1), .int .i64 (y.f2), .int .i64 (y.f3), .int .i64 (y.f4), .int .i64 (y.f5), .int .i64 (y.f6), .int .i64 (y.f7), .int .i64 (y.f8), .int .i64 (y.f9), .int .i64 (y.f10), .int .i64 (y.f11)] rfl rfl 57 _ N5.out.rb (by kernel_rfl) (by first | rfl | kernel_rfl) (by first | rfl | kernel_rfl | simp [Value.oneCell']) ?_; intro W9 hr9 hk9; have R9 := Aside0.mk hr9; have B9 := Aside0.mk (hk9.low N5.out.bel N5.out.lo.2.2.1); clear hr9 hk9))
        refine bodyPost_ret (results_ct rfl _ _ gr 57 #[.int .i64 (y.f0), .int .i64 (y.f1), .int .i64 (y.f2), .int .i64 (y.f3), .int .i64 (y.f4), .int .i64 (y.f5), .int .i64 (y.f6), .int .i64 (y.f7), .int .i64 (y.f8), .int .i64 (y.f9), .int .i64 (y.f10), .int .i64 (y.f11)] (0, 0) _ rfl R9.out HU.out rfl (by kernel_rfl)) rfl ?_
        exact ⟨rfl, B9.out⟩
      · have t3b : (side == 1) = false := beq_eq_false_iff_ne.2 t3
        rw [if_neg t3] at h
        clear t1 t2 t3
        simp only [show wrap64 ((0 : Int) + 1) = 1 by unfold wrap64; omega] at h
        replace h := Option.bind_eq_some_iff.1 h
        obtain ⟨⟨y, v, tk⟩, hs, h⟩ := h
        simp only [Option.some.injEq, Prod.mk.injEq] at h
        obtain ⟨rfl, rfl⟩ := h
        have HS := Aside0.mk hs
        clear hs
        go_enter Try.func37, Try.ntmps37
        go_wp2_with (first
          | ((with_reducible refine gate_dst (N := 6) rfl ?_); refine box_event ?hg (N := 6) ?hd (cs := #[.int .i64 x.f0, .int .i64 x.f1, .int .i64 x.f2, .int .i64 x.f3, .int .i64 x.f4, .int .i64 x.f5, .int .i64 x.f6, .int .i64 x.f7, .int .i64 x.f8, .int .i64 x.f9, .int .i64 x.f10, .int .i64 x.f11]) (t := 57) ?hr ?_; (case hd => rfl); (case hg => rfl); (case hr => first | (go_simp; done) | (go_simp; rfl)); intro gx hgx W1 hbox hb; have X1 := Aside0.mk hbox; have L1 := Aside0.mk (blk_below HL.out hb); have B1 := Aside0.mk hb; have G1 := Aside0.mk hgx; clear hbox hb hgx)
          | ((with_reducible refine gate_dst (N := 8) rfl ?_); refine box_event ?hg (N := 8) ?hd (cs := #[.int .i64 0, .int .i64 0, .int .i64 0, .int .i64 0, .int .i64 0, .int .i64 0, .int .i64 0, .int .i64 0, .int .i64 0, .int .i64 0, .int .i64 0, .int .i64 0]) (t := 57) ?hr ?_; (case hd => rfl); (case hg => rfl); (case hr => first | (go_simp; done) | (go_simp; rfl)); intro gr hgr W2 hbox hb; have N2 := Aside0.mk (show NI w g gx gr l x zK W2 from ⟨below_step B1.out hb, blk_below L1.out hb, blk_below X1.out hb, hbox, ⟨blk_lt HL.out, by (have h1_ := G1.out; omega), by (have h1_ := B1.out.size; omega), by (have h1_ := blk_lt X1.out; omega)⟩⟩); have x10 : W2.cell? ⟨gx, 10, none⟩ = some (.int .i64 x.f10) := (blk_cell N2.out.xb 10).trans rfl; have x11 : W2.cell? ⟨gx, 11, none⟩ = some (.int .i64 x.f11) := (blk_cell N2.out.xb 11).trans rfl; have y10 := blk_frozen N2.out.xb 10; have y11 := blk_frozen N2.out.xb 11; clear hbox hb hgr)
          | (go_at_call 50; have N3 := Aside0.mk (NI.kb N2.out ⟨x.f0, x.f1, x.f2, x.f3, x.f4, x.f5, x.f6, x.f7, x.f8, x.f9, side, 1⟩ (blk_put (blk_put (blk_put (N2.out.xb) 10 (.int .i64 (side)) rfl) 11 (.int .i64 (0)) rfl) 11 (.int .i64 (1)) rfl) (KB.set (KB.set (KB.set (KB.refl gx _) 10 (.int .i64 (side))) 11 (.int .i64 (0))) 11 (.int .i64 (1)))); (with_reducible refine (takeF.calls g gx l ⟨x.f0, x.f1, x.f2, x.f3, x.f4, x.f5, x.f6, x.f7, x.f8, x.f9, side, 1⟩ y v tk _ ?hl ?hx HS.out).mono ?_); (case hl => exact N3.out.lb); (case hx => exact N3.out.xb); rintro e W5 ⟨rfl, hx5, hk5⟩; have N5 := Aside0.mk (NI.kb N3.out y hx5 hk5); clear hx5 hk5)
          | ((with_reducible refine gate_dst (N := 32) rfl ?_); refine load_row_event rfl 57 (.tmp 6) rfl gx rfl 57 #[.int .i64 (y.f0), .int .i64 (y.f1), .int .i64 (y.f2), .int .i64 (y.f3), .int .i64 (y.f4), .int .i64 (y.f5), .int .i64 (y.f6), .int .i64 (y.f7), .int .i64 (y.f8), .int .i64 (y.f9), .int .i64 (y.f10), .int .i64 (y.f11)] _ N5.out.xb HU.out rfl (by kernel_rfl) ?_)
          | ((with_reducible refine gate_store (t := 57) (p := 8) rfl ?_); refine store_row_event rfl rfl 57 (.tmp 8) (.tmp 32) rfl gr #[.int .i64 (y.f0), .int .i64 (y.f1), .int .i64 (y.f2), .int .i64 (y.f3), .int .i64 (y.f4), .int .i64 (y.f5), .int .i64 (y.f6), .int .i64 (y.f7), .int .i64 (y.f8), .int .i64 (y.f9), .int .i64 (y.f10), .int .i64 (y.f11)] rfl rfl 57 _ N5.out.rb (by kernel_rfl) (by first | rfl | kernel_rfl) (by first | rfl | kernel_rfl | simp [Value.oneCell']) ?_; intro W9 hr9 hk9; have R9 := Aside0.mk hr9; have B9 := Aside0.mk (hk9.low N5.out.bel N5.out.lo.2.2.1); clear hr9 hk9))
        refine bodyPost_ret (results_ct rfl _ _ gr 57 #[.int .i64 (y.f0), .int .i64 (y.f1), .int .i64 (y.f2), .int .i64 (y.f3), .int .i64 (y.f4), .int .i64 (y.f5), .int .i64 (y.f6), .int .i64 (y.f7), .int .i64 (y.f8), .int .i64 (y.f9), .int .i64 (y.f10), .int .i64 (y.f11)] (0, 0) _ rfl R9.out HU.out rfl (by kernel_rfl)) rfl ?_
        exact ⟨rfl, B9.out⟩
end Go.Proofs.Ytgmnbpdfdagniaa.A
