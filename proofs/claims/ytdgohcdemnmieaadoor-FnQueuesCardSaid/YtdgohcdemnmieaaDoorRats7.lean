import Derived.Test.YtdgohcdemnmieaaDoorZ22
import Derived.StillTailTactics
import Derived.Deep.RegionHeld3
import Derived.Deep.QuietTactic
import Derived.BigQuiet
import Derived.Test.YtdgohcdemnmieaaDoorDigDiv3
import Derived.Test.YtdgohcdemnmieaaDoorA53
import Derived.BigRegion
/- Integers of any size as the program keeps them: what the methods of *exactInt tell, in terms of the integer. -/
namespace Go.Proofs.YtdgohcdemnmieaaDoor.A
set_option linter.unusedVariables false
set_option linter.unusedSimpArgs false
open Go.RowKit Go.Proofs.YtdgohcdemnmieaaDoorW.PrintWords Go.Proofs.YtdgohcdemnmieaaDoorW.PrintLast Go.Proofs.YtdgohcdemnmieaaDoorW.PrintMore
/-- The block g is an integer (or begins with one). -/
def IsI (W : World) (g : Nat) (X : Int) : Prop := ∃ cs T v ds, W.heap[g]? = some (.cells cs T (0, 0)) ∧ T ≠ 94 ∧ 2 ≤ cs.size ∧ cs[0]? = some (.bool (decide (X < 0))) ∧ cs[1]? = some v ∧ Dg W v ds ∧ Can ds ∧ val ds = (X.natAbs : Int)
/-- Not a block of digits. -/
def NotD (W : World) (g : Nat) : Prop := ∀ cells, W.heap[g]? ≠ some (.cells cells 94 (0, 0))
theorem NotD.of {W : World} {g : Nat} {cs : Array Value} {T : TypeId} (hb : W.heap[g]? = some (.cells cs T (0, 0))) (hT : T ≠ 94) : NotD W g := fun cells h => by
  rw [hb] at h; injection h with h; injection h with _ h2; exact hT h2
theorem NotD.new {W : World} {g : Nat} (h : W.heap.size ≤ g) : NotD W g := fun cells hc => by have := blk_lt hc; omega
theorem Dg.keep {W W' : World} {v : Value} {ds : List Int} {g : Nat} (h : Dg W v ds) (hg : W.grownBy W' (some g)) (hn : NotD W g) : Dg W' v ds := by
  obtain ⟨A, c, rfl, hl, hC, ht, hd⟩ := h
  have hne : ∀ ad, A = some ad → ad.block ≠ g := by
    intro ad e hq
    obtain ⟨cells, hc⟩ := ht ad e
    rw [hq] at hc
    exact hn cells hc
  refine ⟨A, c, rfl, hl, ⟨hC.1, hC.2.1, fun hp => ?_⟩, fun ad e => ?_, hd⟩
  · obtain ⟨ad, e, hcell⟩ := hC.2.2 hp
    refine ⟨ad, e, fun j p hj => ?_⟩
    obtain ⟨q, h1, h2, h3⟩ := hcell j p hj
    refine ⟨q, h1, h2, fun i u hu => hg.cell (h3 i u hu) ?_⟩
    have := hne ad e
    rw [add_block]; simpa using this
  · obtain ⟨cells, hc⟩ := ht ad e
    exact ⟨cells, blk_grown hc hg (by have := hne ad e; simpa using this)⟩
theorem IsI.keep {W W' : World} {a g : Nat} {X : Int} (h : IsI W a X) (hg : W.grownBy W' (some g)) (hn : NotD W g) (hne : a ≠ g) : IsI W' a X := by
  obtain ⟨cs, T, v, ds, h1, h2, h3, h4, h5, h6, h7⟩ := h
  exact ⟨cs, T, v, ds, blk_grown h1 hg (by simpa using hne), h2, h3, h4, h5, h6.keep hg hn, h7⟩
theorem grown_none {W W' : World} (h : W.grownBy W' none) (g : Nat) : W.grownBy W' (some g) := ⟨h.os, h.tape, h.output, h.size, fun k hk _ => h.block k hk (by simp)⟩
/-- Behind a method that sets the block g to an integer. -/
def PutI (g : Nat) (cs : Array Value) (T : TypeId) (X : Int) (W : World) (e : Ending) (w' : World) : Prop :=
  e = .returned (.pointer (some ⟨g, 0, none⟩)) ∧ ∃ v ds, w'.heap[g]? = some (.cells ((cs.setIfInBounds 0 (.bool (decide (X < 0)))).setIfInBounds 1 v) T (0, 0)) ∧ Dg w' v ds ∧ Can ds ∧ val ds = (X.natAbs : Int) ∧ W.grownBy w' (some g)
theorem PutI.isI {g : Nat} {cs : Array Value} {T : TypeId} {X : Int} {W w' : World} {e : Ending} (h : PutI g cs T X W e w') (hcs : 2 ≤ cs.size) (hT : T ≠ 94) : IsI w' g X := by
  obtain ⟨_, v, ds, h1, h2, h3, h4, _⟩ := h
  refine ⟨_, T, v, ds, h1, hT, by simpa using hcs, ?_, ?_, h2, h3, h4⟩
  · rw [Array.getElem?_setIfInBounds, if_neg (by decide), Array.getElem?_setIfInBounds, if_pos rfl, if_pos (by omega)]
  · rw [Array.getElem?_setIfInBounds, if_pos rfl, if_pos (by simp; omega)]
/-- The integer of a sign and digits. -/
def sgn (less : Bool) (n : Int) : Int := if less then -n else n
theorem PutI.of_put {g : Nat} {cs : Array Value} {T : TypeId} {less : Bool} {l : List Int} {W w' : World} {e : Ending} (hl : Digs l) (h : impl_exactInt_put.Post g cs T less l W e w') : PutI g cs T (sgn less (val l)) W e w' := by
  obtain ⟨h0, v, ds, h1, h2, h3, h4, h5⟩ := h
  have hn := val_nonneg l hl
  have e1 : decide (sgn less (val l) < 0) = (less && decide (0 < val l)) := by
    unfold sgn; cases less <;> simp <;> omega
  have e2 : ((sgn less (val l)).natAbs : Int) = val l := by unfold sgn; split <;> omega
  exact ⟨h0, v, ds, by rw [e1]; exact h1, h2, h3, by rw [e2]; exact h4, h5⟩
theorem PutI.undrew {g : Nat} {cs : Array Value} {T : TypeId} {X : Int} {W w' : World} {e : Ending} (h : PutI g cs T X W.drew e w') : PutI g cs T X W e w' := by
  obtain ⟨h0, v, ds, h1, h2, h3, h4, h5⟩ := h
  exact ⟨h0, v, ds, h1, h2, h3, h4, ⟨h5.os, h5.tape, h5.output, h5.size, h5.block⟩⟩
theorem Dg.digs {W : World} {v : Value} {ds : List Int} (h : Dg W v ds) : Digs ds := h.choose_spec.choose_spec.2.2.2.2
set_option maxHeartbeats 1600000 in
set_option maxRecDepth 100000 in
theorem impl_exactInt_Set.calls (g : Nat) (cs : Array Value) (T : TypeId) (gx : Nat) (X : Int) (W : World) (hb : W.heap[g]? = some (.cells cs T (0, 0))) (hcs : 2 ≤ cs.size) (hT : T ≠ 94) (hx : IsI W gx X) :
    Calls Tryd.prog 50 #[.pointer (some ⟨g, 0, none⟩), .pointer (some ⟨gx, 0, none⟩)] W (PutI g cs T X W) := by
  obtain ⟨xs, S, v, ds, x1, x2, x3, x4, x5, x6, x7, x8⟩ := hx
  have hc0 : W.cell? ⟨gx, 0, none⟩ = some (.bool (decide (X < 0))) := (blk_cell x1 0).trans x4
  have hc1 : W.cell? ⟨gx, 1, none⟩ = some v := (blk_cell x1 1).trans x5
  have hp := Aside0.mk (impl_exactInt_put.calls g cs T (decide (X < 0)) v ds W.drew hb hcs hT x6)
  have hfin := Aside0.mk (show ∀ e w', impl_exactInt_put.Post g cs T (decide (X < 0)) ds W.drew e w' → PutI g cs T X W e w' from fun e w' h => by
    have := PutI.undrew (PutI.of_put x6.digs h)
    have e : sgn (decide (X < 0)) (val ds) = X := by rw [x8]; unfold sgn; by_cases h : X < 0 <;> simp [h] <;> omega
    rw [e] at this; exact this)
  clear x1 x2 x3 x4 x5 x6 x7 x8 hb hT hcs
  go_enter Tryd.func50, Tryd.ntmps50
  go_wp2
  go_still_tail 9, (by kernel_rfl)
  change wpList _ _ _ _ _ W.drew
  go_wp2_with (first
    | (go_at_call 52; refine hp.out.mono ?_; intro e w2 hq; have he := hq.1; subst he; have HQ := Aside0.mk hq; clear hq))
  go_ret
  exact hfin.out _ _ HQ.out
/-- Behind a function that returns a new integer. -/
def NewI (X : Int) (W : World) (e : Ending) (w' : World) : Prop := ∃ g, e = .returned (.pointer (some ⟨g, 0, none⟩)) ∧ W.heap.size ≤ g ∧ IsI w' g X ∧ W.grownBy w' none
theorem grown_new {W w' : World} {o : Obj} (h : (W.alloc o).grownBy w' (some W.heap.size)) : W.grownBy w' none :=
  ⟨h.os, h.tape, h.output, by have := h.size; simp at this; omega, fun k hk _ => (h.block k (by simp; omega) (by simp; omega)).trans (Below.heap_alloc W o k hk)⟩
theorem Dg.alloc {W : World} {v : Value} {ds : List Int} (h : Dg W v ds) (o : Obj) : Dg (W.alloc o) v ds := h.below (below_alloc (Below.refl _ _) o)
theorem IsI.alloc {W : World} {g : Nat} {X : Int} (h : IsI W g X) (o : Obj) : IsI (W.alloc o) g X := by
  obtain ⟨cs, T, v, ds, h1, h2, h3, h4, h5, h6, h7⟩ := h
  exact ⟨cs, T, v, ds, blk_alloc h1 o, h2, h3, h4, h5, h6.alloc o, h7⟩
set_option maxHeartbeats 1600000 in
set_option maxRecDepth 100000 in
theorem impl_exactRat_Num.calls (g : Nat) (X : Int) (W : World) (hx : IsI W g X) :
    Calls Tryd.prog 32 #[.pointer (some ⟨g, 0, none⟩)] W (NewI X W) := by
  have hp := Aside0.mk (impl_exactInt_Set.calls W.heap.size #[.bool false, .slice none 0 0] 57 g X (W.alloc (.cells #[.bool false, .slice none 0 0] 57 (0, 0))) (blk_new W _) (by decide) (by decide) (hx.alloc _))
  have hfin := Aside0.mk (show ∀ e w', PutI W.heap.size #[.bool false, .slice none 0 0] 57 X (W.alloc (.cells #[.bool false, .slice none 0 0] 57 (0, 0))) e w' → NewI X W e w' from fun e w' h => ⟨_, h.1, Nat.le_refl _, h.isI (by decide) (by decide), grown_new h.2.choose_spec.choose_spec.2.2.2.2⟩)
  clear hx
  go_enter Tryd.func32, Tryd.ntmps32
  go_wp2_with (first
    | (go_at_call 50; refine hp.out.mono ?_; intro e w2 hq; have he := hq.1; subst he; have HQ := Aside0.mk hq; clear hq))
  go_ret
  exact hfin.out _ _ HQ.out
/-- The block g is a fraction N / D. -/
def IsR (W : World) (g : Nat) (N D : Int) : Prop := ∃ v ds vb bs, W.heap[g]? = some (.cells #[.bool (decide (N < 0)), v, vb] 59 (0, 0)) ∧ Dg W v ds ∧ Can ds ∧ val ds = (N.natAbs : Int) ∧ Dg W vb bs ∧ Can bs ∧ val bs = D ∧ 1 ≤ D
theorem IsR.num {W : World} {g : Nat} {N D : Int} (h : IsR W g N D) : IsI W g N := by
  obtain ⟨v, ds, vb, bs, h1, h2, h3, h4, _⟩ := h
  exact ⟨_, _, v, ds, h1, by decide, by simp, rfl, rfl, h2, h3, h4⟩
theorem IsR.keep {W W' : World} {a g : Nat} {N D : Int} (h : IsR W a N D) (hg : W.grownBy W' (some g)) (hn : NotD W g) (hne : a ≠ g) : IsR W' a N D := by
  obtain ⟨v, ds, vb, bs, h1, h2, h3, h4, h5, h6⟩ := h
  exact ⟨v, ds, vb, bs, blk_grown h1 hg (by simpa using hne), h2.keep hg hn, h3, h4, h5.keep hg hn, h6⟩
set_option maxHeartbeats 1600000 in
set_option maxRecDepth 100000 in
theorem impl_exactRat_Denom.calls (g : Nat) (N D : Int) (W : World) (hx : IsR W g N D) :
    Calls Tryd.prog 34 #[.pointer (some ⟨g, 0, none⟩)] W (NewI D W) := by
  obtain ⟨v, ds, vb, bs, h1, h2, h3, h4, h5, h6, h7, h8⟩ := hx
  have hc : W.cell? ⟨g, 2, none⟩ = some vb := (blk_cell h1 2).trans rfl
  have hc' : (W.alloc (.cells #[.bool false, .slice none 0 0] 57 (0, 0))).cell? ⟨g, 2, none⟩ = some vb := (blk_cell (blk_alloc h1 _) 2).trans rfl
  have hp := Aside0.mk (impl_exactInt_put.calls W.heap.size #[.bool false, .slice none 0 0] 57 false vb bs (W.alloc (.cells #[.bool false, .slice none 0 0] 57 (0, 0))) (blk_new W _) (by decide) (by decide) (h5.alloc _))
  have hfin := Aside0.mk (show ∀ e w', impl_exactInt_put.Post W.heap.size #[.bool false, .slice none 0 0] 57 false bs (W.alloc (.cells #[.bool false, .slice none 0 0] 57 (0, 0))) e w' → NewI D W e w' from fun e w' h => by
    have h' := PutI.of_put h5.digs h
    have e : sgn false (val bs) = D := by rw [h7]; rfl
    rw [e] at h'
    exact ⟨_, h'.1, Nat.le_refl _, h'.isI (by decide) (by decide), grown_new h'.2.choose_spec.choose_spec.2.2.2.2⟩)
  have hlen : ((bs.length : Int) == 0) = false := by
    rw [beq_eq_false_iff_ne]; intro h
    have : bs = [] := List.eq_nil_of_length_eq_zero (by omega)
    rw [this] at h7; simp [val] at h7; omega
  obtain ⟨A, c, rfl, hl, -⟩ := h5
  clear h1 h2 h3 h4 h6 h7 h8
  go_enter Tryd.func34, Tryd.ntmps34
  go_wp2_with (first
    | (go_at_call 52; refine hp.out.mono ?_; intro e w2 hq; have he := hq.1; subst he; have HQ := Aside0.mk hq; clear hq))
  go_ret
  exact hfin.out _ _ HQ.out
theorem Dg.of_R {W : World} {base : Nat} {ok : Nat → Prop} {v : Value} {ds : List Int} (h : Kd.R (Kd.int .u32) 94 W base ok v ds) (hd : Digs ds) : Dg W v ds := by
  obtain ⟨A, c, rfl, hl, hC⟩ := Kd.R_reads h
  refine ⟨A, c, rfl, hl, hC, fun ad e => ?_, hd⟩
  obtain ⟨h0, inner, ho, hr⟩ := h
  exact own_typed ho ad.block (by rw [e]; rfl)
theorem grown_of_below {W W' : World} (h : Below W.heap.size W W') : W.grownBy W' none := ⟨h.os, h.tape, h.output, h.size, fun k hk _ => h.block k hk⟩
theorem grown_undrew {W W' : World} {r : Option Nat} (h : W.drew.grownBy W' r) : W.grownBy W' r := ⟨h.os, h.tape, h.output, h.size, h.block⟩
theorem PutI.after {g : Nat} {cs : Array Value} {T : TypeId} {X : Int} {W W1 w' : World} {e : Ending} (hb : Below W.heap.size W W1) (h : PutI g cs T X W1 e w') : PutI g cs T X W e w' := by
  obtain ⟨h0, v, ds, h1, h2, h3, h4, h5⟩ := h
  exact ⟨h0, v, ds, h1, h2, h3, h4, World.grownBy.trans (grown_none (grown_of_below hb) g) h5⟩
end Go.Proofs.YtdgohcdemnmieaaDoor.A

/- Integers of any size: methods that make digits. Mul's loads stand next to the call of mulDigits: go_region_held3. -/
namespace Go.Proofs.YtdgohcdemnmieaaDoor.A
set_option linter.unusedVariables false
set_option linter.unusedSimpArgs false
open Go.RowKit Go.Proofs.YtdgohcdemnmieaaDoorW.PrintWords Go.Proofs.YtdgohcdemnmieaaDoorW.PrintLast Go.Proofs.YtdgohcdemnmieaaDoorW.PrintMore
theorem sgn_mul (X Y : Int) : sgn (decide (X < 0) != decide (Y < 0)) ((X.natAbs : Int) * (Y.natAbs : Int)) = X * Y := by
  unfold sgn
  by_cases a : X < 0 <;> by_cases b : Y < 0
  · rw [show (X.natAbs : Int) = -X by omega, show (Y.natAbs : Int) = -Y by omega, Int.neg_mul_neg]; simp [a, b]
  · rw [show (X.natAbs : Int) = -X by omega, show (Y.natAbs : Int) = Y by omega, Int.neg_mul]; simp [a, b]
  · rw [show (X.natAbs : Int) = X by omega, show (Y.natAbs : Int) = -Y by omega, Int.mul_neg]; simp [a, b]
  · rw [show (X.natAbs : Int) = X by omega, show (Y.natAbs : Int) = Y by omega]; simp [a, b]
set_option maxHeartbeats 1600000 in
set_option maxRecDepth 100000 in
theorem impl_exactInt_Mul.calls (g : Nat) (cs : Array Value) (T : TypeId) (gx gy : Nat) (X Y : Int) (W : World) (hb : W.heap[g]? = some (.cells cs T (0, 0))) (hcs : 2 ≤ cs.size) (hT : T ≠ 94) (hx : IsI W gx X) (hy : IsI W gy Y) (nx : gx ≠ g) (ny : gy ≠ g)
    (hm : ∀ xs ys, Digs xs → Digs ys → val xs = (X.natAbs : Int) → val ys = (Y.natAbs : Int) → Can xs → Can ys → ∃ k r, impl_mulDigits.f k xs ys = some r ∧ Digs r ∧ val r = val xs * val ys) :
    Calls Tryd.prog 40 #[.pointer (some ⟨g, 0, none⟩), .pointer (some ⟨gx, 0, none⟩), .pointer (some ⟨gy, 0, none⟩)] W (PutI g cs T (X * Y) W) := by
  obtain ⟨xs, S, v, ds, x1, x2, x3, x4, x5, x6, x7, x8⟩ := hx
  obtain ⟨ys, S', v', es, y1, y2, y3, y4, y5, y6, y7, y8⟩ := hy
  obtain ⟨k, r, hf, hr, hv⟩ := hm ds es x6.digs y6.digs x8 y8 x7 y7
  have hc0 : W.cell? ⟨gx, 0, none⟩ = some (.bool (decide (X < 0))) := (blk_cell x1 0).trans x4
  have hc1 : W.cell? ⟨gx, 1, none⟩ = some v := (blk_cell x1 1).trans x5
  have hd0 : W.cell? ⟨gy, 0, none⟩ = some (.bool (decide (Y < 0))) := (blk_cell y1 0).trans y4
  have hd1 : W.cell? ⟨gy, 1, none⟩ = some v' := (blk_cell y1 1).trans y5
  obtain ⟨A, c, rfl, al, aC, _⟩ := x6
  obtain ⟨A', c', rfl, al', aC', _⟩ := y6
  have hs : sgn (decide (X < 0) != decide (Y < 0)) (val r) = X * Y := by
    rw [hv, x8, y8]; exact sgn_mul X Y
  have hq := Aside0.mk (show ∀ W1 : World, Below W.heap.size W W1 → Calls Tryd.prog 56 #[.slice A ds.length c, .slice A' es.length c'] W1 fun e w' => ∃ v0_ : Value, e = .returned v0_ ∧ Kd.R (Kd.int .u32) 94 w' W1.heap.size (fun _ => True) v0_ r ∧ Below W1.heap.size W1 w' from fun W1 hB => impl_mulDigits.calls k A c ds A' c' es r W1 (Kd.C_below aC hB) al (Kd.C_below aC' hB) al' hf)
  have hp := Aside0.mk (show ∀ (w1 : World) (v0 : Value), Dg w1 v0 r → Below W.heap.size W w1 → Calls Tryd.prog 52 #[.pointer (some ⟨g, 0, none⟩), .bool (decide (X < 0) != decide (Y < 0)), v0] w1 (PutI g cs T (X * Y) W) from fun w1 v0 hR hB => by
    refine (impl_exactInt_put.calls g cs T _ v0 r w1 (blk_below hb hB) hcs hT hR).mono fun e w' h => ?_
    have := PutI.of_put hr h
    rw [hs] at this
    exact PutI.after hB this)
  have HDr := Aside0.mk hr
  have HB0 := Aside0.mk (Below.refl W.heap.size W)
  clear x1 x2 x3 x4 x5 x7 x8 y1 y2 y3 y4 y5 y7 y8 hb hT hcs hm hr hv hf aC aC' hs
  go_enter Tryd.func40, Tryd.ntmps40
  go_wp2
  go_region_held3 (fun w' => w'.cell? ⟨gx, 0, none⟩ = some (.bool (decide (X < 0))) ∧ w'.cell? ⟨gx, 1, none⟩ = some (.slice A ds.length c) ∧ w'.cell? ⟨gy, 0, none⟩ = some (.bool (decide (Y < 0))) ∧ w'.cell? ⟨gy, 1, none⟩ = some (.slice A' es.length c'))
    (first
      | exact ⟨HQG.out.cell hc0 (by simpa using nx), HQG.out.cell hc1 (by simpa using nx), HQG.out.cell hd0 (by simpa using ny), HQG.out.cell hd1 (by simpa using ny)⟩
      | exact ⟨(HBW.out.cell (World.block_lt_of_cell? W _ hc0)).trans hc0, (HBW.out.cell (World.block_lt_of_cell? W _ hc1)).trans hc1, (HBW.out.cell (World.block_lt_of_cell? W _ hd0)).trans hd0, (HBW.out.cell (World.block_lt_of_cell? W _ hd1)).trans hd1⟩
      | exact ⟨hc0, hc1, hd0, hd1⟩
      | go_keep)
    (first
      | (go_at_call 56; refine (hq.out W.drew (below_drew (Below.refl W.heap.size W))).mono ?_; rintro e w1 ⟨v0, rfl, hR, hB⟩; have HBW := Aside0.mk (below_then (below_drew (Below.refl W.heap.size W)) (Nat.le_refl _) hB); have HD := Aside0.mk (Dg.of_R hR HDr.out); clear hR hB)
      | (go_at_call 52; refine (hp.out w1 v0 HD.out HBW.out).mono ?_; intro e w2 hq2; have he := hq2.1; subst he; have HQG := Aside0.mk hq2.2.choose_spec.choose_spec.2.2.2.2; have HQ := Aside0.mk hq2; clear hq2))
  try go_wp2
  go_ret
  exact HQ.out
def sign (X : Int) : Int := if X < 0 then -1 else if 0 < X then 1 else 0
theorem can_nil {ds : List Int} (h : Can ds) : ds.length = 0 ↔ val ds = 0 := by
  constructor
  · intro h0; rw [List.eq_nil_of_length_eq_zero h0]; rfl
  · intro h0
    rcases Nat.eq_zero_or_pos ds.length with h1 | h1
    · exact h1
    · have := can_pos ds h (by intro h2; rw [h2] at h1; simp at h1); omega
set_option maxHeartbeats 1600000 in
set_option maxRecDepth 100000 in
theorem impl_exactInt_Sign.calls (g : Nat) (X : Int) (W : World) (hx : IsI W g X) :
    Calls Tryd.prog 62 #[.pointer (some ⟨g, 0, none⟩)] W (fun e w' => e = .returned (.int .i64 (sign X)) ∧ Drawn0 W w') := by
  obtain ⟨xs, S, v, ds, x1, x2, x3, x4, x5, x6, x7, x8⟩ := hx
  have hc0 : W.cell? ⟨g, 0, none⟩ = some (.bool (decide (X < 0))) := (blk_cell x1 0).trans x4
  have hc1 : W.cell? ⟨g, 1, none⟩ = some v := (blk_cell x1 1).trans x5
  have hn := can_nil x7
  obtain ⟨A, c, rfl, al, aC, _⟩ := x6
  clear x1 x2 x3 x4 x5 x7
  by_cases a : X < 0
  · rw [decide_eq_true a] at hc0
    have hs : sign X = -1 := if_pos a
    rw [hs]
    clear hn al aC hs x8 a
    go_enter Tryd.func62, Tryd.ntmps62
    go_wp2
    go_ret
    exact ⟨by first | rfl | (simp; done), by first | exact ⟨0, rfl⟩ | exact Drawn0.refl _ | exact ⟨0, by simp⟩⟩
  · rw [decide_eq_false a] at hc0
    by_cases b : 0 < X
    · have hs : sign X = 1 := by unfold sign; rw [if_neg a, if_pos b]
      have hl : decide (0 < (ds.length : Int)) = true := decide_eq_true (by omega)
      have hl2 : decide (0 < ds.length) = true := decide_eq_true (by omega)
      rw [hs]
      clear hn al aC hs x8 a b
      go_enter Tryd.func62, Tryd.ntmps62
      go_wp2
      go_ret
      exact ⟨by first | rfl | (simp; done), by first | exact ⟨0, rfl⟩ | exact Drawn0.refl _ | exact ⟨0, by simp⟩⟩
    · have hs : sign X = 0 := by unfold sign; rw [if_neg a, if_neg b]
      have hl : decide (0 < (ds.length : Int)) = false := decide_eq_false (by omega)
      have hl2 : decide (0 < ds.length) = false := decide_eq_false (by omega)
      rw [hs]
      clear hn al aC hs x8 a b
      go_enter Tryd.func62, Tryd.ntmps62
      go_wp2
      go_ret
      exact ⟨by first | rfl | (simp; done), by first | exact ⟨0, rfl⟩ | exact Drawn0.refl _ | exact ⟨0, by simp⟩⟩
theorem digs_two (m : Int) (h0 : 0 ≤ m) (h1 : m < 18446744073709551616) : Digs [m % 4294967296, m / 4294967296 % 4294967296] ∧ val [m % 4294967296, m / 4294967296 % 4294967296] = m := by
  refine ⟨fun x hx => ?_, ?_⟩
  · simp only [List.mem_cons, List.not_mem_nil, or_false] at hx
    rcases hx with rfl | rfl <;> omega
  · simp only [val]; omega
theorem Dg.lit2 {W : World} {b : Nat} {d0 d1 : Int} (h : W.heap[b]? = some (.cells #[.int .u32 d0, .int .u32 d1] 94 (0, 0))) (hd : Digs [d0, d1]) : Dg W (.slice (some ⟨b, 0, none⟩) 2 2) [d0, d1] := by
  refine ⟨some ⟨b, 0, none⟩, 2, rfl, Nat.le_refl _, ⟨rfl, by simp, fun _ => ⟨⟨b, 0, none⟩, rfl, fun j p hj => ?_⟩⟩, fun ad e => ?_, hd⟩
  · have hc := blk_cell h
    match j, hj with
    | 0, hj =>
      simp only [List.getElem?_cons_zero, Option.some.injEq] at hj; subst hj
      refine ⟨[.int .u32 d0], rfl, rfl, fun i u hu => ?_⟩
      match i, hu with
      | 0, hu => simp at hu; subst hu; exact (hc 0).trans rfl
    | 1, hj =>
      simp only [List.getElem?_cons_succ, List.getElem?_cons_zero, Option.some.injEq] at hj; subst hj
      refine ⟨[.int .u32 d1], rfl, rfl, fun i u hu => ?_⟩
      match i, hu with
      | 0, hu => simp at hu; subst hu; exact (hc 1).trans rfl
    | j + 2, hj => simp at hj
  · injection e with e; subst e; exact ⟨_, h⟩
set_option maxHeartbeats 1600000 in
set_option maxRecDepth 100000 in
theorem impl_newInt.calls (n : Int) (W : World) (h0 : -9223372036854775808 ≤ n) (h1 : n ≤ 9223372036854775807) :
    Calls Tryd.prog 37 #[.int .i64 n] W (NewI n W) := by
  by_cases c : n < 0
  · have hw : IntKind.u64.wrap (-IntKind.u64.wrap n) = (n.natAbs : Int) := by simp [IntKind.wrap, IntKind.bits, IntKind.signed]; omega
    have hd := digs_two (IntKind.u64.wrap (-IntKind.u64.wrap n)) (by rw [hw]; omega) (by rw [hw]; omega)
    have hp := Aside0.mk (impl_exactInt_put.calls W.heap.size #[.bool false, .slice none 0 0] 57 true (.slice (some ⟨W.heap.size + 1, 0, none⟩) 2 2) [IntKind.u64.wrap (-IntKind.u64.wrap n) % 4294967296, IntKind.u64.wrap (-IntKind.u64.wrap n) / 4294967296 % 4294967296] ((W.alloc (.cells #[.bool false, .slice none 0 0] 57 (0, 0))).alloc (.cells #[.int .u32 (IntKind.u64.wrap (-IntKind.u64.wrap n) % 4294967296), .int .u32 (IntKind.u64.wrap (-IntKind.u64.wrap n) / 4294967296 % 4294967296)] 94 (0, 0))) (blk_alloc (blk_new W _) _) (by decide) (by decide) (Dg.lit2 (by have := blk_new (W.alloc (.cells #[.bool false, .slice none 0 0] 57 (0, 0))) (.cells #[.int .u32 (IntKind.u64.wrap (-IntKind.u64.wrap n) % 4294967296), .int .u32 (IntKind.u64.wrap (-IntKind.u64.wrap n) / 4294967296 % 4294967296)] 94 (0, 0)); simpa using this) hd.1))
    have hfin := Aside0.mk (show ∀ e w', impl_exactInt_put.Post W.heap.size #[.bool false, .slice none 0 0] 57 true [IntKind.u64.wrap (-IntKind.u64.wrap n) % 4294967296, IntKind.u64.wrap (-IntKind.u64.wrap n) / 4294967296 % 4294967296] ((W.alloc (.cells #[.bool false, .slice none 0 0] 57 (0, 0))).alloc (.cells #[.int .u32 (IntKind.u64.wrap (-IntKind.u64.wrap n) % 4294967296), .int .u32 (IntKind.u64.wrap (-IntKind.u64.wrap n) / 4294967296 % 4294967296)] 94 (0, 0))) e w' → NewI n W e w' from fun e w' h => by
      have h' := PutI.of_put hd.1 h
      have e : sgn true (val [IntKind.u64.wrap (-IntKind.u64.wrap n) % 4294967296, IntKind.u64.wrap (-IntKind.u64.wrap n) / 4294967296 % 4294967296]) = n := by rw [hd.2, hw]; unfold sgn; simp; omega
      rw [e] at h'
      exact ⟨_, h'.1, Nat.le_refl _, h'.isI (by decide) (by decide), grown_new (World.grownBy.trans (World.grownBy_alloc _ _ _) h'.2.choose_spec.choose_spec.2.2.2.2)⟩)
    have d : decide (n < 0) = true := decide_eq_true (by omega)
    clear hw hd
    go_enter Tryd.func37, Tryd.ntmps37
    go_wp2_with (first
      | (go_at_call 52; refine hp.out.mono ?_; intro e w2 hq; have he := hq.1; subst he; have HQ := Aside0.mk hq; clear hq))
    go_ret
    exact hfin.out _ _ HQ.out
  · have hw : n = (n.natAbs : Int) := by omega
    have hd : Digs [n % 4294967296, n / 4294967296] ∧ val [n % 4294967296, n / 4294967296] = n := by
      have := digs_two n (by omega) (by omega)
      rw [show n / 4294967296 % 4294967296 = n / 4294967296 by omega] at this; exact this
    have hp := Aside0.mk (impl_exactInt_put.calls W.heap.size #[.bool false, .slice none 0 0] 57 false (.slice (some ⟨W.heap.size + 1, 0, none⟩) 2 2) [n % 4294967296, n / 4294967296] ((W.alloc (.cells #[.bool false, .slice none 0 0] 57 (0, 0))).alloc (.cells #[.int .u32 (n % 4294967296), .int .u32 (n / 4294967296)] 94 (0, 0))) (blk_alloc (blk_new W _) _) (by decide) (by decide) (Dg.lit2 (by have := blk_new (W.alloc (.cells #[.bool false, .slice none 0 0] 57 (0, 0))) (.cells #[.int .u32 (n % 4294967296), .int .u32 (n / 4294967296)] 94 (0, 0)); simpa using this) hd.1))
    have hfin := Aside0.mk (show ∀ e w', impl_exactInt_put.Post W.heap.size #[.bool false, .slice none 0 0] 57 false [n % 4294967296, n / 4294967296] ((W.alloc (.cells #[.bool false, .slice none 0 0] 57 (0, 0))).alloc (.cells #[.int .u32 (n % 4294967296), .int .u32 (n / 4294967296)] 94 (0, 0))) e w' → NewI n W e w' from fun e w' h => by
      have h' := PutI.of_put hd.1 h
      have e : sgn false (val [n % 4294967296, n / 4294967296]) = n := by rw [hd.2]; unfold sgn; simp
      rw [e] at h'
      exact ⟨_, h'.1, Nat.le_refl _, h'.isI (by decide) (by decide), grown_new (World.grownBy.trans (World.grownBy_alloc _ _ _) h'.2.choose_spec.choose_spec.2.2.2.2)⟩)
    have d : decide (n < 0) = false := decide_eq_false (by omega)
    clear hw hd
    go_enter Tryd.func37, Tryd.ntmps37
    go_wp2_with (first
      | (go_at_call 52; refine hp.out.mono ?_; intro e w2 hq; have he := hq.1; subst he; have HQ := Aside0.mk hq; clear hq))
    go_ret
    exact hfin.out _ _ HQ.out
end Go.Proofs.YtdgohcdemnmieaaDoor.A

/- Integers of any size: sums, differences, the order. Conditions: integers of at most 100 digits of 32 bits. -/
namespace Go.Proofs.YtdgohcdemnmieaaDoor.A
set_option linter.unusedVariables false
set_option linter.unusedSimpArgs false
open Go.RowKit Go.Proofs.YtdgohcdemnmieaaDoorW.PrintWords Go.Proofs.YtdgohcdemnmieaaDoorW.PrintLast Go.Proofs.YtdgohcdemnmieaaDoorW.PrintMore
/-- Integers of at most 100 digits. -/
def Fits (X : Int) : Prop := (X.natAbs : Int) < 4294967296 ^ 100
theorem fits_len {X : Int} {ds : List Int} (h : Fits X) (hc : Can ds) (hv : val ds = (X.natAbs : Int)) : ds.length ≤ 100 := can_len hc (by rw [hv]; exact h)
theorem impl_exactInt_Mul.law (g : Nat) (cs : Array Value) (T : TypeId) (gx gy : Nat) (X Y : Int) (W : World) (hb : W.heap[g]? = some (.cells cs T (0, 0))) (hcs : 2 ≤ cs.size) (hT : T ≠ 94) (hx : IsI W gx X) (hy : IsI W gy Y) (nx : gx ≠ g) (ny : gy ≠ g) (fx : Fits X) (fy : Fits Y) :
    Calls Tryd.prog 40 #[.pointer (some ⟨g, 0, none⟩), .pointer (some ⟨gx, 0, none⟩), .pointer (some ⟨gy, 0, none⟩)] W (PutI g cs T (X * Y) W) :=
  impl_exactInt_Mul.calls g cs T gx gy X Y W hb hcs hT hx hy nx ny (fun xs ys h1 h2 h3 h4 h5 h6 => mulDigits_eq xs ys h1 h2 (by have := fits_len fx h5 h3; omega) (by have := fits_len fy h6 h4; omega))
theorem sgn_same {X Y : Int} (h : decide (X < 0) = decide (Y < 0)) : sgn (decide (X < 0)) ((X.natAbs : Int) + (Y.natAbs : Int)) = X + Y := by
  unfold sgn
  by_cases a : X < 0 <;> by_cases b : Y < 0 <;> simp [a, b] at h ⊢ <;> omega
theorem sgn_less {X Y : Int} (h : decide (X < 0) ≠ decide (Y < 0)) (hle : (Y.natAbs : Int) ≤ (X.natAbs : Int)) : sgn (decide (X < 0)) ((X.natAbs : Int) - (Y.natAbs : Int)) = X + Y := by
  unfold sgn
  by_cases a : X < 0 <;> by_cases b : Y < 0 <;> simp [a, b] at h ⊢ <;> omega
set_option maxHeartbeats 1600000 in
set_option maxRecDepth 100000 in
theorem impl_exactInt_Add.same (g : Nat) (cs : Array Value) (T : TypeId) (gx gy : Nat) (X Y : Int) (W : World) (hb : W.heap[g]? = some (.cells cs T (0, 0))) (hcs : 2 ≤ cs.size) (hT : T ≠ 94) (hx : IsI W gx X) (hy : IsI W gy Y) (nx : gx ≠ g) (ny : gy ≠ g) (fx : Fits X) (fy : Fits Y) (hsame : decide (X < 0) = decide (Y < 0)) :
    Calls Tryd.prog 67 #[.pointer (some ⟨g, 0, none⟩), .pointer (some ⟨gx, 0, none⟩), .pointer (some ⟨gy, 0, none⟩)] W (PutI g cs T (X + Y) W) := by
  obtain ⟨xs, S, v, ds, x1, x2, x3, x4, x5, x6, x7, x8⟩ := hx
  obtain ⟨ys, S', v', es, y1, y2, y3, y4, y5, y6, y7, y8⟩ := hy
  obtain ⟨k, r, hf, hr, hv⟩ := addDigits_eq ds es x6.digs y6.digs (by have := fits_len fx x7 x8; omega) (by have := fits_len fy y7 y8; omega)
  have hc0 : W.cell? ⟨gx, 0, none⟩ = some (.bool (decide (X < 0))) := (blk_cell x1 0).trans x4
  have hc1 : W.cell? ⟨gx, 1, none⟩ = some v := (blk_cell x1 1).trans x5
  have hd0 : W.cell? ⟨gy, 0, none⟩ = some (.bool (decide (Y < 0))) := (blk_cell y1 0).trans y4
  have hd1 : W.cell? ⟨gy, 1, none⟩ = some v' := (blk_cell y1 1).trans y5
  obtain ⟨A, c, rfl, al, aC, _⟩ := x6
  obtain ⟨A', c', rfl, al', aC', _⟩ := y6
  have hs : sgn (decide (X < 0)) (val r) = X + Y := by
    rw [hv, x8, y8]; exact sgn_same hsame
  have hq := Aside0.mk (show ∀ W1 : World, Below W.heap.size W W1 → Calls Tryd.prog 72 #[.slice A ds.length c, .slice A' es.length c'] W1 fun e w' => ∃ v0_ : Value, e = .returned v0_ ∧ Kd.R (Kd.int .u32) 94 w' W1.heap.size (fun _ => True) v0_ r ∧ Below W1.heap.size W1 w' from fun W1 hB => impl_addDigits.calls k A c ds A' c' es r W1 (Kd.C_below aC hB) al (Kd.C_below aC' hB) al' hf)
  have hp := Aside0.mk (show ∀ (w1 : World) (v0 : Value), Dg w1 v0 r → Below W.heap.size W w1 → Calls Tryd.prog 52 #[.pointer (some ⟨g, 0, none⟩), .bool (decide (X < 0)), v0] w1 (PutI g cs T (X + Y) W) from fun w1 v0 hR hB => by
    refine (impl_exactInt_put.calls g cs T _ v0 r w1 (blk_below hb hB) hcs hT hR).mono fun e w' h => ?_
    have := PutI.of_put hr h
    rw [hs] at this
    exact PutI.after hB this)
  have HDr := Aside0.mk hr
  have hsm : (decide (X < 0) == decide (Y < 0)) = true := by rw [hsame]; exact beq_self_eq_true _
  clear x1 x2 x3 x4 x5 x7 x8 y1 y2 y3 y4 y5 y7 y8 hb hT hcs hr hv hf aC aC' hs fx fy hsame
  go_enter Tryd.func67, Tryd.ntmps67
  go_wp2
  go_quiet (fail)
  go_wp2
  go_region_held3 (fun w' => w'.cell? ⟨gx, 0, none⟩ = some (.bool (decide (X < 0))) ∧ w'.cell? ⟨gx, 1, none⟩ = some (.slice A ds.length c) ∧ w'.cell? ⟨gy, 1, none⟩ = some (.slice A' es.length c'))
    (first
      | exact ⟨HQG.out.cell hc0 (by simpa using nx), HQG.out.cell hc1 (by simpa using nx), HQG.out.cell hd1 (by simpa using ny)⟩
      | exact ⟨(HBW.out.cell (World.block_lt_of_cell? W _ hc0)).trans hc0, (HBW.out.cell (World.block_lt_of_cell? W _ hc1)).trans hc1, (HBW.out.cell (World.block_lt_of_cell? W _ hd1)).trans hd1⟩
      | exact ⟨hc0, hc1, hd1⟩
      | go_keep)
    (first
      | (go_at_call 72; refine (hq.out _ (below_drew (pw_below_drewN (Below.refl W.heap.size W) _))).mono ?_; rintro e w1 ⟨v0, rfl, hR, hB⟩; have HBW := Aside0.mk (below_then (below_drew (pw_below_drewN (Below.refl W.heap.size W) _)) (Nat.le_refl _) hB); have HD := Aside0.mk (Dg.of_R hR HDr.out); clear hR hB)
      | (go_at_call 52; refine (hp.out w1 v0 HD.out HBW.out).mono ?_; intro e w2 hq2; have he := hq2.1; subst he; have HQG := Aside0.mk hq2.2.choose_spec.choose_spec.2.2.2.2; have HQ := Aside0.mk hq2; clear hq2))
  try go_wp2
  go_ret
  exact HQ.out
set_option maxHeartbeats 1600000 in
set_option maxRecDepth 100000 in
theorem impl_exactInt_Add.more (g : Nat) (cs : Array Value) (T : TypeId) (gx gy : Nat) (X Y : Int) (W : World) (hb : W.heap[g]? = some (.cells cs T (0, 0))) (hcs : 2 ≤ cs.size) (hT : T ≠ 94) (hx : IsI W gx X) (hy : IsI W gy Y) (nx : gx ≠ g) (ny : gy ≠ g) (fx : Fits X) (fy : Fits Y) (hdiff : decide (X < 0) ≠ decide (Y < 0)) (hle : (Y.natAbs : Int) ≤ (X.natAbs : Int)) :
    Calls Tryd.prog 67 #[.pointer (some ⟨g, 0, none⟩), .pointer (some ⟨gx, 0, none⟩), .pointer (some ⟨gy, 0, none⟩)] W (PutI g cs T (X + Y) W) := by
  obtain ⟨xs, S, v, ds, x1, x2, x3, x4, x5, x6, x7, x8⟩ := hx
  obtain ⟨ys, S', v', es, y1, y2, y3, y4, y5, y6, y7, y8⟩ := hy
  obtain ⟨k, r, hf, hr, hv⟩ := subDigits_eq ds es x6.digs y7 (by have := fits_len fx x7 x8; omega) (by rw [x8, y8]; exact hle)
  obtain ⟨kc, rc, hfc, hrc⟩ := compareDigits_eq ds es x7 y7 (by have := fits_len fx x7 x8; omega) (by have := fits_len fy y7 y8; omega)
  have hge : decide (0 ≤ rc) = true := by rw [x8, y8] at hrc; exact decide_eq_true (hrc.2 hle)
  have hc0 : W.cell? ⟨gx, 0, none⟩ = some (.bool (decide (X < 0))) := (blk_cell x1 0).trans x4
  have hc1 : W.cell? ⟨gx, 1, none⟩ = some v := (blk_cell x1 1).trans x5
  have hd0 : W.cell? ⟨gy, 0, none⟩ = some (.bool (decide (Y < 0))) := (blk_cell y1 0).trans y4
  have hd1 : W.cell? ⟨gy, 1, none⟩ = some v' := (blk_cell y1 1).trans y5
  obtain ⟨A, c, rfl, al, aC, _⟩ := x6
  obtain ⟨A', c', rfl, al', aC', _⟩ := y6
  have hs : sgn (decide (X < 0)) (val r) = X + Y := by
    rw [hv, x8, y8]; exact sgn_less hdiff hle
  have hq := Aside0.mk (show ∀ W1 : World, Below W.heap.size W W1 → Calls Tryd.prog 74 #[.slice A ds.length c, .slice A' es.length c'] W1 fun e w' => ∃ v0_ : Value, e = .returned v0_ ∧ Kd.R (Kd.int .u32) 94 w' W1.heap.size (fun _ => True) v0_ r ∧ Below W1.heap.size W1 w' from fun W1 hB => impl_subDigits.calls k A c ds A' c' es r W1 (Kd.C_below aC hB) al (Kd.C_below aC' hB) al' hf)
  have hqc := Aside0.mk (show ∀ W1 : World, Below W.heap.size W W1 → Calls Tryd.prog 73 #[.slice A ds.length c, .slice A' es.length c'] W1 fun e w' => e = .returned (.int .i64 rc) ∧ Below W1.heap.size W1 w' from fun W1 hB => impl_compareDigits.calls kc A c ds A' c' es rc W1 (Kd.C_below aC hB) al (Kd.C_below aC' hB) al' hfc)
  have hp := Aside0.mk (show ∀ (w1 : World) (v0 : Value), Dg w1 v0 r → Below W.heap.size W w1 → Calls Tryd.prog 52 #[.pointer (some ⟨g, 0, none⟩), .bool (decide (X < 0)), v0] w1 (PutI g cs T (X + Y) W) from fun w1 v0 hR hB => by
    refine (impl_exactInt_put.calls g cs T _ v0 r w1 (blk_below hb hB) hcs hT hR).mono fun e w' h => ?_
    have := PutI.of_put hr h
    rw [hs] at this
    exact PutI.after hB this)
  have HDr := Aside0.mk hr
  have hsm : (decide (X < 0) == decide (Y < 0)) = false := beq_eq_false_iff_ne.2 hdiff
  clear x1 x2 x3 x4 x5 x7 x8 y1 y2 y3 y4 y5 y7 y8 hb hT hcs hr hv hf hfc hrc aC aC' hs fx fy hdiff hle
  go_enter Tryd.func67, Tryd.ntmps67
  go_wp2
  go_quiet (fail)
  go_wp2
  go_region_held3 (fun w' => w'.cell? ⟨gx, 1, none⟩ = some (.slice A ds.length c) ∧ w'.cell? ⟨gy, 1, none⟩ = some (.slice A' es.length c'))
    (first
      | exact ⟨(HBC.out.cell (World.block_lt_of_cell? W _ hc1)).trans hc1, (HBC.out.cell (World.block_lt_of_cell? W _ hd1)).trans hd1⟩
      | exact ⟨hc1, hd1⟩
      | go_keep)
    (first
      | (go_at_call 73; refine (hqc.out _ (below_drew (pw_below_drewN (Below.refl W.heap.size W) _))).mono ?_; rintro e w0 ⟨rfl, hB⟩; have HBC := Aside0.mk (below_then (below_drew (pw_below_drewN (Below.refl W.heap.size W) _)) (Nat.le_refl _) hB); clear hB))
  have hc0' := (HBC.out.cell (World.block_lt_of_cell? W _ hc0)).trans hc0
  have hc1' := (HBC.out.cell (World.block_lt_of_cell? W _ hc1)).trans hc1
  have hd1' := (HBC.out.cell (World.block_lt_of_cell? W _ hd1)).trans hd1
  go_wp2
  go_region_held3 (fun w' => w'.cell? ⟨gx, 0, none⟩ = some (.bool (decide (X < 0))) ∧ w'.cell? ⟨gx, 1, none⟩ = some (.slice A ds.length c) ∧ w'.cell? ⟨gy, 1, none⟩ = some (.slice A' es.length c'))
    (first
      | exact ⟨HQG.out.cell hc0 (by simpa using nx), HQG.out.cell hc1 (by simpa using nx), HQG.out.cell hd1 (by simpa using ny)⟩
      | exact ⟨(HBW.out.cell (World.block_lt_of_cell? W _ hc0)).trans hc0, (HBW.out.cell (World.block_lt_of_cell? W _ hc1)).trans hc1, (HBW.out.cell (World.block_lt_of_cell? W _ hd1)).trans hd1⟩
      | exact ⟨hc0', hc1', hd1'⟩
      | go_keep)
    (first
      | (go_at_call 74; refine (hq.out _ (below_drew HBC.out)).mono ?_; rintro e w1 ⟨v0, rfl, hR, hB⟩; have HBW := Aside0.mk (below_step (below_drew HBC.out) hB); have HD := Aside0.mk (Dg.of_R hR HDr.out); clear hR hB)
      | (go_at_call 52; refine (hp.out w1 v0 HD.out HBW.out).mono ?_; intro e w2 hq2; have he := hq2.1; subst he; have HQG := Aside0.mk hq2.2.choose_spec.choose_spec.2.2.2.2; have HQ := Aside0.mk hq2; clear hq2))
  try go_wp2
  go_ret
  exact HQ.out
set_option maxHeartbeats 1600000 in
set_option maxRecDepth 100000 in
theorem impl_exactInt_Add.less (g : Nat) (cs : Array Value) (T : TypeId) (gx gy : Nat) (X Y : Int) (W : World) (hb : W.heap[g]? = some (.cells cs T (0, 0))) (hcs : 2 ≤ cs.size) (hT : T ≠ 94) (hx : IsI W gx X) (hy : IsI W gy Y) (nx : gx ≠ g) (ny : gy ≠ g) (fx : Fits X) (fy : Fits Y) (hdiff : decide (X < 0) ≠ decide (Y < 0)) (hle : (X.natAbs : Int) < (Y.natAbs : Int)) :
    Calls Tryd.prog 67 #[.pointer (some ⟨g, 0, none⟩), .pointer (some ⟨gx, 0, none⟩), .pointer (some ⟨gy, 0, none⟩)] W (PutI g cs T (X + Y) W) := by
  obtain ⟨xs, S, v, ds, x1, x2, x3, x4, x5, x6, x7, x8⟩ := hx
  obtain ⟨ys, S', v', es, y1, y2, y3, y4, y5, y6, y7, y8⟩ := hy
  obtain ⟨k, r, hf, hr, hv⟩ := subDigits_eq es ds y6.digs x7 (by have := fits_len fy y7 y8; omega) (by rw [x8, y8]; exact Int.le_of_lt hle)
  obtain ⟨kc, rc, hfc, hrc⟩ := compareDigits_eq ds es x7 y7 (by have := fits_len fx x7 x8; omega) (by have := fits_len fy y7 y8; omega)
  have hge : decide (0 ≤ rc) = false := by rw [x8, y8] at hrc; exact decide_eq_false (fun h => absurd (hrc.1 h) (by omega))
  have hc0 : W.cell? ⟨gx, 0, none⟩ = some (.bool (decide (X < 0))) := (blk_cell x1 0).trans x4
  have hc1 : W.cell? ⟨gx, 1, none⟩ = some v := (blk_cell x1 1).trans x5
  have hd0 : W.cell? ⟨gy, 0, none⟩ = some (.bool (decide (Y < 0))) := (blk_cell y1 0).trans y4
  have hd1 : W.cell? ⟨gy, 1, none⟩ = some v' := (blk_cell y1 1).trans y5
  obtain ⟨A, c, rfl, al, aC, _⟩ := x6
  obtain ⟨A', c', rfl, al', aC', _⟩ := y6
  have hs : sgn (decide (Y < 0)) (val r) = X + Y := by
    rw [hv, x8, y8, Int.add_comm X Y]; exact sgn_less (fun h => hdiff h.symm) (Int.le_of_lt hle)
  have hq := Aside0.mk (show ∀ W1 : World, Below W.heap.size W W1 → Calls Tryd.prog 74 #[.slice A' es.length c', .slice A ds.length c] W1 fun e w' => ∃ v0_ : Value, e = .returned v0_ ∧ Kd.R (Kd.int .u32) 94 w' W1.heap.size (fun _ => True) v0_ r ∧ Below W1.heap.size W1 w' from fun W1 hB => impl_subDigits.calls k A' c' es A c ds r W1 (Kd.C_below aC' hB) al' (Kd.C_below aC hB) al hf)
  have hqc := Aside0.mk (show ∀ W1 : World, Below W.heap.size W W1 → Calls Tryd.prog 73 #[.slice A ds.length c, .slice A' es.length c'] W1 fun e w' => e = .returned (.int .i64 rc) ∧ Below W1.heap.size W1 w' from fun W1 hB => impl_compareDigits.calls kc A c ds A' c' es rc W1 (Kd.C_below aC hB) al (Kd.C_below aC' hB) al' hfc)
  have hp := Aside0.mk (show ∀ (w1 : World) (v0 : Value), Dg w1 v0 r → Below W.heap.size W w1 → Calls Tryd.prog 52 #[.pointer (some ⟨g, 0, none⟩), .bool (decide (Y < 0)), v0] w1 (PutI g cs T (X + Y) W) from fun w1 v0 hR hB => by
    refine (impl_exactInt_put.calls g cs T _ v0 r w1 (blk_below hb hB) hcs hT hR).mono fun e w' h => ?_
    have := PutI.of_put hr h
    rw [hs] at this
    exact PutI.after hB this)
  have HDr := Aside0.mk hr
  have hsm : (decide (X < 0) == decide (Y < 0)) = false := beq_eq_false_iff_ne.2 hdiff
  clear x1 x2 x3 x4 x5 x7 x8 y1 y2 y3 y4 y5 y7 y8 hb hT hcs hr hv hf hfc hrc aC aC' hs fx fy hdiff hle
  go_enter Tryd.func67, Tryd.ntmps67
  go_wp2
  go_quiet (fail)
  go_wp2
  go_region_held3 (fun w' => w'.cell? ⟨gx, 1, none⟩ = some (.slice A ds.length c) ∧ w'.cell? ⟨gy, 1, none⟩ = some (.slice A' es.length c'))
    (first
      | exact ⟨(HBC.out.cell (World.block_lt_of_cell? W _ hc1)).trans hc1, (HBC.out.cell (World.block_lt_of_cell? W _ hd1)).trans hd1⟩
      | exact ⟨hc1, hd1⟩
      | go_keep)
    (first
      | (go_at_call 73; refine (hqc.out _ (below_drew (pw_below_drewN (Below.refl W.heap.size W) _))).mono ?_; rintro e w0 ⟨rfl, hB⟩; have HBC := Aside0.mk (below_then (below_drew (pw_below_drewN (Below.refl W.heap.size W) _)) (Nat.le_refl _) hB); clear hB))
  have hc0' := (HBC.out.cell (World.block_lt_of_cell? W _ hd0)).trans hd0
  have hc1' := (HBC.out.cell (World.block_lt_of_cell? W _ hc1)).trans hc1
  have hd1' := (HBC.out.cell (World.block_lt_of_cell? W _ hd1)).trans hd1
  go_wp2
  go_region_held3 (fun w' => w'.cell? ⟨gy, 0, none⟩ = some (.bool (decide (Y < 0))) ∧ w'.cell? ⟨gx, 1, none⟩ = some (.slice A ds.length c) ∧ w'.cell? ⟨gy, 1, none⟩ = some (.slice A' es.length c'))
    (first
      | exact ⟨HQG.out.cell hd0 (by simpa using ny), HQG.out.cell hc1 (by simpa using nx), HQG.out.cell hd1 (by simpa using ny)⟩
      | exact ⟨(HBW.out.cell (World.block_lt_of_cell? W _ hd0)).trans hd0, (HBW.out.cell (World.block_lt_of_cell? W _ hc1)).trans hc1, (HBW.out.cell (World.block_lt_of_cell? W _ hd1)).trans hd1⟩
      | exact ⟨hc0', hc1', hd1'⟩
      | go_keep)
    (first
      | (go_at_call 74; refine (hq.out _ (below_drew HBC.out)).mono ?_; rintro e w1 ⟨v0, rfl, hR, hB⟩; have HBW := Aside0.mk (below_step (below_drew HBC.out) hB); have HD := Aside0.mk (Dg.of_R hR HDr.out); clear hR hB)
      | (go_at_call 52; refine (hp.out w1 v0 HD.out HBW.out).mono ?_; intro e w2 hq2; have he := hq2.1; subst he; have HQG := Aside0.mk hq2.2.choose_spec.choose_spec.2.2.2.2; have HQ := Aside0.mk hq2; clear hq2))
  try go_wp2
  go_ret
  exact HQ.out
theorem impl_exactInt_Add.law (g : Nat) (cs : Array Value) (T : TypeId) (gx gy : Nat) (X Y : Int) (W : World) (hb : W.heap[g]? = some (.cells cs T (0, 0))) (hcs : 2 ≤ cs.size) (hT : T ≠ 94) (hx : IsI W gx X) (hy : IsI W gy Y) (nx : gx ≠ g) (ny : gy ≠ g) (fx : Fits X) (fy : Fits Y) :
    Calls Tryd.prog 67 #[.pointer (some ⟨g, 0, none⟩), .pointer (some ⟨gx, 0, none⟩), .pointer (some ⟨gy, 0, none⟩)] W (PutI g cs T (X + Y) W) := by
  by_cases h : decide (X < 0) = decide (Y < 0)
  · exact impl_exactInt_Add.same g cs T gx gy X Y W hb hcs hT hx hy nx ny fx fy h
  · rcases Int.lt_or_le (X.natAbs : Int) (Y.natAbs : Int) with h2 | h2
    · exact impl_exactInt_Add.less g cs T gx gy X Y W hb hcs hT hx hy nx ny fx fy h h2
    · exact impl_exactInt_Add.more g cs T gx gy X Y W hb hcs hT hx hy nx ny fx fy h h2
end Go.Proofs.YtdgohcdemnmieaaDoor.A

/- Integers of any size: differences and the order. Conditions: integers of at most 100 digits of 32 bits. -/
namespace Go.Proofs.YtdgohcdemnmieaaDoor.A
set_option linter.unusedVariables false
set_option linter.unusedSimpArgs false
open Go.RowKit Go.Proofs.YtdgohcdemnmieaaDoorW.PrintWords Go.Proofs.YtdgohcdemnmieaaDoorW.PrintLast Go.Proofs.YtdgohcdemnmieaaDoorW.PrintMore
theorem sgn_neg (Y : Int) : sgn (!decide (Y < 0)) (Y.natAbs : Int) = -Y := by
  unfold sgn
  by_cases a : Y < 0 <;> simp [a] <;> omega
theorem fits_neg {Y : Int} (h : Fits Y) : Fits (-Y) := by unfold Fits at *; rw [Int.natAbs_neg]; exact h
/-- A new integer of nothing. -/
abbrev zeroI : Obj := .cells #[.bool false, .slice none 0 0] 57 (0, 0)
theorem IsI.lt {W : World} {g : Nat} {X : Int} (h : IsI W g X) : g < W.heap.size := by obtain ⟨cs, T, v, ds, h1, _⟩ := h; exact blk_lt h1
theorem PutI.grown {g : Nat} {cs : Array Value} {T : TypeId} {X : Int} {W w' : World} {e : Ending} (h : PutI g cs T X W e w') : W.grownBy w' (some g) := h.2.choose_spec.choose_spec.2.2.2.2
theorem below_new {W w1 : World} {o : Obj} (h : (W.alloc o).grownBy w1 (some W.heap.size)) : Below W.heap.size W w1 :=
  pw_below_grown (below_alloc (Below.refl W.heap.size W) o) (some W.heap.size) (by simp) h (fun k hk => by injection hk with hk; omega)
set_option maxHeartbeats 1600000 in
set_option maxRecDepth 100000 in
theorem impl_exactInt_Sub.law (g : Nat) (cs : Array Value) (T : TypeId) (gx gy : Nat) (X Y : Int) (W : World) (hb : W.heap[g]? = some (.cells cs T (0, 0))) (hcs : 2 ≤ cs.size) (hT : T ≠ 94) (hx : IsI W gx X) (hy : IsI W gy Y) (nx : gx ≠ g) (ny : gy ≠ g) (fx : Fits X) (fy : Fits Y) :
    Calls Tryd.prog 61 #[.pointer (some ⟨g, 0, none⟩), .pointer (some ⟨gx, 0, none⟩), .pointer (some ⟨gy, 0, none⟩)] W (PutI g cs T (X - Y) W) := by
  obtain ⟨ys, S', v', es, y1, y2, y3, y4, y5, y6, y7, y8⟩ := hy
  have hd0 : W.cell? ⟨gy, 0, none⟩ = some (.bool (decide (Y < 0))) := (blk_cell y1 0).trans y4
  have hd1 : W.cell? ⟨gy, 1, none⟩ = some v' := (blk_cell y1 1).trans y5
  have hd0' : (W.drew.alloc zeroI).cell? ⟨gy, 0, none⟩ = some (.bool (decide (Y < 0))) := (blk_cell (blk_alloc (w := W.drew) y1 _) 0).trans y4
  have hd1' : (W.drew.alloc zeroI).cell? ⟨gy, 1, none⟩ = some v' := (blk_cell (blk_alloc (w := W.drew) y1 _) 1).trans y5
  have hgn : ∀ {w1 : World} {e : Ending}, PutI W.heap.size #[.bool false, .slice none 0 0] 57 (-Y) (W.drew.alloc zeroI) e w1 → Below W.heap.size W w1 := fun h => below_then (below_drew (Below.refl W.heap.size W)) (Nat.le_refl _) (below_new h.grown)
  have hp := Aside0.mk (show Calls Tryd.prog 52 #[.pointer (some ⟨W.heap.size, 0, none⟩), .bool (!decide (Y < 0)), v'] (W.drew.alloc zeroI) (PutI W.heap.size #[.bool false, .slice none 0 0] 57 (-Y) (W.drew.alloc zeroI)) from by
    refine (impl_exactInt_put.calls W.heap.size #[.bool false, .slice none 0 0] 57 (!decide (Y < 0)) v' es (W.drew.alloc zeroI) (blk_new W.drew _) (by decide) (by decide) (Dg.alloc (W := W.drew) y6 _)).mono fun e w' h => ?_
    have := PutI.of_put y6.digs h
    rw [y8, sgn_neg] at this
    exact this)
  have ha := Aside0.mk (show ∀ (w1 : World) (e : Ending), PutI W.heap.size #[.bool false, .slice none 0 0] 57 (-Y) (W.drew.alloc zeroI) e w1 → Calls Tryd.prog 67 #[.pointer (some ⟨g, 0, none⟩), .pointer (some ⟨gx, 0, none⟩), .pointer (some ⟨W.heap.size, 0, none⟩)] w1 (PutI g cs T (X - Y) W) from fun w1 e h => by
    have hB := hgn h
    have hX : IsI w1 gx X := (IsI.alloc (W := W.drew) hx zeroI).keep h.grown (NotD.of (blk_new W.drew _) (by decide)) (by have := hx.lt; show gx ≠ W.heap.size; omega)
    have := impl_exactInt_Add.law g cs T gx W.heap.size X (-Y) w1 (blk_below hb hB) hcs hT hX (h.isI (by decide) (by decide)) nx (by have := blk_lt hb; omega) fx (fits_neg fy)
    rw [← Int.sub_eq_add_neg] at this
    exact this.mono fun e' w' h' => PutI.after hB h')
  have lt0 := World.block_lt_of_cell? W _ hd0
  have hnn : gy ≠ W.heap.size := by have := blk_lt y1; omega
  clear y1 y2 y3 y4 y5 y6 y7 y8 hb hT hcs hx fx fy
  go_enter Tryd.func61, Tryd.ntmps61
  go_wp2
  go_region_held3 (fun w' => w'.cell? ⟨gy, 0, none⟩ = some (.bool (decide (Y < 0))) ∧ w'.cell? ⟨gy, 1, none⟩ = some v')
    (first
      | exact ⟨HQG.out.cell hd0 (by simpa using ny), HQG.out.cell hd1 (by simpa using ny)⟩
      | exact ⟨hd0, hd1⟩
      | exact ⟨hd0', hd1'⟩
      | exact ⟨(HBW.out.cell (World.block_lt_of_cell? W _ hd0)).trans hd0, (HBW.out.cell (World.block_lt_of_cell? W _ hd1)).trans hd1⟩
      | go_keep)
    (first
      | (go_at_call 52; refine hp.out.mono ?_; intro e w1 hq1; have he := hq1.1; subst he; have HBW := Aside0.mk (hgn hq1); have HP1 := Aside0.mk hq1; clear hq1)
      | (go_at_call 67; refine (ha.out w1 _ HP1.out).mono ?_; intro e w2 hq2; have he := hq2.1; subst he; have HQG := Aside0.mk hq2.grown; have HQ := Aside0.mk hq2; clear hq2))
  try go_wp2
  go_ret
  exact HQ.out
set_option maxHeartbeats 1600000 in
set_option maxRecDepth 100000 in
theorem impl_exactInt_Cmp.law (gx gy : Nat) (X Y : Int) (W : World) (hx : IsI W gx X) (hy : IsI W gy Y) (fx : Fits X) (fy : Fits Y) :
    Calls Tryd.prog 51 #[.pointer (some ⟨gx, 0, none⟩), .pointer (some ⟨gy, 0, none⟩)] W (fun e w' => e = .returned (.int .i64 (sign (X - Y))) ∧ Below W.heap.size W w') := by
  have hs := Aside0.mk (impl_exactInt_Sub.law W.heap.size #[.bool false, .slice none 0 0] 57 gx gy X Y (W.alloc zeroI) (blk_new W _) (by decide) (by decide) (hx.alloc _) (hy.alloc _) (by have := hx.lt; omega) (by have := hy.lt; omega) fx fy)
  have hg := Aside0.mk (show ∀ (w1 : World) (e : Ending), PutI W.heap.size #[.bool false, .slice none 0 0] 57 (X - Y) (W.alloc zeroI) e w1 → Calls Tryd.prog 62 #[.pointer (some ⟨W.heap.size, 0, none⟩)] w1 (fun e' w' => e' = .returned (.int .i64 (sign (X - Y))) ∧ Below W.heap.size W w') from fun w1 e h =>
    (impl_exactInt_Sign.calls W.heap.size (X - Y) w1 (h.isI (by decide) (by decide))).mono fun e' w' h' => ⟨h'.1, by
      obtain ⟨n, hn⟩ := h'.2
      rw [hn]
      exact pw_below_drewN (below_new h.grown) n⟩)
  clear hx hy fx fy
  go_enter Tryd.func51, Tryd.ntmps51
  go_wp2_with (first
    | (go_at_call 61; refine hs.out.mono ?_; intro e w1 hq1; have he := hq1.1; subst he; have HP1 := Aside0.mk hq1; clear hq1)
    | (go_at_call 62; refine (hg.out w1 _ HP1.out).mono ?_; rintro e w2 ⟨rfl, hB⟩; have HB2 := Aside0.mk hB; clear hB))
  go_ret
  exact ⟨rfl, HB2.out⟩
end Go.Proofs.YtdgohcdemnmieaaDoor.A

/- Integers of any size: what is read as 64 bits. Conditions: integers of at most 100 digits of 32 bits. -/
namespace Go.Proofs.YtdgohcdemnmieaaDoor.A
set_option linter.unusedVariables false
set_option linter.unusedSimpArgs false
open Go.RowKit Go.Proofs.YtdgohcdemnmieaaDoorW.PrintWords Go.Proofs.YtdgohcdemnmieaaDoorW.PrintLast Go.Proofs.YtdgohcdemnmieaaDoorW.PrintMore
theorem int64_step (ds : List Int) (i : Nat) (hd : Digs ds) (h : i < 2) (hi : i < ds.length) : bits BinOp.or IntKind.u64 (val (List.take 2 (List.take i ds))) (IntKind.u64.wrap (rd ds (i : Int) * 2 ^ (32 * i))) = val (List.take 2 (List.take (i + 1) ds)) := by
  have hx := rd_digs hd (i : Int)
  rw [List.take_take, List.take_take, Nat.min_eq_right (by omega), Nat.min_eq_right (by omega), val_take_succ ds i hi]
  rcases (show i = 0 ∨ i = 1 by omega) with rfl | rfl
  · have e : (2 : Int) ^ (32 * 0) = 1 := rfl
    have hw : IntKind.u64.wrap (rd ds ((0 : Nat) : Int)) = rd ds ((0 : Nat) : Int) := u64_small (by omega) (by omega)
    have ho := or_low 0 (rd ds ((0 : Nat) : Int)) 0 (by omega) (by rw [Int.pow_zero]; omega) hx.1 (by rw [Int.pow_zero]; omega) (by omega)
    rw [Int.pow_zero, Int.mul_one] at ho
    rw [e, Int.mul_one, hw, Int.pow_zero, Int.one_mul]
    simp only [List.take_zero, val]
    rw [ho]; omega
  · have e : (2 : Int) ^ (32 * 1) = 2 ^ 32 := rfl
    have e2 : (2 : Int) ^ 32 = 4294967296 := rfl
    have hw : IntKind.u64.wrap (rd ds ((1 : Nat) : Int) * 2 ^ 32) = rd ds ((1 : Nat) : Int) * 2 ^ 32 := u64_small (by rw [e2]; omega) (by rw [e2]; omega)
    have a1 := val_lt (ds.take 1) (digs_take hd 1)
    have a2 := val_nonneg (ds.take 1) (digs_take hd 1)
    rw [List.length_take, Nat.min_eq_left (by omega), Int.pow_one] at a1
    have := or_low (val (ds.take 1)) (rd ds ((1 : Nat) : Int)) 32 a2 (by rw [e2]; exact a1) hx.1 (by rw [e2]; omega) (by omega)
    rw [e, hw, this, e2, Int.pow_one]
    omega
theorem int64_end (ds : List Int) (X : Int) (hd : Digs ds) (hv : val ds = (X.natAbs : Int)) : val (ds.take 2) = (X.natAbs : Int) % 18446744073709551616 := by
  rcases Nat.lt_or_ge ds.length 2 with h | h
  · have a1 := val_lt ds hd
    have a2 := pw_mono (show ds.length ≤ 1 by omega)
    rw [Int.pow_one] at a2
    rw [List.take_of_length_le (by omega), hv]
    omega
  · have e := val_split ds 2 h
    have a1 := val_lt (ds.take 2) (digs_take hd 2)
    have a2 := val_nonneg (ds.take 2) (digs_take hd 2)
    rw [List.length_take, Nat.min_eq_left h] at a1
    have e2 : (4294967296 : Int) ^ 2 = 18446744073709551616 := rfl
    rw [e2] at a1 e
    omega
set_option maxHeartbeats 1600000 in
set_option maxRecDepth 100000 in
theorem impl_exactInt_Int64.law (g : Nat) (X : Int) (W : World) (hx : IsI W g X) (fx : Fits X) :
    Calls Tryd.prog 35 #[.pointer (some ⟨g, 0, none⟩)] W (fun e w' => e = .returned (.int .i64 (wrap64 X)) ∧ Drawn0 W w') := by
  obtain ⟨xs, S, v, ds, x1, x2, x3, x4, x5, x6, x7, x8⟩ := hx
  have hc0 : W.cell? ⟨g, 0, none⟩ = some (.bool (decide (X < 0))) := (blk_cell x1 0).trans x4
  have hc1 : W.cell? ⟨g, 1, none⟩ = some v := (blk_cell x1 1).trans x5
  have hlen := fits_len fx x7 x8
  have HD := Aside0.mk x6.digs
  have HV := Aside0.mk x8
  obtain ⟨A, c, rfl, al, aC, _⟩ := x6
  have HC := Aside0.mk aC
  clear x1 x2 x3 x4 x5 x7 x8 aC fx
  go_enter Tryd.func35, Tryd.ntmps35
  go_wp2
  go_loop [3, 11] (fun v3 v11 => ∃ i : Nat, i ≤ ds.length ∧ v11 = .int .i64 (i : Int) ∧ v3 = .int .u64 (val ((ds.take i).take 2))) (fun _ v11 => ds.length - (match v11 with | .int _ i => i.toNat | _ => 0))
  case atStart => exact ⟨0, Nat.zero_le _, rfl, by simp [val]⟩
  case round =>
    obtain ⟨i, hi, rfl, rfl⟩ := hrel
    by_cases c1 : i < ds.length
    · have c1' : decide ((i : Int) < (ds.length : Int)) = true := decide_eq_true (by omega)
      obtain ⟨ad, rfl, hx⟩ := Kd.at_int HC.out (i : Int) (by omega) (by omega)
      rw [Int.toNat_natCast] at hx
      have hd := rd_digs HD.out (i : Int)
      by_cases c2 : i < 2
      · have c2' : decide ((i : Int) < 2) = true := decide_eq_true (by omega)
        go_wp2
        refine ⟨⟨i + 1, by omega, by simp, ?_⟩, by simp; omega⟩
        rw [int64_step ds i HD.out c2 c1]
      · have c2' : decide ((i : Int) < 2) = false := decide_eq_false (by omega)
        go_wp2
        refine ⟨⟨i + 1, by omega, by simp, ?_⟩, by simp; omega⟩
        rw [List.take_take, List.take_take, Nat.min_eq_left (by omega), Nat.min_eq_left (by omega)]
    · have c1' : decide ((i : Int) < (ds.length : Int)) = false := decide_eq_false (by omega)
      have e : i = ds.length := by omega
      subst e
      rw [List.take_length]
      have hv := int64_end ds X HD.out HV.out
      by_cases s : X < 0
      · have s' : decide (X < 0) = true := decide_eq_true s
        rw [s'] at hc0
        go_wp2
        have h1 : wrap64 (IntKind.u64.wrap (-((X.natAbs : Int) % 18446744073709551616))) = wrap64 X := by rw [wu64]; unfold wrap64; omega
        go_ret
        refine ⟨?_, by first | exact ⟨0, rfl⟩ | exact Drawn0.refl _ | exact ⟨0, by simp⟩⟩
        show Ending.returned (.int .i64 (wrap64 (IntKind.u64.wrap (-((X.natAbs : Int) % 18446744073709551616))))) = _
        rw [h1]
      · have s' : decide (X < 0) = false := decide_eq_false s
        rw [s'] at hc0
        go_wp2
        have h1 : wrap64 ((X.natAbs : Int) % 18446744073709551616) = wrap64 X := by unfold wrap64; omega
        go_ret
        refine ⟨?_, by first | exact ⟨0, rfl⟩ | exact Drawn0.refl _ | exact ⟨0, by simp⟩⟩
        show Ending.returned (.int .i64 (wrap64 ((X.natAbs : Int) % 18446744073709551616))) = _
        rw [h1]
def Fits2 (X : Int) : Prop := (X.natAbs : Int) < 4294967296 ^ 90
theorem Fits2.fits {X : Int} (h : Fits2 X) : Fits X := by
  have := pw_mono (show 90 ≤ 100 by omega)
  unfold Fits Fits2 at *
  generalize (4294967296 : Int) ^ 90 = P at *
  generalize (4294967296 : Int) ^ 100 = Q at *
  omega
theorem Fits2.of {X : Int} (h : (X.natAbs : Int) < 1000000000000000000000000000000000000000000000000000000000000) : Fits2 X := by
  unfold Fits2
  have := pw_mono (show 7 ≤ 90 by omega)
  have e : (4294967296 : Int) ^ 7 = 26959946667150639794667015087019630673637144422540572481103610249216 := by decide
  rw [e] at this
  generalize (4294967296 : Int) ^ 90 = P at *
  omega
/-- Is there room in 64 bits? -/
def in64 (X : Int) : Bool := decide (-9223372036854775808 ≤ X ∧ X ≤ 9223372036854775807)
set_option maxHeartbeats 1600000 in
set_option maxRecDepth 100000 in
theorem impl_exactInt_IsInt64.law (g : Nat) (X : Int) (W : World) (hx : IsI W g X) (fx : Fits2 X) :
    Calls Tryd.prog 33 #[.pointer (some ⟨g, 0, none⟩)] W (fun e w' => e = .returned (.bool (in64 X)) ∧ Below W.heap.size W w') := by
  have hi := Aside0.mk (impl_exactInt_Int64.law g X W hx fx.fits)
  have hw : -9223372036854775808 ≤ wrap64 X ∧ wrap64 X ≤ 9223372036854775807 := by unfold wrap64; omega
  have fw : Fits2 (wrap64 X) := Fits2.of (by omega)
  have hn := Aside0.mk (show ∀ w1, Drawn0 W w1 → Calls Tryd.prog 37 #[.int .i64 (wrap64 X)] w1 (fun e w2 => ∃ g', e = .returned (.pointer (some ⟨g', 0, none⟩)) ∧ IsI w2 g' (wrap64 X) ∧ IsI w2 g X ∧ Below W.heap.size W w2) from fun w1 hd => by
    obtain ⟨n, rfl⟩ := hd
    refine (impl_newInt.calls (wrap64 X) (W.drewN n) hw.1 hw.2).mono fun e w2 h => ?_
    obtain ⟨g', h1, h2, h3, h4⟩ := h
    refine ⟨g', h1, h3, ?_, below_then (pw_below_drewN (Below.refl W.heap.size W) n) (Nat.le_refl _) ⟨h4.os, h4.tape, h4.output, h4.size, fun k hk => h4.block k hk (by simp)⟩⟩
    have hx' : IsI (W.drewN n) g X := hx
    refine hx'.keep (grown_none h4 (W.drewN n).heap.size) (NotD.new (Nat.le_refl _)) ?_
    have := hx.lt
    show g ≠ W.heap.size
    omega)
  have hc := Aside0.mk (show ∀ (w2 : World) (g' : Nat), IsI w2 g' (wrap64 X) → IsI w2 g X → Calls Tryd.prog 51 #[.pointer (some ⟨g', 0, none⟩), .pointer (some ⟨g, 0, none⟩)] w2 (fun e w' => e = .returned (.int .i64 (sign (wrap64 X - X))) ∧ Below w2.heap.size w2 w') from fun w2 g' h1 h2 => impl_exactInt_Cmp.law g' g (wrap64 X) X w2 h1 h2 fw.fits fx.fits)
  have hfin : (sign (wrap64 X - X) == 0) = in64 X := by
    have h1 : (sign (wrap64 X - X) = 0) ↔ (-9223372036854775808 ≤ X ∧ X ≤ 9223372036854775807) := by
      unfold sign wrap64
      constructor
      · intro h; split at h
        · omega
        · split at h <;> omega
      · intro h; rw [if_neg (by omega), if_neg (by omega)]
    unfold in64
    by_cases h : -9223372036854775808 ≤ X ∧ X ≤ 9223372036854775807
    · rw [decide_eq_true h, beq_iff_eq]; exact h1.2 h
    · rw [decide_eq_false h, beq_eq_false_iff_ne]; exact fun h2 => h (h1.1 h2)
  clear hx fx fw hw
  go_enter Tryd.func33, Tryd.ntmps33
  go_wp2_with (first
    | (go_at_call 35; refine hi.out.mono ?_; rintro e w1 ⟨rfl, hd⟩; have HD1 := Aside0.mk hd; clear hd)
    | (go_at_call 37; refine (hn.out w1 HD1.out).mono ?_; rintro e w2 ⟨g', rfl, h3, h4, h5⟩; have H3 := Aside0.mk h3; have H4 := Aside0.mk h4; have H5 := Aside0.mk h5; clear h3 h4 h5)
    | (go_at_call 51; refine (hc.out w2 g' H3.out H4.out).mono ?_; rintro e w3 ⟨rfl, hB⟩; have HB3 := Aside0.mk hB; clear hB))
  go_ret
  refine ⟨?_, below_step H5.out HB3.out⟩
  rfl
end Go.Proofs.YtdgohcdemnmieaaDoor.A

/- Integers of any size: the quotient and the rest of digits; a fraction is set to two integers, in lowest terms. Conditions: integers of at most 100 digits of 32 bits, the one below not being 0. -/
namespace Go.Proofs.YtdgohcdemnmieaaDoor.A
set_option linter.unusedVariables false
set_option linter.unusedSimpArgs false
open Go.RowKit Go.Proofs.YtdgohcdemnmieaaDoorW.PrintWords Go.Proofs.YtdgohcdemnmieaaDoorW.PrintLast Go.Proofs.YtdgohcdemnmieaaDoorW.PrintMore
theorem Dg.nil (W : World) : Dg W (.slice none 0 0) [] := ⟨none, 0, rfl, Nat.le_refl _, ⟨rfl, by simp, fun h => absurd h (by simp)⟩, fun ad e => by simp at e, fun x hx => by simp at hx⟩
theorem Dg.keeps {W W' : World} {v : Value} {ds : List Int} (h : Dg W v ds) (hb : Below W.heap.size W W') : Dg W' v ds := h.below hb
theorem div_unique {a b q r : Int} (hb : 0 < b) (h : a = b * q + r) (h0 : 0 ≤ r) (h1 : r < b) : q = a / b ∧ r = a % b := by
  have e1 : a / b = q := by rw [h, Int.add_comm, Int.add_mul_ediv_left _ _ (by omega), Int.ediv_eq_zero_of_lt h0 h1]; omega
  have e2 := Int.mul_ediv_add_emod a b
  rw [e1] at e2
  exact ⟨e1.symm, by omega⟩
set_option maxHeartbeats 1600000 in
set_option maxRecDepth 100000 in
theorem impl_divideDigits.law (v v' : Value) (xs ys : List Int) (W : World) (ha : Dg W v xs) (hb : Dg W v' ys) (ca : Can xs) (cb : Can ys) (hne : ys ≠ []) (la : xs.length ≤ 100) (lb : ys.length ≤ 100) :
    Calls Tryd.prog 53 #[v, v'] W (fun e w' => ∃ v0 v1 q r, e = .returned (.tuple #[v0, v1]) ∧ Dg w' v0 q ∧ Dg w' v1 r ∧ val q = val xs / val ys ∧ val r = val xs % val ys ∧ Below W.heap.size W w') := by
  have hbp := can_pos ys cb hne
  obtain ⟨A, c, rfl, al, aC, aT, aD⟩ := ha
  obtain ⟨A', c', rfl, al', aC', aT', aD'⟩ := hb
  by_cases h : ys.length ≤ xs.length
  · obtain ⟨k, r1, r2, h1, h2, h3, h4, h5⟩ := divideDigits_eq xs ys aD cb hne (by omega) h
    refine (impl_divideDigits.calls k A c xs A' c' ys r1 r2 W aC al aC' al' h1).mono fun e w' hq => ?_
    obtain ⟨v0, v1, rfl, k1, k2, k3⟩ := hq
    have hu := div_unique hbp h4 (val_nonneg r2 h3) h5
    exact ⟨v0, v1, r1, r2, rfl, Dg.of_R k1 h2, Dg.of_R k2 h3, hu.1, hu.2, k3⟩
  · have hlt := can_longer cb aD (by omega)
    have hnn := val_nonneg xs aD
    have e1 : val xs / val ys = 0 := Int.ediv_eq_zero_of_lt hnn hlt
    have e2 : val xs % val ys = val xs := Int.emod_eq_of_lt hnn hlt
    have HA := Aside0.mk (show Dg W (.slice A xs.length c) xs from ⟨A, c, rfl, al, aC, aT, aD⟩)
    have hc : decide ((xs.length : Int) < (ys.length : Int)) = true := decide_eq_true (by omega)
    have hc2 : decide (xs.length < ys.length) = true := decide_eq_true (by omega)
    rw [e1, e2]
    clear aC aT aD aC' aT' aD' ca cb hne hbp hlt hnn e1 e2 h la lb
    go_enter Tryd.func53, Tryd.ntmps53
    go_wp2
    go_ret2
    exact ⟨_, _, [], xs, rfl, Dg.nil _, HA.out, rfl, rfl, Below.refl _ _⟩
end Go.Proofs.YtdgohcdemnmieaaDoor.A

/- A fraction is set to two integers, in lowest terms. Conditions: integers of at most 100 digits of 32 bits, the one below not being 0. -/
namespace Go.Proofs.YtdgohcdemnmieaaDoor.A
set_option linter.unusedVariables false
set_option linter.unusedSimpArgs false
open Go.RowKit Go.Proofs.YtdgohcdemnmieaaDoorW.PrintWords Go.Proofs.YtdgohcdemnmieaaDoorW.PrintLast Go.Proofs.YtdgohcdemnmieaaDoorW.PrintMore
/-- Lowest terms. -/
def gcdI (N D : Int) : Int := (Nat.gcd N.natAbs D.natAbs : Int)
def numI (N D : Int) : Int := sgn (decide (N < 0) != decide (D < 0)) ((N.natAbs : Int) / gcdI N D)
def denI (N D : Int) : Int := (D.natAbs : Int) / gcdI N D
/-- Behind a method that sets the block g to a fraction. -/
def PutR (g : Nat) (N D : Int) (W : World) (e : Ending) (w' : World) : Prop := e = .returned (.pointer (some ⟨g, 0, none⟩)) ∧ IsR w' g N D ∧ W.grownBy w' (some g)
theorem euclid_step (a b : Int) (G : Nat) (ha : 0 ≤ a) (hb : 0 ≤ b) (h : Nat.gcd a.toNat b.toNat = G) : Nat.gcd b.toNat (a % b).toNat = G := by
  obtain ⟨m, rfl⟩ := Int.eq_ofNat_of_zero_le ha
  obtain ⟨n, rfl⟩ := Int.eq_ofNat_of_zero_le hb
  have e : ((m : Int) % (n : Int)).toNat = m % n := by rw [← Int.natCast_emod, Int.toNat_natCast]
  rw [e]
  simp only [Int.toNat_natCast] at *
  rw [← h, Nat.gcd_comm m n, Nat.gcd_rec n m, Nat.gcd_comm]
/-- put into a new integer: its digits are read behind it. -/
theorem put_new (W : World) (n : Nat) (hn : W.heap.size = n) (less : Bool) (v : Value) (r : List Int) (hv : Dg W v r) : Calls Tryd.prog 52 #[.pointer (some ⟨n, 0, none⟩), .bool less, v] (W.alloc zeroI) (fun e w' => e = .returned (.pointer (some ⟨n, 0, none⟩)) ∧ ∃ u ds, w'.cell? ⟨n, 1, none⟩ = some u ∧ Dg w' u ds ∧ Can ds ∧ val ds = val r ∧ Below W.heap.size W w') := by
  subst hn
  refine (impl_exactInt_put.calls W.heap.size #[.bool false, .slice none 0 0] 57 less v r (W.alloc zeroI) (blk_new W _) (by decide) (by decide) (hv.alloc _)).mono fun e w' h => ?_
  obtain ⟨h0, u, ds, h1, h2, h3, h4, h5⟩ := h
  exact ⟨h0, u, ds, (blk_cell h1 1).trans rfl, h2, h3, h4, below_new h5⟩
theorem setfrac_fin {W W3 w4 w5 : World} {g : Nat} {N D : Int} {u0 u1 u2 ub : Value} {less : Bool} {q ds2 : List Int} {e : Ending} (hb : W.heap[g]? = some (.cells #[u0, u1, u2] 59 (0, 0))) (h3 : Below W.heap.size W W3) (hq : Digs q) (hput : impl_exactInt_put.Post g #[u0, u1, u2] 59 less q W3.drew e w4) (h5 : Below w4.heap.size w4 w5) (hub : Dg w5 ub ds2) (hc : Can ds2) (hD : val ds2 = D) (hD1 : 1 ≤ D) (hN : sgn less (val q) = N) :
    PutR g N D W (.returned (.pointer (some ⟨g, 0, none⟩))) (w5.setCell ⟨g, 2, none⟩ ub) := by
  obtain ⟨_, v, ds, k1, k2, k3, k4, k5⟩ := PutI.of_put hq hput
  rw [hN] at k1 k4
  have b5 := blk_below k1 h5
  have hnd : NotD w5 g := NotD.of b5 (by decide)
  have hgr : w5.grownBy (w5.setCell ⟨g, 2, none⟩ ub) (some g) := grown_set (World.grownBy.refl w5 _) 2 ub
  have hW3 : W.grownBy W3 (some g) := ⟨h3.os, h3.tape, h3.output, h3.size, fun k hk _ => h3.block k hk⟩
  have h45 : w4.grownBy w5 (some g) := ⟨h5.os, h5.tape, h5.output, h5.size, fun k hk _ => h5.block k hk⟩
  refine ⟨rfl, ⟨v, ds, ub, ds2, blk_set b5 2 ub, (k2.below h5).keep hgr hnd, k3, k4, hub.keep hgr hnd, hc, hD, hD1⟩, ?_⟩
  exact World.grownBy.trans (World.grownBy.trans (World.grownBy.trans hW3 (grown_undrew k5)) h45) hgr
set_option maxHeartbeats 3200000 in
set_option maxRecDepth 100000 in
theorem impl_exactRat_SetFrac.law (g gn gd : Nat) (N D : Int) (u0 u1 u2 : Value) (W : World) (hb : W.heap[g]? = some (.cells #[u0, u1, u2] 59 (0, 0))) (hn : IsI W gn N) (hd : IsI W gd D) (nn : gn ≠ g) (nd : gd ≠ g) (fn : Fits N) (fd : Fits D) (hD : D ≠ 0) :
    Calls Tryd.prog 36 #[.pointer (some ⟨g, 0, none⟩), .pointer (some ⟨gn, 0, none⟩), .pointer (some ⟨gd, 0, none⟩)] W (PutR g (numI N D) (denI N D) W) := by
  obtain ⟨xs, S, v, ds, x1, x2, x3, x4, x5, x6, x7, x8⟩ := hn
  obtain ⟨ys, S', v', es, y1, y2, y3, y4, y5, y6, y7, y8⟩ := hd
  have lx := fits_len fn x7 x8
  have ly := fits_len fd y7 y8
  have hc0 : W.cell? ⟨gn, 0, none⟩ = some (.bool (decide (N < 0))) := (blk_cell x1 0).trans x4
  have hc1 : W.cell? ⟨gn, 1, none⟩ = some v := (blk_cell x1 1).trans x5
  have hd0 : W.cell? ⟨gd, 0, none⟩ = some (.bool (decide (D < 0))) := (blk_cell y1 0).trans y4
  have hd1 : W.cell? ⟨gd, 1, none⟩ = some v' := (blk_cell y1 1).trans y5
  have HX := Aside0.mk x6
  have HY := Aside0.mk y6
  have CX := Aside0.mk x7
  have CY := Aside0.mk y7
  have VX := Aside0.mk x8
  have VY := Aside0.mk y8
  have HB := Aside0.mk hb
  clear x1 x2 x3 x4 x5 x6 x7 x8 y1 y2 y3 y4 y5 y6 y7 y8 hb
  have hstart := Aside0.mk (show Nat.gcd (val ds).toNat (val es).toNat = Nat.gcd N.natAbs D.natAbs by rw [VX.out, VY.out]; simp)
  have LX := Aside0.mk lx
  have LY := Aside0.mk ly
  have HDne := Aside0.mk hD
  have NN := Aside0.mk nn
  have ND := Aside0.mk nd
  have FD := Aside0.mk fd
  clear lx ly fn fd hD nn nd
  go_enter Tryd.func36, Tryd.ntmps36
  go_wp2
  go_quiet (fail)
  go_wp2
  go_loopg [7, 8] ((val es).toNat + 1) (fun kq v7 v8 w' => ∃ (z7 z8 : Value) (as_ bs : List Int), z7 = v7 ∧ z8 = v8 ∧ Aside0 (Dg w' v7 as_) ∧ Aside0 (Can as_) ∧ Aside0 (as_.length ≤ 100) ∧ Aside0 (Dg w' v8 bs) ∧ Aside0 (Can bs) ∧ Aside0 (bs.length ≤ 100) ∧ Aside0 (Nat.gcd (val as_).toNat (val bs).toNat = Nat.gcd N.natAbs D.natAbs) ∧ Aside0 ((val bs).toNat < kq) ∧ Aside0 (Below W.heap.size W w'))
  case atStart => exact ⟨_, _, ds, es, rfl, rfl, HX, CX, LX, HY, CY, LY, hstart, ⟨Nat.lt_succ_self _⟩, ⟨pw_below_drewN (Below.refl W.heap.size W) _⟩⟩
  case round =>
    obtain ⟨v7, v8, as_, bs, rfl, rfl, HA, CA, LA, HBb, CB, LB, HG, HK, HBel⟩ := hrel
    cases gk with
    | zero => exact absurd HK.out (by omega)
    | succ k1 =>
      obtain ⟨Ab, cb, rfl, lb, hCb, htb, hdb⟩ := HBb.out
      by_cases hne : bs = []
      · subst hne
        have hl : decide (0 < (([] : List Int).length : Int)) = false := rfl
        have hl2 : decide (0 < ([] : List Int).length) = false := rfl
        have hG : val as_ = gcdI N D := by
          have h := HG.out
          have gx := val_nonneg as_ CA.out.1
          simp only [val, Int.toNat_zero, Nat.gcd_zero_right] at h
          unfold gcdI; omega
        have hGp : 0 < gcdI N D := by
          have := Nat.gcd_pos_of_pos_right N.natAbs (show 0 < D.natAbs by have := HDne.out; omega)
          unfold gcdI; omega
        have hane : as_ ≠ [] := by intro h; rw [h] at hG; simp only [val] at hG; omega
        have hc1w := (HBel.out.cell (World.block_lt_of_cell? W _ hc1)).trans hc1
        have hq1 := Aside0.mk (impl_divideDigits.law v v7 ds as_ wr (HX.out.below HBel.out) HA.out CX.out CA.out hane LX.out LA.out)
        have hq2 := Aside0.mk (show ∀ w2, Below wr.heap.size wr w2 → Calls Tryd.prog 53 #[v', v7] w2 _ from fun w2 hB2 => impl_divideDigits.law v' v7 es as_ w2 ((HY.out.below HBel.out).below hB2) (HA.out.below hB2) CY.out CA.out hane LY.out LA.out)
        have HG1 := Aside0.mk hG
        have HG2 := Aside0.mk hGp
        clear hG hGp hane hCb htb hdb
        go_wp2_with (first
          | (go_at_call_of 53 v; refine hq1.out.mono ?_; rintro e w2 ⟨v0, v1, q, r, rfl, k1_, k2_, k3_, k4_, k5_⟩; have HQ1 := Aside0.mk k1_; have HV1 := Aside0.mk k3_; have HB1 := Aside0.mk k5_; have hd1w := ((below_step HBel.out k5_).cell (World.block_lt_of_cell? W _ hd1)).trans hd1; clear k1_ k2_ k3_ k4_ k5_)
          | (go_at_call_of 53 v'; refine (hq2.out w2 HB1.out).mono ?_; rintro e w3 ⟨v0', v1', q', r', rfl, k1_, k2_, k3_, k4_, k5_⟩; have HQ2 := Aside0.mk k1_; have HV2 := Aside0.mk k3_; have HB2 := Aside0.mk (below_step (below_step HBel.out HB1.out) k5_); have hc0w := (HB2.out.cell (World.block_lt_of_cell? W _ hc0)).trans hc0; have hd0w := (HB2.out.cell (World.block_lt_of_cell? W _ hd0)).trans hd0; have HQ1' := Aside0.mk (HQ1.out.below k5_); clear k1_ k2_ k3_ k4_ k5_))
        have hp1 := Aside0.mk (impl_exactInt_put.calls g #[u0, u1, u2] 59 (decide (N < 0) != decide (D < 0)) v0 q w3.drew (show w3.drew.heap[g]? = some _ from blk_below (w1 := w3) HB.out HB2.out) (by simp) (by decide) HQ1'.out)
        have hp2 := Aside0.mk (show ∀ w4 e, impl_exactInt_put.Post g #[u0, u1, u2] 59 (decide (N < 0) != decide (D < 0)) q w3.drew e w4 → Calls Tryd.prog 52 #[.pointer (some ⟨w4.heap.size, 0, none⟩), .bool false, v0'] (w4.alloc zeroI) _ from fun w4 e h => put_new w4 w4.heap.size rfl false v0' q' (by
          obtain ⟨_, _, _, _, _, _, _, hg⟩ := h
          exact Dg.keep (W := w3.drew) HQ2.out hg (NotD.of (blk_below (w1 := w3) HB.out HB2.out) (by decide))))
        have hblk := Aside0.mk (show ∀ w4 e, impl_exactInt_put.Post g #[u0, u1, u2] 59 (decide (N < 0) != decide (D < 0)) q w3.drew e w4 → ∃ z0 z1, w4.heap[g]? = some (.cells #[z0, z1, u2] 59 (0, 0)) from fun w4 e h => by
          obtain ⟨_, z, _, h1, _⟩ := h
          exact ⟨_, z, h1⟩)
        go_still_tail 13, (by kernel_rfl)
        change wpList _ _ _ _ _ w3.drew
        go_wp2_with (first
          | (go_at_call_of 52 v0; refine hp1.out.mono ?_; rintro e w4 hput; have he := hput.1; subst he; obtain ⟨z0, z1, hz⟩ := hblk.out w4 _ hput; have HZ := Aside0.mk hz; have hp3 := Aside0.mk (hp2.out w4 _ hput); have HPUT := Aside0.mk hput; clear hput hz)
          | (go_at_call_of 52 v0'; refine hp3.out.mono ?_; rintro e w5 ⟨rfl, ub, ds2, p1_, p2_, p3_, p4_, p5_⟩; obtain ⟨Au, cu, rfl, -⟩ := id p2_; have hbk := blk_below HZ.out p5_; have hf2 := blk_frozen hbk 2; have hc2 : w5.cell? ⟨g, 2, none⟩ = some u2 := (blk_cell hbk 2).trans rfl; have HP2 := Aside0.mk p2_; have HP3 := Aside0.mk p3_; have HP4 := Aside0.mk p4_; have HP5 := Aside0.mk p5_; clear p2_ p3_ p4_ p5_ hbk))
        go_ret
        refine setfrac_fin HB.out HB2.out HQ1'.out.digs HPUT.out HP5.out HP2.out HP3.out ?_ ?_ ?_
        · rw [HP4.out, HV2.out, VY.out, HG1.out]; rfl
        · have h1 := Nat.gcd_dvd_right N.natAbs D.natAbs
          unfold denI gcdI
          have h2 : (0 : Int) < ((Nat.gcd N.natAbs D.natAbs : Nat) : Int) := HG2.out
          refine Int.le_ediv_of_mul_le h2 ?_
          rw [Int.one_mul]
          exact_mod_cast Nat.le_of_dvd (by have := HDne.out; omega) h1
        · rw [HV1.out, VX.out, HG1.out]; rfl
      · have hl : decide (0 < (bs.length : Int)) = true := decide_eq_true (by have := List.length_pos_iff.2 hne; omega)
        have hl2 : decide (0 < bs.length) = true := decide_eq_true (List.length_pos_iff.2 hne)
        have HNE := Aside0.mk hne
        clear hne
        have hq := Aside0.mk (impl_divideDigits.law v7 (.slice Ab bs.length cb) as_ bs wr HA.out HBb.out CA.out CB.out HNE.out LA.out LB.out)
        clear hCb htb hdb
        go_wp2_with (first | (go_at_call 53; refine hq.out.mono ?_; rintro e w2 ⟨v0, v1, q, r, rfl, k1_, k2_, k3_, k4_, k5_⟩; have HQR := Aside0.mk k2_; have HQV := Aside0.mk k4_; have HQB := Aside0.mk k5_; clear k1_ k2_ k3_ k4_ k5_))
        have hp := Aside0.mk (put_new w2.drew w2.heap.size rfl false v1 r HQR.out)
        go_region_with
          (first
            | (go_at_call 52; refine hp.out.mono ?_; rintro e w3 ⟨rfl, u, rs, p1_, p2_, p3_, p4_, p5_⟩; have HP2 := Aside0.mk p2_; have HP3 := Aside0.mk p3_; have HP4 := Aside0.mk p4_; have HP5 := Aside0.mk p5_; clear p2_ p3_ p4_ p5_))
        clear hp hq hl hl2
        go_wp2
        go_roundg k1
        case measure => omega
        case rel =>
          have gy := val_nonneg bs CB.out.1
          have gx := val_nonneg as_ CA.out.1
          have hpos := can_pos bs CB.out HNE.out
          have hlt : val rs < val bs := by rw [HP4.out, HQV.out]; exact Int.emod_lt_of_pos _ hpos
          have hrs := val_nonneg rs HP3.out.1
          have hB2 : Below W.heap.size W w2 := below_step HBel.out HQB.out
          have hb2 : Dg w2 (.slice Ab bs.length cb) bs := HBb.out.below HQB.out
          refine ⟨_, _, bs, rs, rfl, rfl, ⟨Dg.below (W := w2.drew) hb2 HP5.out⟩, CB, LB, HP2, HP3, ⟨?_⟩, ⟨?_⟩, ⟨?_⟩, ⟨below_step (W := w2.drew) (below_drew hB2) HP5.out⟩⟩
          · refine can_len HP3.out (Int.lt_trans hlt ?_)
            have h1 := val_lt bs CB.out.1
            have h2 := pw_mono LB.out
            omega
          · rw [HP4.out, HQV.out]; exact euclid_step _ _ _ gx gy HG.out
          · have := HK.out; omega
end Go.Proofs.YtdgohcdemnmieaaDoor.A

/- Fractions of any size: what the methods of *exactRat tell. Conditions: integers of at most 20 digits of 32 bits. -/
namespace Go.Proofs.YtdgohcdemnmieaaDoor.A
set_option linter.unusedVariables false
set_option linter.unusedSimpArgs false
open Go.RowKit Go.Proofs.YtdgohcdemnmieaaDoorW.PrintWords Go.Proofs.YtdgohcdemnmieaaDoorW.PrintLast Go.Proofs.YtdgohcdemnmieaaDoorW.PrintMore
abbrev zeroR : Obj := .cells #[.bool false, .slice none 0 0, .slice none 0 0] 59 (0, 0)
theorem IsI.below {W W' : World} {g : Nat} {X : Int} (h : IsI W g X) (hb : Below W.heap.size W W') : IsI W' g X := by
  obtain ⟨cs, T, v, ds, h1, h2, h3, h4, h5, h6, h7⟩ := h
  exact ⟨cs, T, v, ds, blk_below h1 hb, h2, h3, h4, h5, h6.below hb, h7⟩
theorem IsR.below {W W' : World} {g : Nat} {N D : Int} (h : IsR W g N D) (hb : Below W.heap.size W W') : IsR W' g N D := by
  obtain ⟨v, ds, vb, bs, h1, h2, h3, h4, h5, h6⟩ := h
  exact ⟨v, ds, vb, bs, blk_below h1 hb, h2.below hb, h3, h4, h5.below hb, h6⟩
theorem IsR.lt {W : World} {g : Nat} {N D : Int} (h : IsR W g N D) : g < W.heap.size := h.num.lt
theorem IsR.pos {W : World} {g : Nat} {N D : Int} (h : IsR W g N D) : 1 ≤ D := by obtain ⟨_, _, _, _, _, _, _, _, _, _, _, h⟩ := h; exact h
theorem NewI.below {X : Int} {W w' : World} {e : Ending} (h : NewI X W e w') : Below W.heap.size W w' := by
  obtain ⟨g, _, _, _, h⟩ := h
  exact ⟨h.os, h.tape, h.output, h.size, fun k hk => h.block k hk (by simp)⟩
/-- Behind a function that returns a new fraction. -/
def NewR (N D : Int) (W : World) (e : Ending) (w' : World) : Prop := ∃ g, e = .returned (.pointer (some ⟨g, 0, none⟩)) ∧ W.heap.size ≤ g ∧ IsR w' g N D ∧ Below W.heap.size W w'
theorem PutI.set {g : Nat} {cs : Array Value} {T : TypeId} {X : Int} {W w' : World} {e : Ending} (h : PutI g cs T X W e w') (hcs : 2 ≤ cs.size) (hT : T ≠ 94) : e = .returned (.pointer (some ⟨g, 0, none⟩)) ∧ IsI w' g X ∧ W.grownBy w' (some g) := ⟨h.1, h.isI hcs hT, h.grown⟩
/-- A product set into a new integer. -/
theorem mul_at (n gx gy : Nat) (X Y : Int) (W : World) (hb : W.heap[n]? = some zeroI) (hx : IsI W gx X) (hy : IsI W gy Y) (nx : gx ≠ n) (ny : gy ≠ n) (fx : Fits X) (fy : Fits Y) :
    Calls Tryd.prog 40 #[.pointer (some ⟨n, 0, none⟩), .pointer (some ⟨gx, 0, none⟩), .pointer (some ⟨gy, 0, none⟩)] W (fun e w' => e = .returned (.pointer (some ⟨n, 0, none⟩)) ∧ IsI w' n (X * Y) ∧ W.grownBy w' (some n)) :=
  (impl_exactInt_Mul.law n _ _ gx gy X Y W hb (by decide) (by decide) hx hy nx ny fx fy).mono fun e w' h => h.set (by decide) (by decide)
theorem add_at (n gx gy : Nat) (X Y : Int) (W : World) (hb : W.heap[n]? = some zeroI) (hx : IsI W gx X) (hy : IsI W gy Y) (nx : gx ≠ n) (ny : gy ≠ n) (fx : Fits X) (fy : Fits Y) :
    Calls Tryd.prog 67 #[.pointer (some ⟨n, 0, none⟩), .pointer (some ⟨gx, 0, none⟩), .pointer (some ⟨gy, 0, none⟩)] W (fun e w' => e = .returned (.pointer (some ⟨n, 0, none⟩)) ∧ IsI w' n (X + Y) ∧ W.grownBy w' (some n)) :=
  (impl_exactInt_Add.law n _ _ gx gy X Y W hb (by decide) (by decide) hx hy nx ny fx fy).mono fun e w' h => h.set (by decide) (by decide)
theorem below_at {W w w' : World} {n : Nat} (h : Below W.heap.size W w) (hg : w.grownBy w' (some n)) (hn : W.heap.size ≤ n) : Below W.heap.size W w' := pw_below_grown h (some n) h.size hg (fun k hk => by injection hk with hk; omega)
theorem notD_zeroI {W : World} {n : Nat} (h : W.heap[n]? = some zeroI) : NotD W n := NotD.of h (by decide)
set_option maxHeartbeats 1600000 in
set_option maxRecDepth 100000 in
theorem impl_newRat.law (n d : Int) (W : World) (n0 : -9223372036854775808 ≤ n) (n1 : n ≤ 9223372036854775807) (d0 : -9223372036854775808 ≤ d) (d1 : d ≤ 9223372036854775807) (hd : d ≠ 0) :
    Calls Tryd.prog 22 #[.int .i64 n, .int .i64 d] W (NewR (numI n d) (denI n d) W) := by
  have h1 := Aside0.mk (impl_newInt.calls n (W.alloc zeroR) n0 n1)
  have h2 := Aside0.mk (show ∀ w1, Calls Tryd.prog 37 #[.int .i64 d] w1 (NewI d w1) from fun w1 => impl_newInt.calls d w1 d0 d1)
  have fn : Fits n := (Fits2.of (by omega)).fits
  have fd : Fits d := (Fits2.of (by omega)).fits
  have h3 := Aside0.mk (show ∀ (w1 w2 : World) (g1 g2 : Nat), (W.alloc zeroR).heap.size ≤ g1 → IsI w1 g1 n → Below (W.alloc zeroR).heap.size (W.alloc zeroR) w1 → w1.heap.size ≤ g2 → IsI w2 g2 d → Below w1.heap.size w1 w2 → Calls Tryd.prog 36 #[.pointer (some ⟨W.heap.size, 0, none⟩), .pointer (some ⟨g1, 0, none⟩), .pointer (some ⟨g2, 0, none⟩)] w2 (NewR (numI n d) (denI n d) W) from fun w1 w2 g1 g2 k1 k2 k3 k4 k5 k6 => by
    have hb1 := blk_below (blk_new W zeroR) k3
    have hs := k3.size
    have l1 : g1 ≠ W.heap.size := by have : (W.alloc zeroR).heap.size = W.heap.size + 1 := by simp
                                     omega
    have l2 : g2 ≠ W.heap.size := by have : (W.alloc zeroR).heap.size = W.heap.size + 1 := by simp
                                     omega
    refine (impl_exactRat_SetFrac.law W.heap.size g1 g2 n d _ _ _ w2 (blk_below hb1 k6) (k2.below k6) k5 l1 l2 fn fd hd).mono fun e w' h => ?_
    have hW2 : Below W.heap.size W w2 := below_step (below_then (below_alloc (Below.refl W.heap.size W) zeroR) (by simp) k3) k6
    exact ⟨_, h.1, Nat.le_refl _, h.2.1, below_at hW2 h.2.2 (Nat.le_refl _)⟩)
  go_enter Tryd.func22, Tryd.ntmps22
  go_wp2_with (first
    | (go_at_call_of 37 n; refine h1.out.mono ?_; rintro e w1 hq; have B1 := Aside0.mk hq.below; obtain ⟨g1, rfl, k1_, k2_, k3_⟩ := hq; have K1 := Aside0.mk k1_; have K2 := Aside0.mk k2_; clear k1_ k2_ k3_)
    | (go_at_call_of 37 d; refine (h2.out w1).mono ?_; rintro e w2 hq; have B2 := Aside0.mk hq.below; obtain ⟨g2, rfl, k1_, k2_, k3_⟩ := hq; have K4 := Aside0.mk k1_; have K5 := Aside0.mk k2_; clear k1_ k2_ k3_)
    | (go_at_call 36; refine (h3.out w1 w2 g1 g2 K1.out K2.out B1.out K4.out K5.out B2.out).mono ?_; rintro e w3 hq; obtain ⟨g3, rfl, k1_⟩ := hq; have HQ := Aside0.mk k1_; clear k1_))
  go_ret
  exact ⟨g3, rfl, HQ.out⟩
end Go.Proofs.YtdgohcdemnmieaaDoor.A

/- Fractions of any size: the sign, copies, opposites. Conditions: integers of at most 20 digits of 32 bits. -/
namespace Go.Proofs.YtdgohcdemnmieaaDoor.A
set_option linter.unusedVariables false
set_option linter.unusedSimpArgs false
open Go.RowKit Go.Proofs.YtdgohcdemnmieaaDoorW.PrintWords Go.Proofs.YtdgohcdemnmieaaDoorW.PrintLast Go.Proofs.YtdgohcdemnmieaaDoorW.PrintMore

end Go.Proofs.YtdgohcdemnmieaaDoor.A

/- Fractions of any size: products and quotients. Conditions: integers of at most 20 digits of 32 bits; what is divided by is not 0. -/
namespace Go.Proofs.YtdgohcdemnmieaaDoor.A
set_option linter.unusedVariables false
set_option linter.unusedSimpArgs false
open Go.RowKit Go.Proofs.YtdgohcdemnmieaaDoorW.PrintWords Go.Proofs.YtdgohcdemnmieaaDoorW.PrintLast Go.Proofs.YtdgohcdemnmieaaDoorW.PrintMore
/-- Integers of at most 20 digits. -/
def Lo (X : Int) : Prop := (X.natAbs : Int) < 4294967296 ^ 20
theorem Lo.of {X : Int} (h : (X.natAbs : Int) < 1000000000000000000000000000000000000000000000000000000000000) : Lo X := by
  unfold Lo
  have := pw_mono (show 7 ≤ 20 by omega)
  have e : (4294967296 : Int) ^ 7 = 26959946667150639794667015087019630673637144422540572481103610249216 := by decide
  rw [e] at this
  generalize (4294967296 : Int) ^ 20 = P at *
  omega
theorem Lo.fits {X : Int} (h : Lo X) : Fits X := by
  have := pw_mono (show 20 ≤ 100 by omega)
  unfold Fits Lo at *
  generalize (4294967296 : Int) ^ 20 = P at *
  generalize (4294967296 : Int) ^ 100 = Q at *
  omega
theorem lo_mul {X Y : Int} (hx : Lo X) (hy : Lo Y) : ((X * Y).natAbs : Int) < 4294967296 ^ 40 := by
  unfold Lo at *
  have e : (4294967296 : Int) ^ 40 = 4294967296 ^ 20 * 4294967296 ^ 20 := by rw [← Int.pow_add]
  rw [Int.natAbs_mul, Int.natCast_mul, e]
  have h1 : (X.natAbs : Int) * (Y.natAbs : Int) ≤ (X.natAbs : Int) * 4294967296 ^ 20 := Int.mul_le_mul_of_nonneg_left (Int.le_of_lt hy) (by omega)
  have h2 : (X.natAbs : Int) * 4294967296 ^ 20 < 4294967296 ^ 20 * 4294967296 ^ 20 := Int.mul_lt_mul_of_pos_right hx (pw_pos 20)
  exact Int.lt_of_le_of_lt h1 h2
theorem fits_mul {X Y : Int} (hx : Lo X) (hy : Lo Y) : Fits (X * Y) := by
  have h := lo_mul hx hy
  have := pw_mono (show 40 ≤ 100 by omega)
  unfold Fits
  generalize (4294967296 : Int) ^ 40 = P at *
  generalize (4294967296 : Int) ^ 100 = Q at *
  omega
theorem grown_to {W w w' : World} {g : Nat} (h : Below W.heap.size W w) (hg : w.grownBy w' (some g)) : W.grownBy w' (some g) := World.grownBy.trans ⟨h.os, h.tape, h.output, h.size, fun k hk _ => h.block k hk⟩ hg
theorem size_alloc (W : World) (o : Obj) : (W.alloc o).heap.size = W.heap.size + 1 := by simp

set_option maxHeartbeats 1600000 in
set_option maxRecDepth 100000 in
theorem impl_exactRat_Mul.law (g gx gy : Nat) (N D N' D' : Int) (u0 u1 u2 : Value) (W : World) (hb : W.heap[g]? = some (.cells #[u0, u1, u2] 59 (0, 0))) (hx : IsR W gx N D) (hy : IsR W gy N' D') (lN : Lo N) (lD : Lo D) (lN' : Lo N') (lD' : Lo D') :
    Calls Tryd.prog 25 #[.pointer (some ⟨g, 0, none⟩), .pointer (some ⟨gx, 0, none⟩), .pointer (some ⟨gy, 0, none⟩)] W (PutR g (numI (N * N') (D * D')) (denI (N * N') (D * D')) W) := by
  have HX := Aside0.mk hx
  have HY := Aside0.mk hy
  have HB := Aside0.mk hb
  have L1 := Aside0.mk lN.fits
  have L2 := Aside0.mk lN'.fits
  have L3 := Aside0.mk lD.fits
  have L4 := Aside0.mk lD'.fits
  have F1 := Aside0.mk (fits_mul lN lN')
  have F2 := Aside0.mk (fits_mul lD lD')
  have NE := Aside0.mk (show D * D' ≠ 0 from Int.mul_ne_zero (by have := hx.pos; omega) (by have := hy.pos; omega))
  have B0 := Aside0.mk (below_alloc (Below.refl W.heap.size W) zeroI)
  clear hx hy hb lN lD lN' lD'
  go_enter Tryd.func25, Tryd.ntmps25
  go_wp2_with (first
    | (go_at_call_of 40 W.heap.size; refine (mul_at W.heap.size g1 g2 N N' w2 (blk_below (blk_below (blk_new W zeroI) B1.out) B2.out) (K1.out.below B2.out) K2.out (by have := G1.out; have := size_alloc W zeroI; omega) (by have := G2.out; have := B1.out.size; have := size_alloc W zeroI; omega) L1.out L2.out).mono ?_; rintro e w3 ⟨rfl, k1_, k2_⟩; have K3 := Aside0.mk k1_; have C3 := Aside0.mk (below_at C2.out k2_ (Nat.le_refl _)); have C3a := Aside0.mk (below_alloc C3.out zeroI); clear k1_ k2_)
    | (go_at_call_of 40 w3.heap.size; refine (mul_at w3.heap.size g3 g4 D D' w5 (blk_below (blk_below (blk_new w3 zeroI) B4.out) B5.out) (K4.out.below B5.out) K5.out (by have := G4.out; have := size_alloc w3 zeroI; omega) (by have := G5.out; have := B4.out.size; have := size_alloc w3 zeroI; omega) L3.out L4.out).mono ?_; rintro e w6 ⟨rfl, k1_, k2_⟩; have K6 := Aside0.mk k1_; have C6 := Aside0.mk (below_at C5.out k2_ C3.out.size); have K3' := Aside0.mk ((((K3.out.alloc zeroI).below B4.out).below B5.out).keep k2_ (notD_zeroI (blk_below (blk_below (blk_new w3 zeroI) B4.out) B5.out)) (by have := K3.out.lt; omega)); clear k1_ k2_)
    | (go_at_call 36; refine (impl_exactRat_SetFrac.law g W.heap.size w3.heap.size (N * N') (D * D') u0 u1 u2 w6 (blk_below HB.out C6.out) K3'.out K6.out (by have := blk_lt HB.out; omega) (by have := blk_lt HB.out; have := C3.out.size; omega) F1.out F2.out NE.out).mono ?_; rintro e w7 ⟨rfl, k1_, k2_⟩; have K7 := Aside0.mk k1_; have G7 := Aside0.mk (grown_to C6.out k2_); clear k1_ k2_)
    | (go_at_call_of 34 gx; refine (impl_exactRat_Denom.calls gx _ _ (w3.alloc zeroI) (HX.out.below C3a.out)).mono ?_; rintro e w4 hq; have B4 := Aside0.mk hq.below; obtain ⟨g3, rfl, k1_, k2_, -⟩ := hq; have G4 := Aside0.mk k1_; have K4 := Aside0.mk k2_; have C4 := Aside0.mk (below_then C3a.out (by first | exact C3a.out.size) B4.out); clear k1_ k2_)
    | (go_at_call_of 34 gy; refine (impl_exactRat_Denom.calls gy _ _ w4 (HY.out.below C4.out)).mono ?_; rintro e w5 hq; have B5 := Aside0.mk hq.below; obtain ⟨g4, rfl, k1_, k2_, -⟩ := hq; have G5 := Aside0.mk k1_; have K5 := Aside0.mk k2_; have C5 := Aside0.mk (below_then C4.out (by first | exact C4.out.size) B5.out); clear k1_ k2_)
    | (go_at_call_of 32 gx; refine (impl_exactRat_Num.calls gx _ (W.alloc zeroI) (HX.out.below B0.out).num).mono ?_; rintro e w1 hq; have B1 := Aside0.mk hq.below; obtain ⟨g1, rfl, k1_, k2_, -⟩ := hq; have G1 := Aside0.mk k1_; have K1 := Aside0.mk k2_; have C1 := Aside0.mk (below_then B0.out (by first | exact B0.out.size) B1.out); clear k1_ k2_)
    | (go_at_call_of 32 gy; refine (impl_exactRat_Num.calls gy _ w1 (HY.out.below C1.out).num).mono ?_; rintro e w2 hq; have B2 := Aside0.mk hq.below; obtain ⟨g2, rfl, k1_, k2_, -⟩ := hq; have G2 := Aside0.mk k1_; have K2 := Aside0.mk k2_; have C2 := Aside0.mk (below_then C1.out (by first | exact C1.out.size) B2.out); clear k1_ k2_))
  go_ret
  exact ⟨rfl, K7.out, G7.out⟩
end Go.Proofs.YtdgohcdemnmieaaDoor.A

/- Fractions of any size: sums, differences, the order. Conditions: integers of at most 20 digits of 32 bits. -/
namespace Go.Proofs.YtdgohcdemnmieaaDoor.A
set_option linter.unusedVariables false
set_option linter.unusedSimpArgs false
open Go.RowKit Go.Proofs.YtdgohcdemnmieaaDoorW.PrintWords Go.Proofs.YtdgohcdemnmieaaDoorW.PrintLast Go.Proofs.YtdgohcdemnmieaaDoorW.PrintMore
end Go.Proofs.YtdgohcdemnmieaaDoor.A

/- Fractions of any size: differences, the order, what is read of a struct. Conditions: integers of at most 20 digits of 32 bits. -/
namespace Go.Proofs.YtdgohcdemnmieaaDoor.A
set_option linter.unusedVariables false
set_option linter.unusedSimpArgs false
open Go.RowKit Go.Proofs.YtdgohcdemnmieaaDoorW.PrintWords Go.Proofs.YtdgohcdemnmieaaDoorW.PrintLast Go.Proofs.YtdgohcdemnmieaaDoorW.PrintMore
set_option maxHeartbeats 1600000 in
set_option maxRecDepth 100000 in
theorem impl_Fraction_rat.law (n d : Int) (W : World) (n0 : -9223372036854775808 ≤ n) (n1 : n ≤ 9223372036854775807) (d0 : -9223372036854775808 ≤ d) (d1 : d ≤ 9223372036854775807) (hd : d ≠ 0) :
    Calls Tryd.prog 26 #[.agg #[.int .i64 n, .int .i64 d]] W (NewR (numI n d) (denI n d) W) := by
  have h := Aside0.mk (show ∀ w1, Below W.heap.size W w1 → Calls Tryd.prog 22 #[.int .i64 n, .int .i64 d] w1 (NewR (numI n d) (denI n d) W) from fun w1 hB => (impl_newRat.law n d w1 n0 n1 d0 d1 hd).mono fun e w' h => by
    obtain ⟨g, k1, k2, k3, k4⟩ := h
    exact ⟨g, k1, Nat.le_trans hB.size k2, k3, below_step hB k4⟩)
  have hu23 := Tryd.underlying35
  clear n0 n1 d0 d1 hd
  go_enter Tryd.func26, Tryd.ntmps26
  go_wp2_with (first
    | (go_at_call 22; refine (h.out _ (below_alloc (Below.refl _ _) _)).mono ?_; rintro e w1 ⟨g1, rfl, k_⟩; have K := Aside0.mk k_; clear k_))
  go_ret
  exact ⟨g1, rfl, K.out⟩
end Go.Proofs.YtdgohcdemnmieaaDoor.A

/- Valid fractions, and which numbers are. Conditions: integers of at most 90 digits of 32 bits. -/
namespace Go.Proofs.YtdgohcdemnmieaaDoor.A
set_option linter.unusedVariables false
set_option linter.unusedSimpArgs false
open Go.RowKit Go.Proofs.YtdgohcdemnmieaaDoorW.PrintWords Go.Proofs.YtdgohcdemnmieaaDoorW.PrintLast Go.Proofs.YtdgohcdemnmieaaDoorW.PrintMore
theorem gcdI_loop : ∀ (m : Nat) (a b : Int), b.natAbs ≤ m → a.natAbs ≤ 9223372036854775807 → b.natAbs ≤ 9223372036854775807 → ∀ K, impl_gcd.l0 (K + (m + 1)) a b = some ((Nat.gcd a.natAbs b.natAbs : Nat) : Int) := by
  intro m
  induction m with
  | zero =>
    intro a b hb ha hb' K
    have e : b = 0 := by omega
    subst e
    have hw : wrap64 (-a) = -a := w64 (by omega) (by omega)
    have hm : mx a (-a) = (a.natAbs : Int) := by unfold mx; split <;> omega
    show impl_gcd.l0 (K + 0 + 1) a 0 = _
    unfold impl_gcd.l0
    rw [if_pos rfl, hw, hm]
    simp
  | succ m ih =>
    intro a b hb ha hb' K
    by_cases h : b = 0
    · subst h
      have hw : wrap64 (-a) = -a := w64 (by omega) (by omega)
      have hm : mx a (-a) = (a.natAbs : Int) := by unfold mx; split <;> omega
      rw [show K + (m + 1 + 1) = K + (m + 1) + 1 by omega]
      unfold impl_gcd.l0
      rw [if_pos rfl, hw, hm]
      simp
    · have hr : (Int.tmod a b).natAbs = a.natAbs % b.natAbs := Int.natAbs_tmod a b
      have hlt : a.natAbs % b.natAbs < b.natAbs := Nat.mod_lt _ (by omega)
      have h2 := ih b (Int.tmod a b) (by omega) hb' (by omega) K
      rw [show K + (m + 1 + 1) = K + (m + 1) + 1 by omega]
      conv => lhs; unfold impl_gcd.l0
      rw [if_neg h, h2, hr, Nat.gcd_comm b.natAbs, ← Nat.gcd_rec, Nat.gcd_comm]
/-- Valid fractions. -/
def okF (n d : Int) : Bool := decide ((1 ≤ d ∧ d ≤ 1000000000000000000) ∧ (-1000000000000000000 ≤ n ∧ n ≤ 1000000000000000000) ∧ Nat.gcd n.natAbs d.natAbs = 1)
theorem okF_iff {n d : Int} : okF n d = true ↔ (1 ≤ d ∧ d ≤ 1000000000000000000) ∧ (-1000000000000000000 ≤ n ∧ n ≤ 1000000000000000000) ∧ Nat.gcd n.natAbs d.natAbs = 1 := by unfold okF; rw [decide_eq_true_iff]
theorem within_is (a b c : Int) : impl_within.f a b c = some (decide (b ≤ a ∧ a ≤ c)) := by
  unfold impl_within.f
  by_cases h : a ≥ b
  · rw [if_pos h]; have h' : b ≤ a := h; simp [h']
  · rw [if_neg h]; have h' : ¬ b ≤ a := h; simp [h']
theorem valid_is (n d : Int) : ∃ m, ∀ K, impl_ValidFraction.f (K + m) n d = some (okF n d) := by
  by_cases h1 : 1 ≤ d ∧ d ≤ 1000000000000000000
  · by_cases h2 : -1000000000000000000 ≤ n ∧ n ≤ 1000000000000000000
    · refine ⟨d.natAbs + 1, fun K => ?_⟩
      have hg := gcdI_loop d.natAbs n d (Nat.le_refl _) (by omega) (by omega) K
      unfold impl_ValidFraction.f impl_gcd.f
      rw [within_is, within_is, decide_eq_true h1, decide_eq_true h2]
      simp only [Option.bind_some, if_pos]
      rw [hg]
      simp only [Option.bind_some]
      congr 1
      unfold okF
      by_cases h3 : Nat.gcd n.natAbs d.natAbs = 1
      · rw [decide_eq_true (show _ ∧ _ ∧ _ from ⟨h1, h2, h3⟩), h3]; rfl
      · rw [decide_eq_false (fun h => h3 h.2.2), beq_eq_false_iff_ne]; omega
    · refine ⟨0, fun K => ?_⟩
      unfold impl_ValidFraction.f okF
      rw [within_is, within_is, decide_eq_true h1, decide_eq_false h2, decide_eq_false (fun h => h2 h.2.1)]
      rfl
  · refine ⟨0, fun K => ?_⟩
    unfold impl_ValidFraction.f okF
    rw [within_is, decide_eq_false h1, decide_eq_false (fun h => h1 h.1)]
    rfl
theorem impl_ValidFraction.law (n d : Int) (w : World) : Calls Tryd.prog 23 #[.agg #[.int .i64 n, .int .i64 d]] w fun e w' => e = .returned (.bool (okF n d)) ∧ Below w.heap.size w w' := by
  obtain ⟨m, hm⟩ := valid_is n d
  exact impl_ValidFraction.calls (0 + m) n d (okF n d) w (hm 0)
/-- What checkedRat tells of a number. -/
def chkF (N D : Int) : Int × Int × Bool := if in64 N = true ∧ in64 D = true ∧ okF N D = true then (N, D, true) else (0, 0, false)
/-- A fraction and whether it is valid, as they are returned. -/
def retF (r : Int × Int × Bool) : Ending := .returned (.tuple #[.agg #[.int .i64 r.1, .int .i64 r.2.1], .bool r.2.2])
/-- A result's block: two cells. -/
theorem two_cells {w : World} {n : Nat} {a b : Value} (h : w.heap[n]? = some (.cells #[a, b] 35 (0, 0))) : w.cell? ⟨n, 0, none⟩ = some a ∧ w.cell? ⟨n, 1, none⟩ = some b ∧ w.frozen? ⟨n, 0, none⟩ = false ∧ w.frozen? ⟨n, 1, none⟩ = false := ⟨(blk_cell h 0).trans rfl, (blk_cell h 1).trans rfl, blk_frozen h 0, blk_frozen h 1⟩
abbrev zeroF : Obj := .cells #[.int .i64 0, .int .i64 0] 35 (0, 0)
theorem below_set2 {W w : World} {n : Nat} (h : Below W.heap.size W w) (hn : W.heap.size ≤ n) (a b : Value) : Below W.heap.size W ((w.setCell ⟨n, 0, none⟩ a).setCell ⟨n, 1, none⟩ b) := below_at h (grown_set (grown_set (World.grownBy.refl w _) 0 a) 1 b) hn
set_option maxHeartbeats 3200000 in
set_option maxRecDepth 100000 in
theorem impl_checkedRat.no1 (g : Nat) (N D : Int) (W : World) (hx : IsR W g N D) (fN : Fits2 N) (fD : Fits2 D) (c1 : in64 N = false) :
    Calls Tryd.prog 21 #[.pointer (some ⟨g, 0, none⟩)] W (fun e w' => e = retF (chkF N D) ∧ Below W.heap.size W w') := by
  have HX := Aside0.mk hx
  have FN := Aside0.mk fN
  have FD := Aside0.mk fD
  have CA := Aside0.mk (below_alloc (Below.refl W.heap.size W) zeroF)
  have hu23 := Tryd.underlying35
  have hr : chkF N D = (0, 0, false) := if_neg (fun h => by rw [c1] at h; exact absurd h.1 (by decide))
  rw [hr]
  clear hx fN fD
  go_enter Tryd.func21, Tryd.ntmps21
  go_wp2_with (first
    | (go_at_call 32; refine (impl_exactRat_Num.calls g N _ (HX.out.below CA.out).num).mono ?_; rintro e w1 hq; have B1 := Aside0.mk (below_step CA.out hq.below); have BK1 := Aside0.mk (blk_below (blk_new W zeroF) hq.below); obtain ⟨g1, rfl, k1_, k2_, -⟩ := hq; have K1 := Aside0.mk k2_; clear k1_ k2_)
    | (go_at_call_of 33 g1; refine (impl_exactInt_IsInt64.law g1 N w1 K1.out FN.out).mono ?_; rintro e w2 ⟨rfl, hB⟩; have B2 := Aside0.mk (below_step B1.out hB); have BK2 := Aside0.mk (blk_below BK1.out hB); obtain ⟨z0, z1, z2, z3⟩ := two_cells BK2.out; clear hB))
  refine bodyPost_ret (results_ct rfl _ _ W.heap.size 35 #[.int .i64 0, .int .i64 0] (0, 0) _ rfl (by refine blk_put (cs := #[.int .i64 0, .int .i64 0]) ?_ 1 _ rfl; refine blk_put (cs := #[.int .i64 0, .int .i64 0]) ?_ 0 _ rfl; exact BK2.out) Tryd.underlying35 rfl (by kernel_rfl)) rfl ?_
  exact ⟨rfl, below_set2 B2.out (Nat.le_refl _) _ _⟩
set_option maxHeartbeats 3200000 in
set_option maxRecDepth 100000 in
theorem impl_checkedRat.no2 (g : Nat) (N D : Int) (W : World) (hx : IsR W g N D) (fN : Fits2 N) (fD : Fits2 D) (c1 : in64 N = true) (c2 : in64 D = false) :
    Calls Tryd.prog 21 #[.pointer (some ⟨g, 0, none⟩)] W (fun e w' => e = retF (chkF N D) ∧ Below W.heap.size W w') := by
  have HX := Aside0.mk hx
  have FN := Aside0.mk fN
  have FD := Aside0.mk fD
  have CA := Aside0.mk (below_alloc (Below.refl W.heap.size W) zeroF)
  have hu23 := Tryd.underlying35
  have hr : chkF N D = (0, 0, false) := if_neg (fun h => by rw [c2] at h; exact absurd h.2.1 (by decide))
  rw [hr]
  clear hx fN fD
  go_enter Tryd.func21, Tryd.ntmps21
  go_wp2_with (first
    | (go_at_call_of 33 g3; refine (impl_exactInt_IsInt64.law g3 D w3 K3.out FD.out).mono ?_; rintro e w4 ⟨rfl, hB⟩; have B4 := Aside0.mk (below_step B3.out hB); have BK4 := Aside0.mk (blk_below BK3.out hB); obtain ⟨z0, z1, z2, z3⟩ := two_cells BK4.out; clear hB)
    | (go_at_call 34; refine (impl_exactRat_Denom.calls g N D w2 (HX.out.below B2.out)).mono ?_; rintro e w3 hq; have B3 := Aside0.mk (below_step B2.out hq.below); have BK3 := Aside0.mk (blk_below BK2.out hq.below); obtain ⟨g3, rfl, k1_, k2_, -⟩ := hq; have K3 := Aside0.mk k2_; clear k1_ k2_)
    | (go_at_call 32; refine (impl_exactRat_Num.calls g N _ (HX.out.below CA.out).num).mono ?_; rintro e w1 hq; have B1 := Aside0.mk (below_step CA.out hq.below); have BK1 := Aside0.mk (blk_below (blk_new W zeroF) hq.below); obtain ⟨g1, rfl, k1_, k2_, -⟩ := hq; have K1 := Aside0.mk k2_; clear k1_ k2_)
    | (go_at_call_of 33 g1; refine (impl_exactInt_IsInt64.law g1 N w1 K1.out FN.out).mono ?_; rintro e w2 ⟨rfl, hB⟩; have B2 := Aside0.mk (below_step B1.out hB); have BK2 := Aside0.mk (blk_below BK1.out hB); clear hB))
  refine bodyPost_ret (results_ct rfl _ _ W.heap.size 35 #[.int .i64 0, .int .i64 0] (0, 0) _ rfl (by refine blk_put (cs := #[.int .i64 0, .int .i64 0]) ?_ 1 _ rfl; refine blk_put (cs := #[.int .i64 0, .int .i64 0]) ?_ 0 _ rfl; exact BK4.out) Tryd.underlying35 rfl (by kernel_rfl)) rfl ?_
  exact ⟨rfl, below_set2 B4.out (Nat.le_refl _) _ _⟩
set_option maxHeartbeats 3200000 in
set_option maxRecDepth 100000 in
theorem impl_checkedRat.no3 (g : Nat) (N D : Int) (W : World) (hx : IsR W g N D) (fN : Fits2 N) (fD : Fits2 D) (c1 : in64 N = true) (c2 : in64 D = true) (c3 : okF N D = false) :
    Calls Tryd.prog 21 #[.pointer (some ⟨g, 0, none⟩)] W (fun e w' => e = retF (chkF N D) ∧ Below W.heap.size W w') := by
  have HX := Aside0.mk hx
  have FN := Aside0.mk fN
  have FD := Aside0.mk fD
  have CA := Aside0.mk (below_alloc (Below.refl W.heap.size W) zeroF)
  have hu23 := Tryd.underlying35
  have hr : chkF N D = (0, 0, false) := if_neg (fun h => by rw [c3] at h; exact absurd h.2.2 (by decide))
  rw [hr]
  have hwN : wrap64 N = N := by unfold in64 at c1; have := of_decide_eq_true c1; exact w64 this.1 this.2
  have hwD : wrap64 D = D := by unfold in64 at c2; have := of_decide_eq_true c2; exact w64 this.1 this.2
  clear hx fN fD
  go_enter Tryd.func21, Tryd.ntmps21
  go_wp2_with (first
    | (go_at_call 23; refine (impl_ValidFraction.law N D _).mono ?_; rintro e w9 ⟨rfl, hB⟩; have B9 := Aside0.mk (below_step (below_alloc B8.out _) hB); have BK9 := Aside0.mk (blk_below (blk_alloc BK8.out _) hB); obtain ⟨z0, z1, z2, z3⟩ := two_cells BK9.out; have BF9 := Aside0.mk (blk_below (blk_new w8 _) hB); obtain ⟨y0, y1, -, -⟩ := two_cells BF9.out; clear hB)
    | (go_at_call_of 35 g7; refine (impl_exactInt_Int64.law g7 D w7 K7.out FD.out.fits).mono ?_; rintro e w8 ⟨rfl, n8, h8⟩; rw [hwD]; have B8 := Aside0.mk (show Below W.heap.size W w8 by rw [h8]; exact pw_below_drewN B7.out n8); have BK8 := Aside0.mk (show w8.heap[W.heap.size]? = some zeroF by rw [h8]; exact BK7.out); clear h8)
    | (go_at_call 34; refine (impl_exactRat_Denom.calls g N D w6 (HX.out.below B6.out)).mono ?_; rintro e w7 hq; have B7 := Aside0.mk (below_step B6.out hq.below); have BK7 := Aside0.mk (blk_below BK6.out hq.below); obtain ⟨g7, rfl, k1_, k2_, -⟩ := hq; have K7 := Aside0.mk k2_; clear k1_ k2_)
    | (go_at_call_of 35 g5; refine (impl_exactInt_Int64.law g5 N w5 K5.out FN.out.fits).mono ?_; rintro e w6 ⟨rfl, n6, h6⟩; rw [hwN]; have B6 := Aside0.mk (show Below W.heap.size W w6 by rw [h6]; exact pw_below_drewN B5.out n6); have BK6 := Aside0.mk (show w6.heap[W.heap.size]? = some zeroF by rw [h6]; exact BK5.out); clear h6)
    | (go_at_call 32; refine (impl_exactRat_Num.calls g N w4 (HX.out.below B4.out).num).mono ?_; rintro e w5 hq; have B5 := Aside0.mk (below_step B4.out hq.below); have BK5 := Aside0.mk (blk_below BK4.out hq.below); obtain ⟨g5, rfl, k1_, k2_, -⟩ := hq; have K5 := Aside0.mk k2_; clear k1_ k2_)
    | (go_at_call_of 33 g3; refine (impl_exactInt_IsInt64.law g3 D w3 K3.out FD.out).mono ?_; rintro e w4 ⟨rfl, hB⟩; have B4 := Aside0.mk (below_step B3.out hB); have BK4 := Aside0.mk (blk_below BK3.out hB); clear hB)
    | (go_at_call 34; refine (impl_exactRat_Denom.calls g N D w2 (HX.out.below B2.out)).mono ?_; rintro e w3 hq; have B3 := Aside0.mk (below_step B2.out hq.below); have BK3 := Aside0.mk (blk_below BK2.out hq.below); obtain ⟨g3, rfl, k1_, k2_, -⟩ := hq; have K3 := Aside0.mk k2_; clear k1_ k2_)
    | (go_at_call 32; refine (impl_exactRat_Num.calls g N _ (HX.out.below CA.out).num).mono ?_; rintro e w1 hq; have B1 := Aside0.mk (below_step CA.out hq.below); have BK1 := Aside0.mk (blk_below (blk_new W zeroF) hq.below); obtain ⟨g1, rfl, k1_, k2_, -⟩ := hq; have K1 := Aside0.mk k2_; clear k1_ k2_)
    | (go_at_call_of 33 g1; refine (impl_exactInt_IsInt64.law g1 N w1 K1.out FN.out).mono ?_; rintro e w2 ⟨rfl, hB⟩; have B2 := Aside0.mk (below_step B1.out hB); have BK2 := Aside0.mk (blk_below BK1.out hB); clear hB))
  refine bodyPost_ret (results_ct rfl _ _ W.heap.size 35 #[.int .i64 0, .int .i64 0] (0, 0) _ rfl (by refine blk_put (cs := #[.int .i64 0, .int .i64 0]) ?_ 1 _ rfl; refine blk_put (cs := #[.int .i64 0, .int .i64 0]) ?_ 0 _ rfl; exact BK9.out) Tryd.underlying35 rfl (by kernel_rfl)) rfl ?_
  exact ⟨rfl, below_set2 B9.out (Nat.le_refl _) _ _⟩
set_option maxHeartbeats 3200000 in
set_option maxRecDepth 100000 in
theorem impl_checkedRat.yes (g : Nat) (N D : Int) (W : World) (hx : IsR W g N D) (fN : Fits2 N) (fD : Fits2 D) (c1 : in64 N = true) (c2 : in64 D = true) (c3 : okF N D = true) :
    Calls Tryd.prog 21 #[.pointer (some ⟨g, 0, none⟩)] W (fun e w' => e = retF (chkF N D) ∧ Below W.heap.size W w') := by
  have HX := Aside0.mk hx
  have FN := Aside0.mk fN
  have FD := Aside0.mk fD
  have CA := Aside0.mk (below_alloc (Below.refl W.heap.size W) zeroF)
  have hu23 := Tryd.underlying35
  have hr : chkF N D = (N, D, true) := if_pos ⟨c1, c2, c3⟩
  rw [hr]
  have hwN : wrap64 N = N := by unfold in64 at c1; have := of_decide_eq_true c1; exact w64 this.1 this.2
  have hwD : wrap64 D = D := by unfold in64 at c2; have := of_decide_eq_true c2; exact w64 this.1 this.2
  clear hx fN fD
  go_enter Tryd.func21, Tryd.ntmps21
  go_wp2_with (first
    | (go_at_call 23; refine (impl_ValidFraction.law N D _).mono ?_; rintro e w9 ⟨rfl, hB⟩; have B9 := Aside0.mk (below_step (below_alloc B8.out _) hB); have BK9 := Aside0.mk (blk_below (blk_alloc BK8.out _) hB); obtain ⟨z0, z1, z2, z3⟩ := two_cells BK9.out; have BF9 := Aside0.mk (blk_below (blk_new w8 _) hB); obtain ⟨y0, y1, -, -⟩ := two_cells BF9.out; clear hB)
    | (go_at_call_of 35 g7; refine (impl_exactInt_Int64.law g7 D w7 K7.out FD.out.fits).mono ?_; rintro e w8 ⟨rfl, n8, h8⟩; rw [hwD]; have B8 := Aside0.mk (show Below W.heap.size W w8 by rw [h8]; exact pw_below_drewN B7.out n8); have BK8 := Aside0.mk (show w8.heap[W.heap.size]? = some zeroF by rw [h8]; exact BK7.out); clear h8)
    | (go_at_call 34; refine (impl_exactRat_Denom.calls g N D w6 (HX.out.below B6.out)).mono ?_; rintro e w7 hq; have B7 := Aside0.mk (below_step B6.out hq.below); have BK7 := Aside0.mk (blk_below BK6.out hq.below); obtain ⟨g7, rfl, k1_, k2_, -⟩ := hq; have K7 := Aside0.mk k2_; clear k1_ k2_)
    | (go_at_call_of 35 g5; refine (impl_exactInt_Int64.law g5 N w5 K5.out FN.out.fits).mono ?_; rintro e w6 ⟨rfl, n6, h6⟩; rw [hwN]; have B6 := Aside0.mk (show Below W.heap.size W w6 by rw [h6]; exact pw_below_drewN B5.out n6); have BK6 := Aside0.mk (show w6.heap[W.heap.size]? = some zeroF by rw [h6]; exact BK5.out); clear h6)
    | (go_at_call 32; refine (impl_exactRat_Num.calls g N w4 (HX.out.below B4.out).num).mono ?_; rintro e w5 hq; have B5 := Aside0.mk (below_step B4.out hq.below); have BK5 := Aside0.mk (blk_below BK4.out hq.below); obtain ⟨g5, rfl, k1_, k2_, -⟩ := hq; have K5 := Aside0.mk k2_; clear k1_ k2_)
    | (go_at_call_of 33 g3; refine (impl_exactInt_IsInt64.law g3 D w3 K3.out FD.out).mono ?_; rintro e w4 ⟨rfl, hB⟩; have B4 := Aside0.mk (below_step B3.out hB); have BK4 := Aside0.mk (blk_below BK3.out hB); clear hB)
    | (go_at_call 34; refine (impl_exactRat_Denom.calls g N D w2 (HX.out.below B2.out)).mono ?_; rintro e w3 hq; have B3 := Aside0.mk (below_step B2.out hq.below); have BK3 := Aside0.mk (blk_below BK2.out hq.below); obtain ⟨g3, rfl, k1_, k2_, -⟩ := hq; have K3 := Aside0.mk k2_; clear k1_ k2_)
    | (go_at_call 32; refine (impl_exactRat_Num.calls g N _ (HX.out.below CA.out).num).mono ?_; rintro e w1 hq; have B1 := Aside0.mk (below_step CA.out hq.below); have BK1 := Aside0.mk (blk_below (blk_new W zeroF) hq.below); obtain ⟨g1, rfl, k1_, k2_, -⟩ := hq; have K1 := Aside0.mk k2_; clear k1_ k2_)
    | (go_at_call_of 33 g1; refine (impl_exactInt_IsInt64.law g1 N w1 K1.out FN.out).mono ?_; rintro e w2 ⟨rfl, hB⟩; have B2 := Aside0.mk (below_step B1.out hB); have BK2 := Aside0.mk (blk_below BK1.out hB); clear hB))
  refine bodyPost_ret (results_ct rfl _ _ W.heap.size 35 #[.int .i64 N, .int .i64 D] (0, 0) _ rfl (by refine blk_put (cs := #[.int .i64 N, .int .i64 0]) ?_ 1 _ rfl; refine blk_put (cs := #[.int .i64 0, .int .i64 0]) ?_ 0 _ rfl; exact BK9.out) Tryd.underlying35 rfl (by kernel_rfl)) rfl ?_
  exact ⟨rfl, below_set2 B9.out (Nat.le_refl _) _ _⟩
theorem impl_checkedRat.law (g : Nat) (N D : Int) (W : World) (hx : IsR W g N D) (fN : Fits2 N) (fD : Fits2 D) :
    Calls Tryd.prog 21 #[.pointer (some ⟨g, 0, none⟩)] W (fun e w' => e = retF (chkF N D) ∧ Below W.heap.size W w') := by
  cases c1 : in64 N
  · exact impl_checkedRat.no1 g N D W hx fN fD c1
  · cases c2 : in64 D
    · exact impl_checkedRat.no2 g N D W hx fN fD c1 c2
    · cases c3 : okF N D
      · exact impl_checkedRat.no3 g N D W hx fN fD c1 c2 c3
      · exact impl_checkedRat.yes g N D W hx fN fD c1 c2 c3
end Go.Proofs.YtdgohcdemnmieaaDoor.A

/- What the functions over fractions tell. Conditions: none beyond the sizes of the arguments. -/
namespace Go.Proofs.YtdgohcdemnmieaaDoor.A
set_option linter.unusedVariables false
set_option linter.unusedSimpArgs false
open Go.RowKit Go.Proofs.YtdgohcdemnmieaaDoorW.PrintWords Go.Proofs.YtdgohcdemnmieaaDoorW.PrintLast Go.Proofs.YtdgohcdemnmieaaDoorW.PrintMore
/-- A quotient as a valid fraction, if it is one. -/
def mkF (N D : Int) : Int × Int × Bool := chkF (numI N D) (denI N D)
theorem numI_le (N D : Int) : (numI N D).natAbs ≤ N.natAbs := by
  have h : (N.natAbs : Int) / gcdI N D ≤ N.natAbs := Int.ediv_le_self _ (by omega)
  have h0 : 0 ≤ (N.natAbs : Int) / gcdI N D := Int.ediv_nonneg (by omega) (by unfold gcdI; omega)
  unfold numI sgn
  split <;> omega
theorem denI_le (N D : Int) : (denI N D).natAbs ≤ D.natAbs := by
  have h : (D.natAbs : Int) / gcdI N D ≤ D.natAbs := Int.ediv_le_self _ (by omega)
  have h0 : 0 ≤ (D.natAbs : Int) / gcdI N D := Int.ediv_nonneg (by omega) (by unfold gcdI; omega)
  unfold denI
  omega
theorem fits2_num {N D : Int} (h : Fits2 N) : Fits2 (numI N D) := by
  have := numI_le N D
  unfold Fits2 at *
  generalize (4294967296 : Int) ^ 90 = P at *
  omega
theorem fits2_den {N D : Int} (h : Fits2 D) : Fits2 (denI N D) := by
  have := denI_le N D
  unfold Fits2 at *
  generalize (4294967296 : Int) ^ 90 = P at *
  omega
theorem checked_new (g : Nat) (N D : Int) (W : World) (hx : IsR W g (numI N D) (denI N D)) (fN : Fits2 N) (fD : Fits2 D) :
    Calls Tryd.prog 21 #[.pointer (some ⟨g, 0, none⟩)] W (fun e w' => e = .returned (.tuple #[.agg #[.int .i64 (mkF N D).1, .int .i64 (mkF N D).2.1], .bool (mkF N D).2.2]) ∧ Below W.heap.size W w') :=
  impl_checkedRat.law g (numI N D) (denI N D) W hx (fits2_num fN) (fits2_den fD)
end Go.Proofs.YtdgohcdemnmieaaDoor.A
