-- Printed by this session's oprint.py through the kit's printer.
import Derived.Test.YtbemhcdklmcbcaaDoorA0
namespace Go.Proofs.YtbemhcdklmcbcaaDoor.A
open Go.RowKit Go.Proofs.YtbemhcdklmcbcaaDoorW.PrintWords Go.Proofs.YtbemhcdklmcbcaaDoorW.PrintLast Go.Proofs.YtbemhcdklmcbcaaDoorW.PrintMore
attribute [local go_sem] max2_int min2_int max_two min_two max_three min_three max_four min_four   -- for this text's walks alone
set_option linter.unusedVariables false
set_option linter.unusedSimpArgs false

/-- A state of type 82 at block g of W; what its slices lead to came in by w0. -/
def IsS82 (w0 W : World) (g : Nat) (f0 : Bool) (f1 : List Int) : Prop := ∃ A1 c1, W.heap[g]? = some (.cells #[.bool f0, .slice A1 f1.length c1] 82 (0, 0)) ∧ w0.heap.size ≤ g ∧ Kd.C (Kd.int .u32) w0 A1 f1.length f1
theorem IsS82.grown {w0 W : World} {g : Nat} {f0 : Bool} {f1 : List Int} {W1 : World} {row : Option Nat} (h : IsS82 w0 W g f0 f1) (hw : W.grownBy W1 row) (hne : some g ≠ row) : IsS82 w0 W1 g f0 f1 := by
  obtain ⟨A1, c1, hb, hg, hr1⟩ := h
  exact ⟨A1, c1, blk_grown hb hw hne, hg, hr1⟩
theorem IsS82.own_neN {w0 W : World} {g : Nat} {f0 : Bool} {f1 : List Int} {α : Type} {d : Kd α} {e : Nat} {base : Nat} {ok : Nat → Prop} {v : Value} {xs : List α} (h : IsS82 w0 W g f0 f1) (ho : Kd.N d e W base ok v xs) (ht : e ≠ 82) : some g ≠ v.ownBlock := by
  obtain ⟨A1, c1, hb, hg, hr1⟩ := h
  exact Kd.N_ne ho hb ht
theorem IsS82.fresh {w0 W : World} {g : Nat} {f0 : Bool} {f1 : List Int} (h : IsS82 w0 W g f0 f1) : ∀ k, W.heap.size ≤ k → k ≠ g := by
  obtain ⟨A1, c1, hb, hg, hr1⟩ := h
  exact Kd.freshB hb
theorem IsS82.kept {w0 W : World} {g : Nat} {f0 : Bool} {f1 : List Int} {W1 : World} {S : Nat → Prop} (h : IsS82 w0 W g f0 f1) (hk : Kept W W1 S) (hne : ¬ S g) : IsS82 w0 W1 g f0 f1 := by
  obtain ⟨A1, c1, hb, hg, hr1⟩ := h
  exact ⟨A1, c1, blk_kept hb hk hne, hg, hr1⟩
theorem IsS82.below {w0 W : World} {g : Nat} {f0 : Bool} {f1 : List Int} {W1 : World} (h : IsS82 w0 W g f0 f1) (hw : Below W.heap.size W W1) : IsS82 w0 W1 g f0 f1 := h.grown (grown_of_below hw none) (by simp)
theorem IsS82.alloc {w0 W : World} {g : Nat} {f0 : Bool} {f1 : List Int} (h : IsS82 w0 W g f0 f1) (o : Obj) : IsS82 w0 (W.alloc o) g f0 f1 := h.below (below_alloc (Below.refl _ _) o)
theorem IsS82.drewN {w0 W : World} {g : Nat} {f0 : Bool} {f1 : List Int} (h : IsS82 w0 W g f0 f1) (m : Nat) : IsS82 w0 (W.drewN m) g f0 f1 := h
theorem IsS82.drew {w0 W : World} {g : Nat} {f0 : Bool} {f1 : List Int} (h : IsS82 w0 W g f0 f1) : IsS82 w0 W.drew g f0 f1 := h
theorem IsS82.at_ {w0 W : World} {g : Nat} {f0 : Bool} {f1 : List Int} {w' : World} {m : Nat} (hq : W.drewN m = w') (h : IsS82 w0 W g f0 f1) : IsS82 w0 w' g f0 f1 := by subst hq; exact IsS82.drewN h m
theorem IsS82.apart {w0 W : World} {g : Nat} {f0 : Bool} {f1 : List Int} {α : Type} {d : Kd α} {e : Nat} {base : Nat} {ok : Nat → Prop} {v : Value} {xs : List α} (h : IsS82 w0 W g f0 f1) (ho : d.R e W base ok v xs) (ht : ∀ q, q ∈ e :: d.E → q ≠ 82) : d.R e W base (fun k => ok k ∧ k ≠ g) v xs := by
  obtain ⟨A1, c1, hb, hg, hr1⟩ := h
  exact Kd.R_types ho hb ht
theorem IsS82.own_ne {w0 W : World} {g : Nat} {f0 : Bool} {f1 : List Int} {α : Type} {d : Kd α} {e : Nat} {base : Nat} {ok : Nat → Prop} {v : Value} {xs : List α} (h : IsS82 w0 W g f0 f1) (ho : d.R e W base ok v xs) (ht : e ≠ 82) : some g ≠ v.ownBlock := by
  obtain ⟨A1, c1, hb, hg, hr1⟩ := h
  exact Kd.R_ne ho hb ht
theorem IsS82.apartQ {w0 W : World} {g : Nat} {f0 : Bool} {f1 : List Int} {α : Type} {d : Kd α} {e : Nat} {base : Nat} {ok : Nat → Prop} {v : Value} {xs : List α} (h : IsS82 w0 W g f0 f1) (ho : d.Q e W base ok v xs) (ht : ∀ q, q ∈ e :: d.E → q ≠ 82) : d.Q e W base (fun k => ok k ∧ k ≠ g) v xs := by
  obtain ⟨A1, c1, hb, hg, hr1⟩ := h
  exact Kd.Q_types ho hb ht
theorem IsS82.own_neQ {w0 W : World} {g : Nat} {f0 : Bool} {f1 : List Int} {α : Type} {d : Kd α} {e : Nat} {base : Nat} {ok : Nat → Prop} {v : Value} {xs : List α} (h : IsS82 w0 W g f0 f1) (ho : d.Q e W base ok v xs) (ht : e ≠ 82) : some g ≠ v.ownBlock := by
  obtain ⟨A1, c1, hb, hg, hr1⟩ := h
  exact Kd.Q_ne ho hb ht
theorem IsS82.apartS {w0 W : World} {g : Nat} {f0 : Bool} {f1 : List Int} {α : Type} {d : Kd α} {e : Nat} {base : Nat} {ok : Nat → Prop} {v : Value} {xs : List α} (h : IsS82 w0 W g f0 f1) (ho : d.S e W base ok v xs) (ht : ∀ q, q ∈ e :: d.E → q ≠ 82) : d.S e W base (fun k => ok k ∧ k ≠ g) v xs := by
  obtain ⟨A1, c1, hb, hg, hr1⟩ := h
  exact Kd.S_types ho hb ht
theorem IsS82.own_neS {w0 W : World} {g : Nat} {f0 : Bool} {f1 : List Int} {α : Type} {d : Kd α} {e : Nat} {base : Nat} {ok : Nat → Prop} {v : Value} {xs : List α} (h : IsS82 w0 W g f0 f1) (ho : d.S e W base ok v xs) (ht : e ≠ 82) : some g ≠ v.ownBlock := by
  obtain ⟨A1, c1, hb, hg, hr1⟩ := h
  exact Kd.S_ne ho hb ht
theorem IsS82.lt {w0 W : World} {g : Nat} {f0 : Bool} {f1 : List Int} (h : IsS82 w0 W g f0 f1) : g < W.heap.size := by
  obtain ⟨A1, c1, hb, hg, hr1⟩ := h
  exact blk_lt hb
theorem IsS82.ge {w0 W : World} {g : Nat} {f0 : Bool} {f1 : List Int} (h : IsS82 w0 W g f0 f1) : w0.heap.size ≤ g := by
  obtain ⟨A1, c1, hb, hg, hr1⟩ := h
  exact hg
theorem IsS82.ne_blk {w0 W : World} {g : Nat} {f0 : Bool} {f1 : List Int} {a : Nat} {cs : Array Value} {t : TypeId} {fr : Nat × Nat} (h : IsS82 w0 W g f0 f1) (hb2 : W.heap[a]? = some (.cells cs t fr)) (ht : t ≠ 82) : g ≠ a := by
  obtain ⟨A1, c1, hb, hg, hr1⟩ := h
  rintro rfl
  rw [hb] at hb2
  injection hb2 with hb2
  injection hb2 with _ ht2
  exact ht ht2.symm
theorem IsS82.far {w0 W : World} {g : Nat} {f0 : Bool} {f1 : List Int} {p : Addr} (h : IsS82 w0 W g f0 f1) (hne : g ≠ p.block) (u : Value) : IsS82 w0 (W.setCell p u) g f0 f1 := by
  obtain ⟨A1, c1, hb, hg, hr1⟩ := h
  exact ⟨A1, c1, blk_far hb hne u, hg, hr1⟩
theorem cellS82_0 {W : World} {g : Nat} {A1 : Option Addr} {c1 : Nat} {f0 : Bool} {f1 : List Int} (h : W.heap[g]? = some (.cells #[.bool f0, .slice A1 f1.length c1] 82 (0, 0))) : W.cell? ⟨g, 0, none⟩ = some (.bool f0) := (blk_cell h 0).trans rfl
theorem IsS82.set_0 {w0 W : World} {g : Nat} {f0 : Bool} {f1 : List Int} (h : IsS82 w0 W g f0 f1) (x : Bool) : IsS82 w0 (W.setCell ⟨g, 0, none⟩ (.bool x)) g x f1 := by
  obtain ⟨A1, c1, hb, hg, hr1⟩ := h
  exact ⟨A1, c1, by simpa using blk_set hb 0 (.bool x), hg, hr1⟩
theorem cellS82_1 {W : World} {g : Nat} {A1 : Option Addr} {c1 : Nat} {f0 : Bool} {f1 : List Int} (h : W.heap[g]? = some (.cells #[.bool f0, .slice A1 f1.length c1] 82 (0, 0))) : W.cell? ⟨g, 1, none⟩ = some (.slice A1 f1.length c1) := (blk_cell h 1).trans rfl
theorem IsS82.new (w0 W : World) (A1 : Option Addr) (c1 : Nat) (f0 : Bool) (f1 : List Int) (hB : Below w0.heap.size w0 W) (hr1 : Kd.C (Kd.int .u32) w0 A1 f1.length f1) : IsS82 w0 (W.alloc (.cells #[.bool f0, .slice A1 f1.length c1] 82)) W.heap.size f0 f1 := ⟨A1, c1, by simpa using heap_alloc_new W _, hB.size, hr1⟩

/-! ### impl_exactInt_put: function 85 -/
-- given: proved by hand (put.tpl)
/-- The number with these digits of 32 bits, the least ones first. -/
def val : List Int → Int
  | [] => 0
  | d :: l => d + 4294967296 * val l
def Digs (l : List Int) : Prop := ∀ x ∈ l, 0 ≤ x ∧ x < 4294967296
/-- Digits without a last one that is 0. -/
def Can (l : List Int) : Prop := Digs l ∧ ∀ h : l ≠ [], l.getLast h ≠ 0
/-- v is a slice with these digits, in memory for digits. -/
def Dg (W : World) (v : Value) (ds : List Int) : Prop := ∃ A c, v = .slice A ds.length c ∧ ds.length ≤ c ∧ Kd.C (Kd.int .u32) W A ds.length ds ∧ (∀ ad, A = some ad → ∃ cells, W.heap[ad.block]? = some (.cells cells 115 (0, 0))) ∧ Digs ds
theorem Dg.grown {W W' : World} {v : Value} {ds : List Int} {g : Nat} {cs : Array Value} {T : TypeId} (h : Dg W v ds) (hg : W.grownBy W' (some g)) (hb : W.heap[g]? = some (.cells cs T (0, 0))) (hT : T ≠ 115) : Dg W' v ds := by
  obtain ⟨A, c, rfl, hl, hC, ht, hd⟩ := h
  have hne : ∀ ad, A = some ad → ad.block ≠ g := by
    intro ad e hq
    obtain ⟨cells, hc⟩ := ht ad e
    rw [hq, hb] at hc
    injection hc with hc
    injection hc with _ h2
    exact hT h2
  refine ⟨A, c, rfl, hl, ⟨hC.1, hC.2.1, fun hp => ?_⟩, fun ad e => ?_, hd⟩
  · obtain ⟨ad, e, hcell⟩ := hC.2.2 hp
    refine ⟨ad, e, fun j p hj => ?_⟩
    obtain ⟨q, h1, h2, h3⟩ := hcell j p hj
    refine ⟨q, h1, h2, fun i u hu => hg.cell (h3 i u hu) ?_⟩
    have := hne ad e
    rw [add_block]; simpa using this
  · obtain ⟨cells, hc⟩ := ht ad e
    exact ⟨cells, blk_grown hc hg (by have := hne ad e; simpa using this)⟩
theorem Dg.below {W W' : World} {v : Value} {ds : List Int} (h : Dg W v ds) (hb : Below W.heap.size W W') : Dg W' v ds := by
  obtain ⟨A, c, rfl, hl, hC, ht, hd⟩ := h
  exact ⟨A, c, rfl, hl, Kd.C_below hC hb, fun ad e => by obtain ⟨cells, hc⟩ := ht ad e; exact ⟨cells, blk_below hc hb⟩, hd⟩
theorem val_zero_drop : ∀ (l : List Int), (∀ x ∈ l, x = 0) → val l = 0
  | [], _ => rfl
  | x :: l, h => by simp only [val]; rw [val_zero_drop l (fun y hy => h y (by simp [hy])), h x (by simp)]; rfl
theorem val_append : ∀ (l m : List Int), val (l ++ m) = val l + 4294967296 ^ l.length * val m
  | [], m => by simp [val]
  | x :: l, m => by
    simp only [List.cons_append, val, val_append l m, List.length_cons, Int.pow_succ]
    rw [Int.mul_add, ← Int.mul_assoc, Int.mul_comm 4294967296 (4294967296 ^ l.length)]; omega
theorem val_snoc_zero (l : List Int) : val (l ++ [0]) = val l := by rw [val_append]; simp [val]
theorem val_nonneg : ∀ (l : List Int), Digs l → 0 ≤ val l
  | [], _ => Int.le_refl _
  | x :: l, h => by
    have := val_nonneg l (fun y hy => h y (by simp [hy]))
    have := h x (by simp)
    simp only [val]; omega
theorem take_last (l : List Int) (m : Nat) (hm : m < l.length) (h0 : rd l (m : Int) = 0) : val (l.take (m + 1)) = val (l.take m) := by
  rw [List.take_succ_eq_append_getElem hm]
  have : l[m] = 0 := by have : rd l (m : Int) = l[m] := by simp [rd, hm]
                        rw [← this]; exact h0
  rw [this, val_snoc_zero]
theorem can_take (l : List Int) (m : Nat) (hd : Digs l) (hm : m < l.length) (h0 : rd l (m : Int) ≠ 0) : Can (l.take (m + 1)) := by
  refine ⟨fun x hx => hd x (List.mem_of_mem_take hx), fun h => ?_⟩
  have e : l.take (m + 1) = l.take m ++ [l[m]] := List.take_succ_eq_append_getElem hm
  have : (l.take (m + 1)).getLast h = l[m] := by simp [List.getLast_eq_getElem]; congr 1; omega
  rw [this]
  have : rd l (m : Int) = l[m] := by simp [rd, hm]
  rw [← this]; exact h0
theorem can_pos (l : List Int) (h : Can l) (hne : l ≠ []) : 0 < val l := by
  have hl := h.2 hne
  have e := List.dropLast_concat_getLast hne
  have hx := h.1 _ (List.getLast_mem hne)
  rw [← e, val_append]
  have h1 := val_nonneg l.dropLast (fun y hy => h.1 y ((List.dropLast_sublist l).subset hy))
  have h2 : (0 : Int) < 4294967296 ^ l.dropLast.length := Int.pow_pos (by omega)
  have h3 : 0 < val [l.getLast hne] := by simp [val]; omega
  have := Int.mul_pos h2 h3
  omega
/-- Behind put: the sign and the digits of the block g are set. -/
def impl_exactInt_put.Post (g : Nat) (cs : Array Value) (T : TypeId) (less : Bool) (l : List Int) (W : World) (e : Ending) (w' : World) : Prop :=
  e = .returned (.pointer (some ⟨g, 0, none⟩)) ∧ ∃ v ds, w'.heap[g]? = some (.cells ((cs.setIfInBounds 0 (.bool (less && decide (0 < val l)))).setIfInBounds 1 v) T (0, 0)) ∧ Dg w' v ds ∧ Can ds ∧ val ds = val l ∧ W.grownBy w' (some g)
theorem grown_set {W w : World} {g : Nat} (h : W.grownBy w (some g)) (i : Nat) (u : Value) : W.grownBy (w.setCell ⟨g, i, none⟩ u) (some g) :=
  ⟨h.os, h.tape, h.output, by simpa [World.setCell] using h.size, fun k hk hne => (Below.heap_setCell w ⟨g, i, none⟩ u k (by simpa using hne)).trans (h.block k hk hne)⟩
theorem impl_exactInt_put.done {g : Nat} {cs : Array Value} {T : TypeId} {less b : Bool} {A : Option Addr} {c n : Nat} {l : List Int} {W : World} (hb : W.heap[g]? = some (.cells cs T (0, 0))) (hcs : 2 ≤ cs.size) (hT : T ≠ 115) (hv : Dg W (.slice A l.length c) l) (hn : n ≤ l.length)
    (hval : val (l.take n) = val l) (hcan : Can (l.take n)) (hbe : b = (less && decide (0 < n))) :
    impl_exactInt_put.Post g cs T less l W (.returned (.pointer (some ⟨g, 0, none⟩))) ((W.setCell ⟨g, 0, none⟩ (.bool b)).setCell ⟨g, 1, none⟩ (.slice A n c)) := by
  have hlen : (l.take n).length = n := by rw [List.length_take]; omega
  have hgr : W.grownBy ((W.setCell ⟨g, 0, none⟩ (.bool b)).setCell ⟨g, 1, none⟩ (.slice A n c)) (some g) := grown_set (grown_set (World.grownBy.refl W _) _ _) _ _
  refine ⟨rfl, .slice A n c, l.take n, ?_, ?_, hcan, hval, hgr⟩
  · have hd : decide (0 < val l) = decide (0 < n) := by
      rcases Nat.eq_zero_or_pos n with h0 | h0
      · subst h0
        rw [← hval]; simp [val]
      · have hne : l.take n ≠ [] := by intro h; rw [h] at hlen; simp at hlen; omega
        have := can_pos _ hcan hne
        rw [hval] at this
        rw [decide_eq_true this, decide_eq_true h0]
    rw [hd, ← hbe]
    exact blk_set (blk_set hb 0 _) 1 _
  · have h2 : Dg W (.slice A n c) (l.take n) := by
      obtain ⟨A', c', he, hl, hC, ht, hd⟩ := hv
      injection he with h1 _ h3
      subst h1; subst h3
      have hC2 := Kd.C_take hC hn
      rw [hlen] at hC2
      refine ⟨A, c, by rw [hlen], by rw [hlen]; omega, by rw [hlen]; exact hC2, ht, fun x hx => hd x (List.mem_of_mem_take hx)⟩
    exact h2.grown hgr hb hT
set_option maxHeartbeats 3200000 in
set_option maxRecDepth 100000 in
theorem impl_exactInt_put.calls (g : Nat) (cs : Array Value) (T : TypeId) (less : Bool) (v : Value) (l : List Int) (W : World) (hb : W.heap[g]? = some (.cells cs T (0, 0))) (hcs : 2 ≤ cs.size) (hT : T ≠ 115) (hv : Dg W v l) :
    Calls Tryd.prog 85 #[.pointer (some ⟨g, 0, none⟩), .bool less, v] W (impl_exactInt_put.Post g cs T less l W) := by
  have hf0 := blk_frozen hb 0
  have hf1 := blk_frozen hb 1
  obtain ⟨y0, hc0⟩ : ∃ x, W.cell? ⟨g, 0, none⟩ = some x := ⟨_, (blk_cell hb 0).trans (Array.getElem?_eq_getElem (show 0 < cs.size by omega))⟩
  obtain ⟨y1, hc1⟩ : ∃ x, W.cell? ⟨g, 1, none⟩ = some x := ⟨_, (blk_cell hb 1).trans (Array.getElem?_eq_getElem (show 1 < cs.size by omega))⟩
  have HB := Aside0.mk hb
  have HT := Aside0.mk hT
  have HCS := Aside0.mk hcs
  have HV := Aside0.mk hv
  obtain ⟨A, c, rfl, hl, hC, ht, hd⟩ := hv
  have hmax := Kd.C_max hC
  have HC := Aside0.mk hC
  have HD := Aside0.mk hd
  have HTY := Aside0.mk ht
  clear hb hT hC hd ht hcs
  go_enter Tryd.func85, Tryd.ntmps85
  go_wp2
  go_loop [2] (fun v2 => ∃ n : Nat, n ≤ l.length ∧ v2 = .slice A n c ∧ Aside0 (val (l.take n) = val l)) (fun v2 => match v2 with | .slice _ n _ => n | _ => 0)
  case atStart => exact ⟨l.length, Nat.le_refl _, rfl, ⟨by rw [List.take_length]⟩⟩
  case round =>
    obtain ⟨n, hn, rfl, hval⟩ := hrel
    cases n with
    | zero =>
      have HE := Aside0.mk (fun b (hbe : b = (less && decide (0 < 0))) => impl_exactInt_put.done (b := b) (n := 0) (less := less) HB.out HCS.out HT.out HV.out (Nat.zero_le _) hval.out ⟨fun x hx => by simp at hx, fun h => absurd rfl h⟩ hbe)
      cases less with
      | true =>
        go_wp2
        go_ret
        exact HE.out _ rfl
      | false =>
        go_wp2
        go_ret
        exact HE.out _ rfl
    | succ m =>
      obtain ⟨ad, rfl, hx⟩ := Kd.at_int HC.out (m : Int) (by omega) (by omega)
      rw [Int.toNat_natCast] at hx
      by_cases h0 : rd l (m : Int) = 0
      · have hz : (rd l (m : Int) == 0) = true := beq_iff_eq.mpr h0
        have HT2 := Aside0.mk ((take_last l m (by omega) h0).symm.trans hval.out)
        clear h0 hval
        go_wp2
        go_round
        case rel => exact ⟨m, by omega, rfl, HT2⟩
        case measure => show m < m + 1; omega
      · have hz : (rd l (m : Int) == 0) = false := beq_eq_false_iff_ne.mpr h0
        have HE := Aside0.mk (fun b (hbe : b = (less && decide (0 < m + 1))) => impl_exactInt_put.done (b := b) (n := m + 1) (less := less) HB.out HCS.out HT.out HV.out hn hval.out (can_take l m HD.out (by omega) h0) hbe)
        clear h0 hval
        cases less with
        | true =>
          go_wp2
          go_ret
          exact HE.out _ (by simp)
        | false =>
          go_wp2
          go_ret
          exact HE.out _ (by simp)

end Go.Proofs.YtbemhcdklmcbcaaDoor.A
