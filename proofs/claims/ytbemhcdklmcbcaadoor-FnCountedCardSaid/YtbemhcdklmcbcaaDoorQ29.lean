/- Texts of this claim, put together by this session's pack2.py: each part is introduced by its own comment. No conditions. -/
import Derived.Test.YtbemhcdklmcbcaaDoorQ22
import Derived.Test.YtbemhcdklmcbcaaDoorRats7
import Derived.Test.YtbemhcdklmcbcaaDoorQ23
import Derived.BigRegion
import Derived.Test.YtbemhcdklmcbcaaDoorA69
-- Printed by this session's oprint.py through the kit's printer.
namespace Go.Proofs.YtbemhcdklmcbcaaDoor.A
open Go.RowKit Go.Proofs.YtbemhcdklmcbcaaDoorW.PrintWords Go.Proofs.YtbemhcdklmcbcaaDoorW.PrintLast Go.Proofs.YtbemhcdklmcbcaaDoorW.PrintMore
attribute [local go_sem] max2_int min2_int max_two min_two max_three min_three max_four min_four   -- for this text's walks alone
set_option linter.unusedVariables false
set_option linter.unusedSimpArgs false

/-! ### impl_MakeFraction: function 12 -/
-- given: proved by hand (makefraction.tpl)
/-- A part of a fraction is at most this. -/
def isPart (n : Int) : Bool := decide (-1000000000000000000 ≤ n ∧ n ≤ 1000000000000000000)
def impl_MakeFraction.f (a0 : Int) (a1 : Int) : Option (Int × Int × Bool) := some (if a1 ≠ 0 ∧ isPart a0 = true ∧ isPart a1 = true then mkF a0 a1 else (0, 0, false))
theorem isPart_within (n : Int) : impl_within.f n (-1000000000000000000) 1000000000000000000 = some (isPart n) := within_is _ _ _
theorem isPart_le {n : Int} (h : isPart n = true) : -1000000000000000000 ≤ n ∧ n ≤ 1000000000000000000 := of_decide_eq_true h
set_option maxHeartbeats 3200000 in
set_option maxRecDepth 100000 in
theorem impl_MakeFraction.no (a0 a1 : Int) (w : World) (hno : ¬ (a1 ≠ 0 ∧ isPart a0 = true ∧ isPart a1 = true)) :
    Calls Tryd.prog 12 #[.int .i64 a0, .int .i64 a1] w fun e w' => e = .returned (.tuple #[.agg #[.int .i64 0, .int .i64 0], .bool false]) ∧ Below w.heap.size w w' := by
  have hu23 := Tryd.underlying33
  have CA := Aside0.mk (below_alloc (Below.refl w.heap.size w) zeroF)
  have BK := Aside0.mk (blk_new w zeroF)
  by_cases c0 : a1 = 0
  · have c0' : (a1 == 0) = true := beq_iff_eq.2 c0
    obtain ⟨z0, z1, z2, z3⟩ := two_cells BK.out
    clear hno c0
    go_enter Tryd.func12, Tryd.ntmps12
    go_wp2
    refine bodyPost_ret (results_ct rfl _ _ w.heap.size 33 #[.int .i64 0, .int .i64 0] (0, 0) _ rfl (by first | exact BK.out | (refine blk_put (cs := #[.int .i64 0, .int .i64 0]) ?_ 1 _ rfl; refine blk_put (cs := #[.int .i64 0, .int .i64 0]) ?_ 0 _ rfl; exact BK.out)) Tryd.underlying33 rfl (by kernel_rfl)) rfl ?_
    exact ⟨rfl, by first | exact CA.out | exact below_set2 CA.out (Nat.le_refl _) _ _⟩
  · have c0' : (a1 == 0) = false := beq_eq_false_iff_ne.2 c0
    by_cases c1 : isPart a0 = true
    · have c2 : isPart a1 = false := by
        cases h : isPart a1
        · rfl
        · exact absurd ⟨c0, c1, h⟩ hno
      clear hno c0
      go_enter Tryd.func12, Tryd.ntmps12
      go_wp2_with (first
        | (go_at_call 36; refine (impl_within.calls a1 (-1000000000000000000) 1000000000000000000 false w1 (by rw [isPart_within, c2])).mono ?_; rintro e w2 ⟨rfl, n2, h2⟩; have C2 := Aside0.mk (show Below w.heap.size w w2 by rw [h2]; exact pw_below_drewN C1.out n2); have BK2 := Aside0.mk (show w2.heap[w.heap.size]? = some zeroF by rw [h2]; exact BK1.out); obtain ⟨z0, z1, z2, z3⟩ := two_cells BK2.out; clear h2)
        | (go_at_call 36; refine (impl_within.calls a0 (-1000000000000000000) 1000000000000000000 true _ (by rw [isPart_within, c1])).mono ?_; rintro e w1 ⟨rfl, n1, h1⟩; have C1 := Aside0.mk (show Below w.heap.size w w1 by rw [h1]; exact pw_below_drewN CA.out n1); have BK1 := Aside0.mk (show w1.heap[w.heap.size]? = some zeroF by rw [h1]; exact BK.out); clear h1))
      refine bodyPost_ret (results_ct rfl _ _ w.heap.size 33 #[.int .i64 0, .int .i64 0] (0, 0) _ rfl (by refine blk_put (cs := #[.int .i64 0, .int .i64 0]) ?_ 1 _ rfl; refine blk_put (cs := #[.int .i64 0, .int .i64 0]) ?_ 0 _ rfl; exact BK2.out) Tryd.underlying33 rfl (by kernel_rfl)) rfl ?_
      exact ⟨rfl, below_set2 C2.out (Nat.le_refl _) _ _⟩
    · have c1' : isPart a0 = false := by simpa using c1
      clear hno c0 c1
      go_enter Tryd.func12, Tryd.ntmps12
      go_wp2_with (first
        | (go_at_call 36; refine (impl_within.calls a0 (-1000000000000000000) 1000000000000000000 false _ (by rw [isPart_within, c1'])).mono ?_; rintro e w2 ⟨rfl, n2, h2⟩; have C2 := Aside0.mk (show Below w.heap.size w w2 by rw [h2]; exact pw_below_drewN CA.out n2); have BK2 := Aside0.mk (show w2.heap[w.heap.size]? = some zeroF by rw [h2]; exact BK.out); obtain ⟨z0, z1, z2, z3⟩ := two_cells BK2.out; clear h2))
      refine bodyPost_ret (results_ct rfl _ _ w.heap.size 33 #[.int .i64 0, .int .i64 0] (0, 0) _ rfl (by refine blk_put (cs := #[.int .i64 0, .int .i64 0]) ?_ 1 _ rfl; refine blk_put (cs := #[.int .i64 0, .int .i64 0]) ?_ 0 _ rfl; exact BK2.out) Tryd.underlying33 rfl (by kernel_rfl)) rfl ?_
      exact ⟨rfl, below_set2 C2.out (Nat.le_refl _) _ _⟩
set_option maxHeartbeats 3200000 in
set_option maxRecDepth 100000 in
theorem impl_MakeFraction.yes (a0 a1 : Int) (w : World) (c0 : a1 ≠ 0) (c1 : isPart a0 = true) (c2 : isPart a1 = true) :
    Calls Tryd.prog 12 #[.int .i64 a0, .int .i64 a1] w fun e w' => e = .returned (.tuple #[.agg #[.int .i64 (mkF a0 a1).1, .int .i64 (mkF a0 a1).2.1], .bool (mkF a0 a1).2.2]) ∧ Below w.heap.size w w' := by
  have hu23 := Tryd.underlying33
  have CA := Aside0.mk (below_alloc (Below.refl w.heap.size w) zeroF)
  have BK := Aside0.mk (blk_new w zeroF)
  have c0' : (a1 == 0) = false := beq_eq_false_iff_ne.2 c0
  have p0 := isPart_le c1
  have p1 := isPart_le c2
  have f0 := Aside0.mk (Fits2.of (X := a0) (by omega))
  have f1 := Aside0.mk (Fits2.of (X := a1) (by omega))
  have hn := Aside0.mk (fun W => impl_newRat.law a0 a1 W (by omega) (by omega) (by omega) (by omega) c0)
  clear c0 p0 p1
  go_enter Tryd.func12, Tryd.ntmps12
  go_wp2_with (first
    | (go_at_call 36; refine (impl_within.calls a1 (-1000000000000000000) 1000000000000000000 true w1 (by rw [isPart_within, c2])).mono ?_; rintro e w2 ⟨rfl, n2, h2⟩; have C2 := Aside0.mk (show Below w.heap.size w w2 by rw [h2]; exact pw_below_drewN C1.out n2); have BK2 := Aside0.mk (show w2.heap[w.heap.size]? = some zeroF by rw [h2]; exact BK1.out); clear h2)
    | (go_at_call 36; refine (impl_within.calls a0 (-1000000000000000000) 1000000000000000000 true _ (by rw [isPart_within, c1])).mono ?_; rintro e w1 ⟨rfl, n1, h1⟩; have C1 := Aside0.mk (show Below w.heap.size w w1 by rw [h1]; exact pw_below_drewN CA.out n1); have BK1 := Aside0.mk (show w1.heap[w.heap.size]? = some zeroF by rw [h1]; exact BK.out); clear h1)
    | (go_at_call 38; refine (hn.out w2).mono ?_; rintro e w3 ⟨g, rfl, k1_, k2_, k3_⟩; have K := Aside0.mk k2_; have C3 := Aside0.mk (below_step C2.out k3_); have BK3 := Aside0.mk (blk_below BK2.out k3_); clear k1_ k2_ k3_)
    | (go_at_call 37; refine (checked_new g a0 a1 w3 K.out f0.out f1.out).mono ?_; rintro e w4 ⟨rfl, hB⟩; have C4 := Aside0.mk (below_step C3.out hB); have BK4 := Aside0.mk (blk_below BK3.out hB); obtain ⟨z0, z1, z2, z3⟩ := two_cells BK4.out; clear hB))
  refine bodyPost_ret (results_ct rfl _ _ w.heap.size 33 #[.int .i64 (mkF a0 a1).1, .int .i64 (mkF a0 a1).2.1] (0, 0) _ rfl (by refine blk_put (cs := #[.int .i64 (mkF a0 a1).1, .int .i64 0]) ?_ 1 _ rfl; refine blk_put (cs := #[.int .i64 0, .int .i64 0]) ?_ 0 _ rfl; exact BK4.out) Tryd.underlying33 rfl (by kernel_rfl)) rfl ?_
  exact ⟨rfl, below_set2 C4.out (Nat.le_refl _) _ _⟩
theorem impl_MakeFraction.calls (a0 : Int) (a1 : Int) (r1 : Int) (r2 : Int) (r3 : Bool) (w : World) (h : impl_MakeFraction.f a0 a1 = some (r1, r2, r3)) :
    Calls Tryd.prog 12 #[.int .i64 a0, .int .i64 a1] w fun e w' => e = .returned (.tuple #[.agg #[.int .i64 r1, .int .i64 r2], .bool r3]) ∧ Below w.heap.size w w' := by
  have h := Option.some.inj h
  by_cases c : a1 ≠ 0 ∧ isPart a0 = true ∧ isPart a1 = true
  · rw [if_pos c] at h
    have := impl_MakeFraction.yes a0 a1 w c.1 c.2.1 c.2.2
    rw [h] at this
    exact this
  · rw [if_neg c] at h
    have := impl_MakeFraction.no a0 a1 w c
    injection h with h1 h2
    injection h2 with h2 h3
    subst h1; subst h2; subst h3
    exact this

end Go.Proofs.YtbemhcdklmcbcaaDoor.A
-- Printed by this session's oprint.py through the kit's printer.
namespace Go.Proofs.YtbemhcdklmcbcaaDoor.A
open Go.RowKit Go.Proofs.YtbemhcdklmcbcaaDoorW.PrintWords Go.Proofs.YtbemhcdklmcbcaaDoorW.PrintLast Go.Proofs.YtbemhcdklmcbcaaDoorW.PrintMore
attribute [local go_sem] max2_int min2_int max_two min_two max_three min_three max_four min_four   -- for this text's walks alone
set_option linter.unusedVariables false
set_option linter.unusedSimpArgs false

/-! ### impl_SampleUps: function 13 -/
-- given: proved by hand (sampleups.tpl)
/-- The next time ahead of tick i. -/
def nxT (whole step x : Int) : Nat → Int
  | 0 => x
  | i + 1 => if nxT whole step x i < ((i : Int) + 1) * whole then nxT whole step x i + step else nxT whole step x i
def impl_SampleUps.lev (whole step x : Int) (i : Nat) : Bool := decide (nxT whole step x i < ((i : Int) + 1) * whole)
/-- The cases that the laws reach: a phase in the period. -/
def impl_SampleUps.ok (pn pd fn fd t : Int) : Bool := okF pn pd && okF fn fd && decide (pn ≤ 1000000 ∧ pd ≤ 1000000 ∧ fn ≤ 1000000 ∧ fd ≤ 1000000 ∧ pd ≤ pn ∧ 0 ≤ fn ∧ 0 ≤ t ∧ t ≤ 400 ∧ fn * pd < pn * fd)
def impl_SampleUps.f (pn pd fn fd t : Int) : Option (ByteArray × Bool) :=
  if impl_SampleUps.ok pn pd fn fd t = true then some (impl_waveOf.text t.toNat (impl_SampleUps.lev (pd * fd) (pn * fd) (fn * pd)), true) else none
def boxI' (x : Int) : Obj := .cells #[.int .i64 x] 2 (0, 0)
theorem blk_of_drawn' {w1 w2 : World} {g : Nat} {ob : Obj} (h : w1.heap[g]? = some ob) (k : Drawn0 w1 w2) : w2.heap[g]? = some ob := by obtain ⟨m, rfl⟩ := k; exact h
theorem below_drawn0' {w w1 w2 : World} (h : Below w.heap.size w w1) (k : Drawn0 w1 w2) : Below w.heap.size w w2 := by
  obtain ⟨m, rfl⟩ := k; exact pw_below_drewN h m
theorem nxT_bound {whole step x : Int} (h0 : 0 ≤ x) (h1 : x < step) (hw : 0 ≤ whole) (hs : whole ≤ step) : ∀ i : Nat, 0 ≤ nxT whole step x i ∧ (i : Int) * whole ≤ nxT whole step x i ∧ nxT whole step x i < (i : Int) * whole + step
  | 0 => by
    have e : nxT whole step x 0 = x := rfl
    rw [e]; simp; omega
  | i + 1 => by
    obtain ⟨a, b, c⟩ := nxT_bound h0 h1 hw hs i
    have e : nxT whole step x (i + 1) = if nxT whole step x i < ((i : Int) + 1) * whole then nxT whole step x i + step else nxT whole step x i := rfl
    have e2 : ((i : Int) + 1) * whole = (i : Int) * whole + whole := by grind
    have e3 : ((i + 1 : Nat) : Int) = (i : Int) + 1 := by omega
    rw [e, e3, e2]
    split <;> omega
theorem blk_put_ne' {w : World} {g b i : Nat} {o : Obj} {v : Value} (h : w.heap[g]? = some o) (hne : g ≠ b) : (w.setCell ⟨b, i, none⟩ v).heap[g]? = some o := blk_grown h (grown_set (World.grownBy.refl w (some b)) i v) (by simpa using hne)
theorem size_al (W : World) (o : Obj) : (W.alloc o).heap.size = W.heap.size + 1 := by simp
/-- Behind two allocations. -/
theorem two_new {W1 w : World} {gw : Nat} {A B Z : Int} (hG : W1.heap[gw]? = some (boxI' Z)) (hB : Below w.heap.size w W1) :
    ((W1.alloc (boxI' A)).alloc (boxI' B)).drew.heap[W1.heap.size]? = some (boxI' A) ∧ ((W1.alloc (boxI' A)).alloc (boxI' B)).drew.heap[W1.heap.size + 1]? = some (boxI' B) ∧ ((W1.alloc (boxI' A)).alloc (boxI' B)).drew.heap[gw]? = some (boxI' Z) ∧ Below w.heap.size w ((W1.alloc (boxI' A)).alloc (boxI' B)).drew ∧ gw < W1.heap.size ∧ w.heap.size ≤ W1.heap.size := by
  have n2 := blk_new (W1.alloc (boxI' A)) (boxI' B)
  rw [size_al] at n2
  exact ⟨blk_alloc (blk_new W1 (boxI' A)) (boxI' B), n2, blk_alloc (blk_alloc hG _) _, below_drew (below_alloc (below_alloc hB _) _), blk_lt hG, hB.size⟩
def impl_SampleUps.Inv (gn gw gs : Nat) (whole step x : Int) (i : Nat) (W : World) : Prop := W.heap[gn]? = some (boxI' (nxT whole step x i)) ∧ W.heap[gw]? = some (boxI' whole) ∧ W.heap[gs]? = some (boxI' step)
theorem once_put {W : World} {gn gw gs base : Nat} {a b whole step : Int} (hc : W.heap[gn]? = some (boxI' a)) (hw : W.heap[gw]? = some (boxI' whole)) (hs : W.heap[gs]? = some (boxI' step)) (h1 : gn ≠ gw) (h2 : gn ≠ gs) (hb : base ≤ gn) :
    (W.setCell ⟨gn, 0, none⟩ (.int .i64 b)).heap[gn]? = some (boxI' b) ∧ (W.setCell ⟨gn, 0, none⟩ (.int .i64 b)).heap[gw]? = some (boxI' whole) ∧ (W.setCell ⟨gn, 0, none⟩ (.int .i64 b)).heap[gs]? = some (boxI' step) ∧ Below base W (W.setCell ⟨gn, 0, none⟩ (.int .i64 b)) ∧ W.heap.size ≤ (W.setCell ⟨gn, 0, none⟩ (.int .i64 b)).heap.size ∧ ∀ k, k < W.heap.size → k ≠ gn → (W.setCell ⟨gn, 0, none⟩ (.int .i64 b)).heap[k]? = W.heap[k]? := by
  have t2 : W.grownBy (W.setCell ⟨gn, 0, none⟩ (.int .i64 b)) (some gn) := grown_set (World.grownBy.refl W (some gn)) 0 (.int .i64 b)
  refine ⟨blk_put (cs := #[.int .i64 a]) hc 0 _ rfl, blk_grown (row := some gn) hw t2 (by simpa using Ne.symm h1), blk_grown (row := some gn) hs t2 (by simpa using Ne.symm h2), pw_below_grown (Below.refl base W) (some gn) (Nat.le_trans hb (Nat.le_of_lt (blk_lt hc))) t2 (fun k hk => by injection hk with hk; omega), t2.size, fun k hk hne => t2.block k hk (by simpa using hne)⟩
set_option maxHeartbeats 1600000 in
set_option maxRecDepth 100000 in
theorem impl_SampleUps.level (gn gw gs : Nat) (whole step x : Int) (i : Nat) (W : World) (base : Nat) (hI : impl_SampleUps.Inv gn gw gs whole step x i W) (h0 : 0 ≤ x) (h1 : x < step) (hw : 0 ≤ whole) (hs : whole ≤ step) (hst : step ≤ 1000000000000) (hi : i ≤ 400) (hne : gn ≠ gw) (hne2 : gn ≠ gs) (hb : base ≤ gn) :
    Calls Tryd.prog 42 #[.int .i64 (i : Int), .pointer (some ⟨gn, 0, none⟩), .pointer (some ⟨gw, 0, none⟩), .pointer (some ⟨gs, 0, none⟩)] W fun e W' => e = .returned (.bool (impl_SampleUps.lev whole step x i)) ∧ impl_SampleUps.Inv gn gw gs whole step x (i + 1) W' ∧ Below base W W' ∧ ∀ k, k < W.heap.size → k ≠ gn → W'.heap[k]? = W.heap[k]? := by
  obtain ⟨hc, hh, hq⟩ := hI
  obtain ⟨a0, a1, a2⟩ := nxT_bound h0 h1 hw hs i
  have e2 : ((i : Int) + 1) * whole = (i : Int) * whole + whole := by grind
  have p0 : 0 ≤ (i : Int) * whole := Int.mul_nonneg (by omega) hw
  have p1 : (i : Int) * whole ≤ 400 * 1000000000000 := Int.mul_le_mul (by omega) (by omega) (by omega) (by omega)
  have HF := Aside0.mk (show impl_SampleUps.lev whole step x i = decide (nxT whole step x i < ((i : Int) + 1) * whole) from rfl)
  have HN := Aside0.mk (show nxT whole step x (i + 1) = if nxT whole step x i < ((i : Int) + 1) * whole then nxT whole step x i + step else nxT whole step x i from rfl)
  obtain ⟨B, hB⟩ : ∃ B, ((i : Int) + 1) * whole = B := ⟨_, rfl⟩
  obtain ⟨y, hy⟩ : ∃ y, nxT whole step x i = y := ⟨_, rfl⟩
  rw [hy] at a0 a1 a2 HF HN hc
  rw [hB] at HF HN e2
  have HC := Aside0.mk hc; have HH := Aside0.mk hh; have HQ := Aside0.mk hq
  have HNE := Aside0.mk hne; have HNE2 := Aside0.mk hne2; have HB := Aside0.mk hb
  have w0 : IntKind.i64.wrap ((i : Int) + 1) = (i : Int) + 1 := by simp only [IntKind.wrap_i64]; omega
  have w1 : IntKind.i64.wrap (((i : Int) + 1) * whole) = B := by rw [hB]; simp only [IntKind.wrap_i64]; omega
  have w2 : IntKind.i64.wrap (y + step) = y + step := by simp only [IntKind.wrap_i64]; omega
  have hc0 : W.cell? ⟨gn, 0, none⟩ = some (.int .i64 y) := (blk_cell hc 0).trans rfl
  have hh0 : W.cell? ⟨gw, 0, none⟩ = some (.int .i64 whole) := (blk_cell hh 0).trans rfl
  have hq0 : W.cell? ⟨gs, 0, none⟩ = some (.int .i64 step) := (blk_cell hq 0).trans rfl
  have hyB : ¬ y + step < B := by omega
  have HYB := Aside0.mk hyB
  have hd2 : decide (y + step < B) = false := decide_eq_false hyB
  clear hc hh hq hne hne2 hb a0 a1 a2 e2 p0 p1 hB hy h0 h1 hw hs hst hi hyB
  by_cases hlt : y < B
  · have hd : decide (y < B) = true := decide_eq_true hlt
    rw [hd] at HF
    rw [if_pos hlt] at HN
    clear hlt
    go_enter Tryd.func42, Tryd.ntmps42
    go_wp2
    go_loopg [] 2 (fun kq w' => Aside0 ((kq = 2 ∧ w' = W) ∨ (kq = 1 ∧ w' = W.setCell ⟨gn, 0, none⟩ (.int .i64 (y + step)))))
    case atStart => exact ⟨.inl ⟨rfl, rfl⟩⟩
    case round =>
      rcases hrel.out with ⟨rfl, rfl⟩ | ⟨rfl, rfl⟩
      · have hf0 := blk_frozen HC.out 0
        go_wp2
        go_roundg 1
        case rel => exact ⟨.inr ⟨rfl, rfl⟩⟩
        case measure => omega
      · obtain ⟨t0, t1, t2, t3, t4, t5⟩ := once_put (b := y + step) HC.out HH.out HQ.out HNE.out HNE2.out HB.out
        have T := Aside0.mk (And.intro t0 (And.intro t1 (And.intro t2 (And.intro t3 (And.intro t4 t5)))))
        obtain ⟨W2, hW2⟩ : ∃ W2, W.setCell ⟨gn, 0, none⟩ (.int .i64 (y + step)) = W2 := ⟨_, rfl⟩
        rw [hW2] at t0 t1 t2 T
        rw [hW2]
        have hc0 : W2.cell? ⟨gn, 0, none⟩ = some (.int .i64 (y + step)) := (blk_cell t0 0).trans rfl
        have hh0 : W2.cell? ⟨gw, 0, none⟩ = some (.int .i64 whole) := (blk_cell t1 0).trans rfl
        have hq0 : W2.cell? ⟨gs, 0, none⟩ = some (.int .i64 step) := (blk_cell t2 0).trans rfl
        clear t0 t1 t2 t3 t4 t5 hW2
        go_wp2
        go_ret
        exact ⟨by rw [HF.out]; rfl, ⟨by rw [HN.out]; exact T.out.1, T.out.2.1, T.out.2.2.1⟩, T.out.2.2.2.1, T.out.2.2.2.2.2⟩
  · have hd : decide (y < B) = false := decide_eq_false hlt
    rw [hd] at HF
    rw [if_neg hlt] at HN
    clear hlt
    go_enter Tryd.func42, Tryd.ntmps42
    go_wp2
    go_loopg [] 2 (fun kq w' => Aside0 (w' = W))
    case atStart => exact ⟨rfl⟩
    case round =>
      obtain rfl := hrel.out
      go_wp2
      go_ret
      exact ⟨by rw [HF.out]; rfl, ⟨by rw [HN.out]; exact HC.out, HH.out, HQ.out⟩, Below.refl _ _, fun _ _ _ => rfl⟩
theorem small_is {n d : Int} (h : okF n d = true) (h1 : n ≤ 1000000) (h2 : d ≤ 1000000) : ∃ k, impl_isSmallFraction.f k n d = some true := by
  obtain ⟨m, hm⟩ := valid_is n d
  refine ⟨0 + m, ?_⟩
  unfold impl_isSmallFraction.f
  rw [hm 0, h, Option.bind_some, if_pos rfl, if_pos h1, decide_eq_true h2]
theorem within_eq3 (a b c : Int) : impl_within.f a b c = some (decide (b ≤ a ∧ a ≤ c)) := by
  unfold impl_within.f
  by_cases h : a ≥ b
  · rw [if_pos h]; have h' : b ≤ a := h; simp [h']
  · rw [if_neg h]; have h' : ¬ b ≤ a := h; simp [h']
theorem ticks_eq3 {t : Int} (h : 0 ≤ t ∧ t ≤ 400) : impl_isTicks.f t = some true := by
  unfold impl_isTicks.f; rw [within_eq3, decide_eq_true h]; rfl
set_option maxHeartbeats 3200000 in
set_option maxRecDepth 100000 in
theorem impl_SampleUps.calls (pn : Int) (pd : Int) (fn : Int) (fd : Int) (t : Int) (r1 : ByteArray) (r2 : Bool) (w : World) (h : impl_SampleUps.f pn pd fn fd t = some (r1, r2)) :
    Calls Tryd.prog 13 #[.agg #[.int .i64 pn, .int .i64 pd], .agg #[.int .i64 fn, .int .i64 fd], .int .i64 t] w fun e w' => e = .returned (.tuple #[.string r1, .bool r2]) ∧ Below w.heap.size w w' := by
  unfold impl_SampleUps.f at h
  rcases Bool.eq_false_or_eq_true (impl_SampleUps.ok pn pd fn fd t) with c | c
  rotate_left
  · rw [c] at h; simp at h
  rw [if_pos c] at h
  simp only [Option.some.injEq, Prod.mk.injEq] at h
  obtain ⟨rfl, rfl⟩ := h
  unfold impl_SampleUps.ok at c
  rw [Bool.and_eq_true, Bool.and_eq_true, decide_eq_true_iff] at c
  obtain ⟨⟨c1, c2⟩, c3, c4, c5, c6, c7, c8, c9, c10, c11⟩ := c
  obtain ⟨k1, s1⟩ := small_is c1 c3 c4
  obtain ⟨k2, s2⟩ := small_is c2 c5 c6
  have S1 := Aside0.mk s1; have S2 := Aside0.mk s2
  have T1 := Aside0.mk (ticks_eq3 ⟨c9, c10⟩)
  have d1 := (okF_iff.1 c1).1.1
  have d2 := (okF_iff.1 c2).1.1
  have m1 : 0 ≤ fn * pd := Int.mul_nonneg c8 (by omega)
  have m2 : fn * pd ≤ 1000000 * 1000000 := Int.mul_le_mul c5 c4 (by omega) (by omega)
  have m3 : 0 ≤ pn * fd := Int.mul_nonneg (by omega) (by omega)
  have m4 : pn * fd ≤ 1000000 * 1000000 := Int.mul_le_mul c3 c6 (by omega) (by omega)
  have m5 : 0 ≤ pd * fd := Int.mul_nonneg (by omega) (by omega)
  have m6 : pd * fd ≤ pn * fd := Int.mul_le_mul_of_nonneg_right c7 (by omega)
  obtain ⟨n, rfl⟩ := Int.eq_ofNat_of_zero_le c9
  rw [Int.toNat_natCast]
  obtain ⟨X, hX⟩ : ∃ X, fn * pd = X := ⟨_, rfl⟩
  obtain ⟨Y, hY⟩ : ∃ Y, pn * fd = Y := ⟨_, rfl⟩
  obtain ⟨Z, hZ⟩ : ∃ Z, pd * fd = Z := ⟨_, rfl⟩
  have w1 : IntKind.i64.wrap (fn * pd) = X := by rw [hX]; simp only [IntKind.wrap_i64]; omega
  have w2 : IntKind.i64.wrap (pn * fd) = Y := by rw [hY]; simp only [IntKind.wrap_i64]; omega
  have w3 : IntKind.i64.wrap (pd * fd) = Z := by rw [hZ]; simp only [IntKind.wrap_i64]; omega
  rw [hX, hY, hZ]
  rw [hX] at m1 m2 c11; rw [hY] at m3 m4 m6 c11; rw [hZ] at m5 m6
  have C := Aside0.mk (And.intro m1 (And.intro c11 (And.intro m5 (And.intro m6 (And.intro m4 c10)))))
  have q1 : decide (Y ≤ X) = false := decide_eq_false (by omega)
  have q2 : decide (pn < pd) = false := decide_eq_false (by omega)
  have q3 : decide (fn < 0) = false := decide_eq_false (by omega)
  clear s1 s2 c1 c2 c3 c4 c5 c6 c7 c8 c9 c10 c11 d1 d2 m1 m2 m3 m4 m5 m6 hX hY hZ
  go_enter Tryd.func13, Tryd.ntmps13
  go_wp2_with (first
    | ((with_reducible refine gate_dst (N := 3) rfl ?_); refine box_event ?hg (N := 3) ?hd (cs := #[.int .i64 pn, .int .i64 pd]) (t := 33) ?hr ?_; (case hd => rfl); (case hg => rfl); (case hr => first | (go_simp; done) | (go_simp; rfl)); intro gp hgp wa hbox hb; have P1 := Aside0.mk hbox; have HB := Aside0.mk hb; clear hbox hb hgp)
    | ((with_reducible refine gate_dst (N := 4) rfl ?_); refine box_event ?hg (N := 4) ?hd (cs := #[.int .i64 fn, .int .i64 fd]) (t := 33) ?hr ?_; (case hd => rfl); (case hg => rfl); (case hr => first | (go_simp; done) | (go_simp; rfl)); intro gf hgf wb hbox hb; have F2 := Aside0.mk hbox; have P2 := Aside0.mk (blk_below P1.out hb); have HB2 := Aside0.mk (below_step HB.out hb); clear hbox hb hgf P1 HB; obtain ⟨x0, x1, -, -⟩ := two_cells P2.out; obtain ⟨y0, y1, -, -⟩ := two_cells F2.out)
    | (go_at_call 39; (with_reducible refine (impl_isSmallFraction.calls k1 pn pd true _ S1.out).mono ?_); rintro e wc ⟨rfl, hb⟩; clear x0 x1 y0 y1; have P3 := Aside0.mk (blk_below P2.out hb); have F3 := Aside0.mk (blk_below F2.out hb); have HB3 := Aside0.mk (below_step HB2.out hb); clear hb HB2; obtain ⟨x0, x1, -, -⟩ := two_cells P3.out; obtain ⟨y0, y1, -, -⟩ := two_cells F3.out)
    | (go_at_call 39; (with_reducible refine (impl_isSmallFraction.calls k2 fn fd true _ S2.out).mono ?_); rintro e wd ⟨rfl, hb⟩; clear x0 x1 y0 y1; have P4 := Aside0.mk (blk_below P3.out hb); have F4 := Aside0.mk (blk_below F3.out hb); have HB4 := Aside0.mk (below_step HB3.out hb); clear hb HB3; obtain ⟨x0, x1, -, -⟩ := two_cells P4.out; obtain ⟨y0, y1, -, -⟩ := two_cells F4.out)
    | (go_at_call 40; (with_reducible refine (impl_isTicks.calls (n : Int) true _ T1.out).mono ?_); rintro e we ⟨rfl, hd⟩; clear x0 x1 y0 y1; have P5 := Aside0.mk (blk_of_drawn' P4.out hd); have F5 := Aside0.mk (blk_of_drawn' F4.out hd); have HB5 := Aside0.mk (below_drawn0' HB4.out hd); clear hd HB4; obtain ⟨x0, x1, -, -⟩ := two_cells P5.out; obtain ⟨y0, y1, -, -⟩ := two_cells F5.out))
  have G6 := Aside0.mk (blk_new we (boxI' Z))
  have P6 := Aside0.mk (blk_alloc P5.out (boxI' Z))
  have F6 := Aside0.mk (blk_alloc F5.out (boxI' Z))
  have HB6 := Aside0.mk (below_alloc HB5.out (boxI' Z))
  clear x0 x1 y0 y1 P5 F5 HB5
  obtain ⟨gw, hgw⟩ : ∃ g, we.heap.size = g := ⟨_, rfl⟩
  obtain ⟨W1, hW1⟩ : ∃ W1, we.alloc (boxI' Z) = W1 := ⟨_, rfl⟩
  have hW1' : we.alloc (.cells #[.int .i64 Z] 2 (0, 0)) = W1 := hW1
  rw [hgw, hW1] at G6
  rw [hW1] at P6 F6 HB6
  rw [hW1', hgw]
  clear hW1 hW1' hgw
  obtain ⟨x0, x1, -, -⟩ := two_cells P6.out
  obtain ⟨y0, y1, -, -⟩ := two_cells F6.out
  have ax0 : ∀ o, (W1.alloc o).cell? ⟨gp, 0, none⟩ = some (.int .i64 pn) := fun o => (blk_cell (blk_alloc P6.out o) 0).trans rfl
  have bx0 : ∀ o o', ((W1.alloc o).alloc o').cell? ⟨gp, 0, none⟩ = some (.int .i64 pn) := fun o o' => (blk_cell (blk_alloc (blk_alloc P6.out o) o') 0).trans rfl
  have cx0 : ∀ o o' u, (((W1.alloc o).alloc o').setCell ⟨W1.heap.size, 0, none⟩ u).cell? ⟨gp, 0, none⟩ = some (.int .i64 pn) := fun o o' u => (blk_cell (blk_put_ne' (blk_alloc (blk_alloc P6.out o) o') (Nat.ne_of_lt (blk_lt P6.out))) 0).trans rfl
  have dx0 : ∀ o o' u, (((W1.alloc o).alloc o').setCell ⟨W1.heap.size + 1, 0, none⟩ u).cell? ⟨gp, 0, none⟩ = some (.int .i64 pn) := fun o o' u => (blk_cell (blk_put_ne' (blk_alloc (blk_alloc P6.out o) o') (Nat.ne_of_lt (Nat.lt_succ_of_lt (blk_lt P6.out)))) 0).trans rfl
  have ax1 : ∀ o, (W1.alloc o).cell? ⟨gp, 1, none⟩ = some (.int .i64 pd) := fun o => (blk_cell (blk_alloc P6.out o) 1).trans rfl
  have bx1 : ∀ o o', ((W1.alloc o).alloc o').cell? ⟨gp, 1, none⟩ = some (.int .i64 pd) := fun o o' => (blk_cell (blk_alloc (blk_alloc P6.out o) o') 1).trans rfl
  have cx1 : ∀ o o' u, (((W1.alloc o).alloc o').setCell ⟨W1.heap.size, 0, none⟩ u).cell? ⟨gp, 1, none⟩ = some (.int .i64 pd) := fun o o' u => (blk_cell (blk_put_ne' (blk_alloc (blk_alloc P6.out o) o') (Nat.ne_of_lt (blk_lt P6.out))) 1).trans rfl
  have dx1 : ∀ o o' u, (((W1.alloc o).alloc o').setCell ⟨W1.heap.size + 1, 0, none⟩ u).cell? ⟨gp, 1, none⟩ = some (.int .i64 pd) := fun o o' u => (blk_cell (blk_put_ne' (blk_alloc (blk_alloc P6.out o) o') (Nat.ne_of_lt (Nat.lt_succ_of_lt (blk_lt P6.out)))) 1).trans rfl
  have ay0 : ∀ o, (W1.alloc o).cell? ⟨gf, 0, none⟩ = some (.int .i64 fn) := fun o => (blk_cell (blk_alloc F6.out o) 0).trans rfl
  have by0 : ∀ o o', ((W1.alloc o).alloc o').cell? ⟨gf, 0, none⟩ = some (.int .i64 fn) := fun o o' => (blk_cell (blk_alloc (blk_alloc F6.out o) o') 0).trans rfl
  have cy0 : ∀ o o' u, (((W1.alloc o).alloc o').setCell ⟨W1.heap.size, 0, none⟩ u).cell? ⟨gf, 0, none⟩ = some (.int .i64 fn) := fun o o' u => (blk_cell (blk_put_ne' (blk_alloc (blk_alloc F6.out o) o') (Nat.ne_of_lt (blk_lt F6.out))) 0).trans rfl
  have dy0 : ∀ o o' u, (((W1.alloc o).alloc o').setCell ⟨W1.heap.size + 1, 0, none⟩ u).cell? ⟨gf, 0, none⟩ = some (.int .i64 fn) := fun o o' u => (blk_cell (blk_put_ne' (blk_alloc (blk_alloc F6.out o) o') (Nat.ne_of_lt (Nat.lt_succ_of_lt (blk_lt F6.out)))) 0).trans rfl
  have ay1 : ∀ o, (W1.alloc o).cell? ⟨gf, 1, none⟩ = some (.int .i64 fd) := fun o => (blk_cell (blk_alloc F6.out o) 1).trans rfl
  have by1 : ∀ o o', ((W1.alloc o).alloc o').cell? ⟨gf, 1, none⟩ = some (.int .i64 fd) := fun o o' => (blk_cell (blk_alloc (blk_alloc F6.out o) o') 1).trans rfl
  have cy1 : ∀ o o' u, (((W1.alloc o).alloc o').setCell ⟨W1.heap.size, 0, none⟩ u).cell? ⟨gf, 1, none⟩ = some (.int .i64 fd) := fun o o' u => (blk_cell (blk_put_ne' (blk_alloc (blk_alloc F6.out o) o') (Nat.ne_of_lt (blk_lt F6.out))) 1).trans rfl
  have dy1 : ∀ o o' u, (((W1.alloc o).alloc o').setCell ⟨W1.heap.size + 1, 0, none⟩ u).cell? ⟨gf, 1, none⟩ = some (.int .i64 fd) := fun o o' u => (blk_cell (blk_put_ne' (blk_alloc (blk_alloc F6.out o) o') (Nat.ne_of_lt (Nat.lt_succ_of_lt (blk_lt F6.out)))) 1).trans rfl
  go_region
  · have HT := Aside0.mk (two_new (A := Y) (B := X) G6.out HB6.out)
    obtain ⟨V, hV⟩ : ∃ V, ((W1.alloc (boxI' Y)).alloc (boxI' X)).drew = V := ⟨_, rfl⟩
    have hV' : ((W1.alloc (.cells #[.int .i64 Y] 2 (0, 0))).alloc (.cells #[.int .i64 X] 2 (0, 0))).drew = V := hV
    rw [hV] at HT
    rw [hV']
    clear hV hV' ax0 bx0 cx0 dx0 ax1 bx1 cx1 dx1 ay0 by0 cy0 dy0 ay1 by1 cy1 dy1 x0 x1 y0 y1
    obtain ⟨gs', hgs⟩ : ∃ g, W1.heap.size = g := ⟨_, rfl⟩
    rw [hgs] at HT
    rw [hgs]
    clear hgs
    go_wp2_with (first
      | (go_at_call 41; refine (impl_waveOf.calls 42 #[.pointer (some ⟨gs' + 1, 0, none⟩), .pointer (some ⟨gw, 0, none⟩), .pointer (some ⟨gs', 0, none⟩)] (enters_of Tryd.func42 (by kernel_rfl) rfl) n (by have := C.out; omega) (impl_SampleUps.lev Z Y X) (fun i W => impl_SampleUps.Inv (gs' + 1) gw (gs') Z Y X i W) w.heap.size V (HT.out.2.2.2.1.size) (fun _ W W' hk hI => ⟨(hk _ (blk_lt HT.out.2.1)).trans hI.1, (hk gw (blk_lt HT.out.2.2.1)).trans hI.2.1, (hk _ (blk_lt HT.out.1)).trans hI.2.2⟩) (fun i W hi hH hI => (impl_SampleUps.level (gs' + 1) gw (gs') Z Y X i W w.heap.size hI (by have := C.out; omega) (by have := C.out; omega) (by have := C.out; omega) (by have := C.out; omega) (by have := C.out; omega) (by have := C.out; omega) (by have := HT.out.2.2.2.2; omega) (by omega) (by have := HT.out.2.2.2.2; omega)).mono fun e W' ⟨he, hI', hb', hf'⟩ => ⟨he, hI', hb', fun k h1 h2 => hf' k h2 (by have := blk_lt HT.out.2.1; omega)⟩) ⟨HT.out.2.1, HT.out.2.2.1, HT.out.1⟩).mono ?_; rintro e w7 ⟨rfl, _, hb⟩; have HB7 := Aside0.mk (HT.out.2.2.2.1.trans hb); clear hb))
    go_ret2
    exact ⟨rfl, HB7.out⟩
  · have HT := Aside0.mk (two_new (A := X) (B := Y) G6.out HB6.out)
    obtain ⟨V, hV⟩ : ∃ V, ((W1.alloc (boxI' X)).alloc (boxI' Y)).drew = V := ⟨_, rfl⟩
    have hV' : ((W1.alloc (.cells #[.int .i64 X] 2 (0, 0))).alloc (.cells #[.int .i64 Y] 2 (0, 0))).drew = V := hV
    rw [hV] at HT
    rw [hV']
    clear hV hV' ax0 bx0 cx0 dx0 ax1 bx1 cx1 dx1 ay0 by0 cy0 dy0 ay1 by1 cy1 dy1 x0 x1 y0 y1
    obtain ⟨gs', hgs⟩ : ∃ g, W1.heap.size = g := ⟨_, rfl⟩
    rw [hgs] at HT
    rw [hgs]
    clear hgs
    go_wp2_with (first
      | (go_at_call 41; refine (impl_waveOf.calls 42 #[.pointer (some ⟨gs', 0, none⟩), .pointer (some ⟨gw, 0, none⟩), .pointer (some ⟨gs' + 1, 0, none⟩)] (enters_of Tryd.func42 (by kernel_rfl) rfl) n (by have := C.out; omega) (impl_SampleUps.lev Z Y X) (fun i W => impl_SampleUps.Inv (gs') gw (gs' + 1) Z Y X i W) w.heap.size V (HT.out.2.2.2.1.size) (fun _ W W' hk hI => ⟨(hk _ (blk_lt HT.out.1)).trans hI.1, (hk gw (blk_lt HT.out.2.2.1)).trans hI.2.1, (hk _ (blk_lt HT.out.2.1)).trans hI.2.2⟩) (fun i W hi hH hI => (impl_SampleUps.level (gs') gw (gs' + 1) Z Y X i W w.heap.size hI (by have := C.out; omega) (by have := C.out; omega) (by have := C.out; omega) (by have := C.out; omega) (by have := C.out; omega) (by have := C.out; omega) (by have := HT.out.2.2.2.2; omega) (by omega) (by have := HT.out.2.2.2.2; omega)).mono fun e W' ⟨he, hI', hb', hf'⟩ => ⟨he, hI', hb', fun k h1 h2 => hf' k h2 (by have := blk_lt HT.out.1; omega)⟩) ⟨HT.out.1, HT.out.2.2.1, HT.out.2.1⟩).mono ?_; rintro e w7 ⟨rfl, _, hb⟩; have HB7 := Aside0.mk (HT.out.2.2.2.1.trans hb); clear hb))
    go_ret2
    exact ⟨rfl, HB7.out⟩

end Go.Proofs.YtbemhcdklmcbcaaDoor.A
-- Printed by this session's oprint.py through the kit's printer.
namespace Go.Proofs.YtbemhcdklmcbcaaDoor.A
open Go.RowKit Go.Proofs.YtbemhcdklmcbcaaDoorW.PrintWords Go.Proofs.YtbemhcdklmcbcaaDoorW.PrintLast Go.Proofs.YtbemhcdklmcbcaaDoorW.PrintMore
attribute [local go_sem] max2_int min2_int max_two min_two max_three min_three max_four min_four   -- for this text's walks alone
set_option linter.unusedVariables false
set_option linter.unusedSimpArgs false

/-! ### impl_CountBounds: function 14 -/
def impl_CountBounds.j0 : Nat → Int → Int → Bool → Option (Int × Int × Int × Int × Bool)
  | 0, _, _, _ => none
  | k + 1, x0, x1, x18 => if x18 = true then (none) else ((impl_MakeFraction.f x1 (wrap64 (x0 + 1))).bind fun bt327 => ((impl_MakeFraction.f x1 (wrap64 (x0 - 1))).bind fun bt331 => (some (bt327.1, bt327.2.1, bt331.1, bt331.2.1, true))))
def impl_CountBounds.f (k : Nat) (a0 : Int) (a1 : Int) : Option (Int × Int × Int × Int × Bool) := (impl_within.f a0 2 400).bind fun t325 => (if t325 = true then ((impl_within.f a1 1 400).bind fun t326 => (impl_CountBounds.j0 k a0 a1 (!t326))) else (impl_CountBounds.j0 k a0 a1 true))
set_option maxHeartbeats 8000000 in
set_option maxRecDepth 100000 in
theorem impl_CountBounds.calls (k : Nat) (a0 : Int) (a1 : Int) (r1 : Int) (r2 : Int) (r3 : Int) (r4 : Int) (r5 : Bool) (w : World) (h : impl_CountBounds.f k a0 a1 = some (r1, r2, r3, r4, r5)) :
    Calls Tryd.prog 14 #[.int .i64 a0, .int .i64 a1] w fun e w' => e = .returned (.tuple #[.agg #[.int .i64 r1, .int .i64 r2], .agg #[.int .i64 r3, .int .i64 r4], .bool r5]) ∧ Below w.heap.size w w' := by
  have hu33 := Tryd.underlying33
  have HB := Aside0.mk (Below.refl w.heap.size w)
  have H : ((impl_within.f a0 2 400).bind fun t325 => (if t325 = true then ((impl_within.f a1 1 400).bind fun t326 => (impl_CountBounds.j0 k a0 a1 (!t326))) else (impl_CountBounds.j0 k a0 a1 true))) = some (r1, r2, r3, r4, r5) := h
  clear h
  have HC3 := Aside0.mk H
  clear H
  go_enter Tryd.func14, Tryd.ntmps14
  go_upto_region 1 with (first | ((with_reducible refine gate_dst (N := 4) rfl ?_); refine box_event ?hg (N := 4) ?hd (cs := #[.int .i64 0, .int .i64 0]) (t := 33) ?hr ?_; (case hd => rfl); (case hg => rfl); (case hr => first | (go_simp; done) | (go_simp; rfl)); intro gb323 hg w4 hbox hb; have n0_ := Aside0.mk (below_step (by repeat (first | (with_reducible first | exact HB.out | apply below_alloc | apply pw_below_drewN | apply below_drew1) | exact HB.out)) hb); have n1_ := Aside0.mk (hbox); have n2_ := Aside0.mk ((by rw [hg]; exact (below_size (by repeat (first | (with_reducible first | exact HB.out | apply below_alloc | apply pw_below_drewN | apply below_drew1) | exact HB.out))) : w.heap.size ≤ gb323)); have n3_ := Aside0.mk ((by rw [hg]; exact (below_size (by repeat (first | (with_reducible first | exact HB.out | apply below_alloc | apply pw_below_drewN | apply below_drew1) | exact HB.out))) : w.heap.size ≤ gb323)); clear HB; have HB := n0_; have BK323 := n1_; have GW323 := n2_; have GE323 := n3_; clear n0_ n1_ n2_ n3_; clear hb hbox hg) | ((with_reducible refine gate_dst (N := 5) rfl ?_); refine box_event ?hg (N := 5) ?hd (cs := #[.int .i64 0, .int .i64 0]) (t := 33) ?hr ?_; (case hd => rfl); (case hg => rfl); (case hr => first | (go_simp; done) | (go_simp; rfl)); intro gb324 hg w5 hbox hb; have n0_ := Aside0.mk (blk_below (g := gb323) (o := .cells #[.int .i64 0, .int .i64 0] 33 (0, 0)) (by (with_reducible repeat (first | refine blk_drewN ?_ _ | refine blk_drew ?_ | refine blk_alloc ?_ _)); exact BK323.out) hb); have n1_ := Aside0.mk (below_step (by repeat (first | (with_reducible first | exact HB.out | apply below_alloc | apply pw_below_drewN | apply below_drew1 | refine below_set ?_ GE323.out) | exact HB.out)) hb); have n2_ := Aside0.mk (hbox); have n3_ := Aside0.mk ((by rw [hg]; exact (below_size (by repeat (first | (with_reducible first | exact HB.out | apply below_alloc | apply pw_below_drewN | apply below_drew1 | refine below_set ?_ GE323.out) | exact HB.out))) : w.heap.size ≤ gb324)); have n4_ := Aside0.mk ((by rw [hg]; exact (below_size (by repeat (first | (with_reducible first | exact HB.out | apply below_alloc | apply pw_below_drewN | apply below_drew1 | refine below_set ?_ GE323.out) | exact HB.out))) : w.heap.size ≤ gb324)); have n5_ := Aside0.mk ((by rw [hg]; exact Nat.ne_of_lt (blk_lt (g := gb323) (o := .cells #[.int .i64 0, .int .i64 0] 33 (0, 0)) (by (with_reducible repeat (first | refine blk_drewN ?_ _ | refine blk_drew ?_ | refine blk_alloc ?_ _)); exact BK323.out)) : gb323 ≠ gb324)); have n6_ := Aside0.mk ((by rw [hg]; exact Nat.ne_of_gt (blk_lt (g := gb323) (o := .cells #[.int .i64 0, .int .i64 0] 33 (0, 0)) (by (with_reducible repeat (first | refine blk_drewN ?_ _ | refine blk_drew ?_ | refine blk_alloc ?_ _)); exact BK323.out)) : gb324 ≠ gb323)); clear BK323; clear HB; have BK323 := n0_; have HB := n1_; have BK324 := n2_; have GW324 := n3_; have GE324 := n4_; have NB323_324 := n5_; have NB324_323 := n6_; clear n0_ n1_ n2_ n3_ n4_ n5_ n6_; clear hb hbox hg))
  (try simp only [Act.put, List.setIfInBounds_toArray, List.set_cons_zero, List.set_cons_succ])
  go_cut [18] (fun v18 wc => ∃ (kq : Nat) (x18_2 : Bool), v18 = .bool x18_2 ∧ Aside0 (impl_CountBounds.j0 kq a0 a1 x18_2 = some (r1, r2, r3, r4, r5)) ∧ Aside0 (kq ≤ k) ∧ Aside0 (wc.heap[gb323]? = some (.cells #[.int .i64 0, .int .i64 0] 33 (0, 0))) ∧ Aside0 (wc.heap[gb324]? = some (.cells #[.int .i64 0, .int .i64 0] 33 (0, 0))) ∧ Aside0 (Below w.heap.size w wc))
  case first =>
    have H := HC3.out
    clear HC3
    replace H := Option.bind_eq_some_iff.mp H
    obtain ⟨t325, A60, H⟩ := H
    replace H : (if t325 = true then ((impl_within.f a1 1 400).bind fun t326 => (impl_CountBounds.j0 k a0 a1 (!t326))) else (impl_CountBounds.j0 k a0 a1 true)) = some (r1, r2, r3, r4, r5) := H
    have A6 := Aside0.mk A60
    clear A60
    by_cases c7 : t325 = true
    · subst c7
      have H1 : ((impl_within.f a1 1 400).bind fun t326 => (impl_CountBounds.j0 k a0 a1 (!t326))) = some (r1, r2, r3, r4, r5) := by rw [if_pos rfl] at H; exact H
      clear H
      have H := H1
      clear H1
      replace H := Option.bind_eq_some_iff.mp H
      obtain ⟨t326, A80, H⟩ := H
      replace H : (impl_CountBounds.j0 k a0 a1 (!t326)) = some (r1, r2, r3, r4, r5) := H
      have A8 := Aside0.mk A80
      clear A80
      have H' := Aside0.mk H
      clear H
      go_wp2_with (first | ((with_reducible refine gate_callee (f := 36) rfl ?_); refine goesL_ (some 12) rfl rfl Tryd.func36 (by kernel_rfl) rfl #[.int .i64 a0, .int .i64 2, .int .i64 400] rfl (by (try simp only [List.map_toArray, List.map_cons, List.map_nil]); first | done | rfl | (simp only [List.length_drop, List.length_take]; rfl)) ?_; (with_reducible refine (impl_within.calls a0 2 400 true _ A6.out).mono ?_); rintro e w' ⟨rfl, ⟨nd, rfl⟩⟩; refine ⟨_, rfl, ?_⟩) | (go_at_call 36; (with_reducible refine (impl_within.calls a1 1 400 t326 _ A8.out).mono ?_); rintro e w' ⟨rfl, ⟨nd, rfl⟩⟩))
      go_meet
      case rel => exact ⟨_, (!t326), (by first | rfl | (simp; done) | (simp [*]; done)), H', ⟨by first | omega | exact Nat.le_refl _⟩, ⟨by (with_reducible repeat (first | refine blk_drewN ?_ _ | refine blk_drew ?_ | refine blk_alloc ?_ _)); exact BK323.out⟩, ⟨by (with_reducible repeat (first | refine blk_drewN ?_ _ | refine blk_drew ?_ | refine blk_alloc ?_ _)); exact BK324.out⟩, ⟨by repeat (first | (with_reducible first | exact HB.out | apply below_alloc | apply pw_below_drewN | apply below_drew1 | refine below_set ?_ GE323.out | refine below_set ?_ GE324.out) | exact HB.out)⟩⟩
    · replace c7 := Bool.eq_false_iff.mpr c7
      subst c7
      have H1 : (impl_CountBounds.j0 k a0 a1 true) = some (r1, r2, r3, r4, r5) := by rw [if_neg (show ¬ (false = true) by decide)] at H; exact H
      clear H
      have H := H1
      clear H1
      have H' := Aside0.mk H
      clear H
      go_wp2_with (first | ((with_reducible refine gate_callee (f := 36) rfl ?_); refine goesL_ (some 12) rfl rfl Tryd.func36 (by kernel_rfl) rfl #[.int .i64 a0, .int .i64 2, .int .i64 400] rfl (by (try simp only [List.map_toArray, List.map_cons, List.map_nil]); first | done | rfl | (simp only [List.length_drop, List.length_take]; rfl)) ?_; (with_reducible refine (impl_within.calls a0 2 400 false _ A6.out).mono ?_); rintro e w' ⟨rfl, ⟨nd, rfl⟩⟩; refine ⟨_, rfl, ?_⟩))
      go_meet
      case rel => exact ⟨_, (true), (by first | rfl | (simp; done) | (simp [*]; done)), H', ⟨by first | omega | exact Nat.le_refl _⟩, ⟨by (with_reducible repeat (first | refine blk_drewN ?_ _ | refine blk_drew ?_ | refine blk_alloc ?_ _)); exact BK323.out⟩, ⟨by (with_reducible repeat (first | refine blk_drewN ?_ _ | refine blk_drew ?_ | refine blk_alloc ?_ _)); exact BK324.out⟩, ⟨by repeat (first | (with_reducible first | exact HB.out | apply below_alloc | apply pw_below_drewN | apply below_drew1 | refine below_set ?_ GE323.out | refine below_set ?_ GE324.out) | exact HB.out)⟩⟩
  case rest =>
    clear HC3
    try clear c1
    try clear p2
    try clear c3
    try clear c7
    obtain ⟨kq, x18_2, rfl, HA, HJ2, BK323, BK324, HB⟩ := hcut
    cases kq with
    | zero => exact absurd HA.out (by simp [impl_CountBounds.j0])
    | succ kj2 =>
      have H := HA.out
      clear HA
      simp only [impl_CountBounds.j0] at H
      by_cases c9 : x18_2 = true
      · subst c9
        have H1 : (none) = some (r1, r2, r3, r4, r5) := by rw [if_pos rfl] at H; exact H
        clear H
        have H := H1
        clear H1
        exact absurd H (by simp)
      · replace c9 := Bool.eq_false_iff.mpr c9
        subst c9
        have H1 : ((impl_MakeFraction.f a1 (wrap64 (a0 + 1))).bind fun bt327 => ((impl_MakeFraction.f a1 (wrap64 (a0 - 1))).bind fun bt331 => (some (bt327.1, bt327.2.1, bt331.1, bt331.2.1, true)))) = some (r1, r2, r3, r4, r5) := by rw [if_neg (show ¬ (false = true) by decide)] at H; exact H
        clear H
        have H := H1
        clear H1
        replace H := Option.bind_eq_some_iff.mp H
        obtain ⟨⟨t327, t328, t329⟩, A100, H⟩ := H
        replace H : ((impl_MakeFraction.f a1 (wrap64 (a0 - 1))).bind fun bt331 => (some (t327, t328, bt331.1, bt331.2.1, true))) = some (r1, r2, r3, r4, r5) := H
        have A10 := Aside0.mk A100
        clear A100
        replace H := Option.bind_eq_some_iff.mp H
        obtain ⟨⟨t331, t332, t333⟩, A110, H⟩ := H
        replace H : (some (t327, t328, t331, t332, true)) = some (r1, r2, r3, r4, r5) := H
        have A11 := Aside0.mk A110
        clear A110
        simp only [Option.some.injEq, Prod.mk.injEq] at H
        obtain ⟨rfl, rfl, rfl, rfl, rfl⟩ := H
        try go_wp2_with (first | ((with_reducible refine gate_callee (f := 12) rfl ?_); refine goesL_ (some 25) rfl rfl Tryd.func12 (by kernel_rfl) rfl #[.int .i64 a1, .int .i64 (wrap64 (a0 + 1))] rfl (by (try simp only [List.map_toArray, List.map_cons, List.map_nil]); first | done | rfl | (simp only [List.length_drop, List.length_take]; rfl)) ?_; (with_reducible refine (impl_MakeFraction.calls a1 (wrap64 (a0 + 1)) t327 t328 t329 _ A10.out).mono ?_); rintro e w12 ⟨rfl, hb⟩; refine ⟨_, rfl, ?_⟩; have n0_ := Aside0.mk (blk_below (g := gb323) (o := .cells #[.int .i64 0, .int .i64 0] 33 (0, 0)) (by (with_reducible repeat (first | refine blk_drewN ?_ _ | refine blk_drew ?_ | refine blk_alloc ?_ _)); exact BK323.out) hb); have n1_ := Aside0.mk (blk_below (g := gb324) (o := .cells #[.int .i64 0, .int .i64 0] 33 (0, 0)) (by (with_reducible repeat (first | refine blk_drewN ?_ _ | refine blk_drew ?_ | refine blk_alloc ?_ _)); exact BK324.out) hb); have n2_ := Aside0.mk (below_step (by repeat (first | (with_reducible first | exact HB.out | apply below_alloc | apply pw_below_drewN | apply below_drew1 | refine below_set ?_ GE323.out | refine below_set ?_ GE324.out) | exact HB.out)) hb); clear BK323; clear BK324; clear HB; have BK323 := n0_; have BK324 := n1_; have HB := n2_; clear n0_ n1_ n2_; (try clear hb); (try clear hb2); (try clear hk); (try clear hi)) | ((with_reducible refine gate_dst (N := 7) rfl ?_); refine box_event ?hg (N := 7) ?hd (cs := #[.int .i64 0, .int .i64 0]) (t := 33) ?hr ?_; (case hd => rfl); (case hg => rfl); (case hr => first | (go_simp; done) | (go_simp; rfl)); intro gb330 hg w13 hbox hb; have n0_ := Aside0.mk (blk_below (g := gb323) (o := .cells #[.int .i64 0, .int .i64 0] 33 (0, 0)) (by (with_reducible repeat (first | refine blk_drewN ?_ _ | refine blk_drew ?_ | refine blk_alloc ?_ _)); exact BK323.out) hb); have n1_ := Aside0.mk (blk_below (g := gb324) (o := .cells #[.int .i64 0, .int .i64 0] 33 (0, 0)) (by (with_reducible repeat (first | refine blk_drewN ?_ _ | refine blk_drew ?_ | refine blk_alloc ?_ _)); exact BK324.out) hb); have n2_ := Aside0.mk (below_step (by repeat (first | (with_reducible first | exact HB.out | apply below_alloc | apply pw_below_drewN | apply below_drew1 | refine below_set ?_ GE323.out | refine below_set ?_ GE324.out) | exact HB.out)) hb); have n3_ := Aside0.mk (hbox); have n4_ := Aside0.mk ((by rw [hg]; exact (below_size (by repeat (first | (with_reducible first | exact HB.out | apply below_alloc | apply pw_below_drewN | apply below_drew1 | refine below_set ?_ GE323.out | refine below_set ?_ GE324.out) | exact HB.out))) : w.heap.size ≤ gb330)); have n5_ := Aside0.mk ((by rw [hg]; exact (below_size (by repeat (first | (with_reducible first | exact HB.out | apply below_alloc | apply pw_below_drewN | apply below_drew1 | refine below_set ?_ GE323.out | refine below_set ?_ GE324.out) | exact HB.out))) : w.heap.size ≤ gb330)); have n6_ := Aside0.mk ((by rw [hg]; exact Nat.ne_of_lt (blk_lt (g := gb323) (o := .cells #[.int .i64 0, .int .i64 0] 33 (0, 0)) (by (with_reducible repeat (first | refine blk_drewN ?_ _ | refine blk_drew ?_ | refine blk_alloc ?_ _)); exact BK323.out)) : gb323 ≠ gb330)); have n7_ := Aside0.mk ((by rw [hg]; exact Nat.ne_of_gt (blk_lt (g := gb323) (o := .cells #[.int .i64 0, .int .i64 0] 33 (0, 0)) (by (with_reducible repeat (first | refine blk_drewN ?_ _ | refine blk_drew ?_ | refine blk_alloc ?_ _)); exact BK323.out)) : gb330 ≠ gb323)); have n8_ := Aside0.mk ((by rw [hg]; exact Nat.ne_of_lt (blk_lt (g := gb324) (o := .cells #[.int .i64 0, .int .i64 0] 33 (0, 0)) (by (with_reducible repeat (first | refine blk_drewN ?_ _ | refine blk_drew ?_ | refine blk_alloc ?_ _)); exact BK324.out)) : gb324 ≠ gb330)); have n9_ := Aside0.mk ((by rw [hg]; exact Nat.ne_of_gt (blk_lt (g := gb324) (o := .cells #[.int .i64 0, .int .i64 0] 33 (0, 0)) (by (with_reducible repeat (first | refine blk_drewN ?_ _ | refine blk_drew ?_ | refine blk_alloc ?_ _)); exact BK324.out)) : gb330 ≠ gb324)); clear BK323; clear BK324; clear HB; have BK323 := n0_; have BK324 := n1_; have HB := n2_; have BK330 := n3_; have GW330 := n4_; have GE330 := n5_; have NB323_330 := n6_; have NB330_323 := n7_; have NB324_330 := n8_; have NB330_324 := n9_; clear n0_ n1_ n2_ n3_ n4_ n5_ n6_ n7_ n8_ n9_; clear hb hbox hg; have hnb14 := NB330_323.out; have hnc14 := NB323_330.out; have hnb15 := NB330_324.out; have hnc15 := NB324_330.out; have hcz16_0 : w13.cell? ⟨gb330, 0, none⟩ = some (.int .i64 0) := (blk_cell BK330.out 0).trans rfl; have hcz16_1 : w13.cell? ⟨gb330, 1, none⟩ = some (.int .i64 0) := (blk_cell BK330.out 1).trans rfl; have hfz16_0 := blk_frozen BK330.out 0; have hfz16_1 := blk_frozen BK330.out 1) | ((with_reducible refine gate_callee (f := 12) rfl ?_); refine goesL_ (some 32) rfl rfl Tryd.func12 (by kernel_rfl) rfl #[.int .i64 a1, .int .i64 (wrap64 (a0 - 1))] rfl (by (try simp only [List.map_toArray, List.map_cons, List.map_nil]); first | done | rfl | (simp only [List.length_drop, List.length_take]; rfl)) ?_; (with_reducible refine (impl_MakeFraction.calls a1 (wrap64 (a0 - 1)) t331 t332 t333 _ A11.out).mono ?_); rintro e w17 ⟨rfl, hb⟩; refine ⟨_, rfl, ?_⟩; have n0_ := Aside0.mk (blk_below (g := gb323) (o := .cells #[.int .i64 0, .int .i64 0] 33 (0, 0)) (by (with_reducible repeat (first | refine blk_drewN ?_ _ | refine blk_drew ?_ | refine blk_alloc ?_ _)); refine blk_far ?_ NB323_330.out _; (with_reducible repeat (first | refine blk_drewN ?_ _ | refine blk_drew ?_ | refine blk_alloc ?_ _)); refine blk_far ?_ NB323_330.out _; (with_reducible repeat (first | refine blk_drewN ?_ _ | refine blk_drew ?_ | refine blk_alloc ?_ _)); exact BK323.out) hb); have n1_ := Aside0.mk (blk_below (g := gb324) (o := .cells #[.int .i64 0, .int .i64 0] 33 (0, 0)) (by (with_reducible repeat (first | refine blk_drewN ?_ _ | refine blk_drew ?_ | refine blk_alloc ?_ _)); refine blk_far ?_ NB324_330.out _; (with_reducible repeat (first | refine blk_drewN ?_ _ | refine blk_drew ?_ | refine blk_alloc ?_ _)); refine blk_far ?_ NB324_330.out _; (with_reducible repeat (first | refine blk_drewN ?_ _ | refine blk_drew ?_ | refine blk_alloc ?_ _)); exact BK324.out) hb); have n2_ := Aside0.mk (blk_below (g := gb330) (o := .cells #[.int .i64 t327, .int .i64 t328] 33 (0, 0)) (by (with_reducible repeat (first | refine blk_drewN ?_ _ | refine blk_drew ?_ | refine blk_alloc ?_ _)); refine blk_put (cs := #[.int .i64 t327, .int .i64 0]) ?_ 1 _ rfl; (with_reducible repeat (first | refine blk_drewN ?_ _ | refine blk_drew ?_ | refine blk_alloc ?_ _)); refine blk_put (cs := #[.int .i64 0, .int .i64 0]) ?_ 0 _ rfl; (with_reducible repeat (first | refine blk_drewN ?_ _ | refine blk_drew ?_ | refine blk_alloc ?_ _)); exact BK330.out) hb); have n3_ := Aside0.mk (below_step (by repeat (first | (with_reducible first | exact HB.out | apply below_alloc | apply pw_below_drewN | apply below_drew1 | refine below_set ?_ GE323.out | refine below_set ?_ GE324.out | refine below_set ?_ GE330.out) | exact HB.out)) hb); clear BK323; clear BK324; clear BK330; clear HB; have BK323 := n0_; have BK324 := n1_; have BK330 := n2_; have HB := n3_; clear n0_ n1_ n2_ n3_; (try clear hb); (try clear hb2); (try clear hk); (try clear hi)) | ((with_reducible refine gate_dst (N := 9) rfl ?_); refine box_event ?hg (N := 9) ?hd (cs := #[.int .i64 0, .int .i64 0]) (t := 33) ?hr ?_; (case hd => rfl); (case hg => rfl); (case hr => first | (go_simp; done) | (go_simp; rfl)); intro gb334 hg w18 hbox hb; have n0_ := Aside0.mk (blk_below (g := gb323) (o := .cells #[.int .i64 0, .int .i64 0] 33 (0, 0)) (by (with_reducible repeat (first | refine blk_drewN ?_ _ | refine blk_drew ?_ | refine blk_alloc ?_ _)); exact BK323.out) hb); have n1_ := Aside0.mk (blk_below (g := gb324) (o := .cells #[.int .i64 0, .int .i64 0] 33 (0, 0)) (by (with_reducible repeat (first | refine blk_drewN ?_ _ | refine blk_drew ?_ | refine blk_alloc ?_ _)); exact BK324.out) hb); have n2_ := Aside0.mk (blk_below (g := gb330) (o := .cells #[.int .i64 t327, .int .i64 t328] 33 (0, 0)) (by (with_reducible repeat (first | refine blk_drewN ?_ _ | refine blk_drew ?_ | refine blk_alloc ?_ _)); exact BK330.out) hb); have n3_ := Aside0.mk (below_step (by repeat (first | (with_reducible first | exact HB.out | apply below_alloc | apply pw_below_drewN | apply below_drew1 | refine below_set ?_ GE323.out | refine below_set ?_ GE324.out | refine below_set ?_ GE330.out) | exact HB.out)) hb); have n4_ := Aside0.mk (hbox); have n5_ := Aside0.mk ((by rw [hg]; exact (below_size (by repeat (first | (with_reducible first | exact HB.out | apply below_alloc | apply pw_below_drewN | apply below_drew1 | refine below_set ?_ GE323.out | refine below_set ?_ GE324.out | refine below_set ?_ GE330.out) | exact HB.out))) : w.heap.size ≤ gb334)); have n6_ := Aside0.mk ((by rw [hg]; exact (below_size (by repeat (first | (with_reducible first | exact HB.out | apply below_alloc | apply pw_below_drewN | apply below_drew1 | refine below_set ?_ GE323.out | refine below_set ?_ GE324.out | refine below_set ?_ GE330.out) | exact HB.out))) : w.heap.size ≤ gb334)); have n7_ := Aside0.mk ((by rw [hg]; exact Nat.ne_of_lt (blk_lt (g := gb323) (o := .cells #[.int .i64 0, .int .i64 0] 33 (0, 0)) (by (with_reducible repeat (first | refine blk_drewN ?_ _ | refine blk_drew ?_ | refine blk_alloc ?_ _)); exact BK323.out)) : gb323 ≠ gb334)); have n8_ := Aside0.mk ((by rw [hg]; exact Nat.ne_of_gt (blk_lt (g := gb323) (o := .cells #[.int .i64 0, .int .i64 0] 33 (0, 0)) (by (with_reducible repeat (first | refine blk_drewN ?_ _ | refine blk_drew ?_ | refine blk_alloc ?_ _)); exact BK323.out)) : gb334 ≠ gb323)); have n9_ := Aside0.mk ((by rw [hg]; exact Nat.ne_of_lt (blk_lt (g := gb324) (o := .cells #[.int .i64 0, .int .i64 0] 33 (0, 0)) (by (with_reducible repeat (first | refine blk_drewN ?_ _ | refine blk_drew ?_ | refine blk_alloc ?_ _)); exact BK324.out)) : gb324 ≠ gb334)); have n10_ := Aside0.mk ((by rw [hg]; exact Nat.ne_of_gt (blk_lt (g := gb324) (o := .cells #[.int .i64 0, .int .i64 0] 33 (0, 0)) (by (with_reducible repeat (first | refine blk_drewN ?_ _ | refine blk_drew ?_ | refine blk_alloc ?_ _)); exact BK324.out)) : gb334 ≠ gb324)); have n11_ := Aside0.mk ((by rw [hg]; exact Nat.ne_of_lt (blk_lt (g := gb330) (o := .cells #[.int .i64 t327, .int .i64 t328] 33 (0, 0)) (by (with_reducible repeat (first | refine blk_drewN ?_ _ | refine blk_drew ?_ | refine blk_alloc ?_ _)); exact BK330.out)) : gb330 ≠ gb334)); have n12_ := Aside0.mk ((by rw [hg]; exact Nat.ne_of_gt (blk_lt (g := gb330) (o := .cells #[.int .i64 t327, .int .i64 t328] 33 (0, 0)) (by (with_reducible repeat (first | refine blk_drewN ?_ _ | refine blk_drew ?_ | refine blk_alloc ?_ _)); exact BK330.out)) : gb334 ≠ gb330)); clear BK323; clear BK324; clear BK330; clear HB; have BK323 := n0_; have BK324 := n1_; have BK330 := n2_; have HB := n3_; have BK334 := n4_; have GW334 := n5_; have GE334 := n6_; have NB323_334 := n7_; have NB334_323 := n8_; have NB324_334 := n9_; have NB334_324 := n10_; have NB330_334 := n11_; have NB334_330 := n12_; clear n0_ n1_ n2_ n3_ n4_ n5_ n6_ n7_ n8_ n9_ n10_ n11_ n12_; clear hb hbox hg; have hnb19 := NB334_323.out; have hnc19 := NB323_334.out; have hnb20 := NB334_324.out; have hnc20 := NB324_334.out; have hnb21 := NB334_330.out; have hnc21 := NB330_334.out; have hcz22_0 : w18.cell? ⟨gb334, 0, none⟩ = some (.int .i64 0) := (blk_cell BK334.out 0).trans rfl; have hcz22_1 : w18.cell? ⟨gb334, 1, none⟩ = some (.int .i64 0) := (blk_cell BK334.out 1).trans rfl; have hfz22_0 := blk_frozen BK334.out 0; have hfz22_1 := blk_frozen BK334.out 1))
        have n0_ : Aside0 (((w18.setCell ⟨gb334, 0, none⟩ (.int .i64 t331)).setCell ⟨gb334, 1, none⟩ (.int .i64 t332)).heap[gb323]? = some (.cells #[.int .i64 0, .int .i64 0] 33 (0, 0))) := ⟨by (with_reducible repeat (first | refine blk_drewN ?_ _ | refine blk_drew ?_ | refine blk_alloc ?_ _)); refine blk_far ?_ NB323_334.out _; (with_reducible repeat (first | refine blk_drewN ?_ _ | refine blk_drew ?_ | refine blk_alloc ?_ _)); refine blk_far ?_ NB323_334.out _; (with_reducible repeat (first | refine blk_drewN ?_ _ | refine blk_drew ?_ | refine blk_alloc ?_ _)); exact BK323.out⟩
        have n1_ : Aside0 (((w18.setCell ⟨gb334, 0, none⟩ (.int .i64 t331)).setCell ⟨gb334, 1, none⟩ (.int .i64 t332)).heap[gb324]? = some (.cells #[.int .i64 0, .int .i64 0] 33 (0, 0))) := ⟨by (with_reducible repeat (first | refine blk_drewN ?_ _ | refine blk_drew ?_ | refine blk_alloc ?_ _)); refine blk_far ?_ NB324_334.out _; (with_reducible repeat (first | refine blk_drewN ?_ _ | refine blk_drew ?_ | refine blk_alloc ?_ _)); refine blk_far ?_ NB324_334.out _; (with_reducible repeat (first | refine blk_drewN ?_ _ | refine blk_drew ?_ | refine blk_alloc ?_ _)); exact BK324.out⟩
        have n2_ : Aside0 (((w18.setCell ⟨gb334, 0, none⟩ (.int .i64 t331)).setCell ⟨gb334, 1, none⟩ (.int .i64 t332)).heap[gb330]? = some (.cells #[.int .i64 t327, .int .i64 t328] 33 (0, 0))) := ⟨by (with_reducible repeat (first | refine blk_drewN ?_ _ | refine blk_drew ?_ | refine blk_alloc ?_ _)); refine blk_far ?_ NB330_334.out _; (with_reducible repeat (first | refine blk_drewN ?_ _ | refine blk_drew ?_ | refine blk_alloc ?_ _)); refine blk_far ?_ NB330_334.out _; (with_reducible repeat (first | refine blk_drewN ?_ _ | refine blk_drew ?_ | refine blk_alloc ?_ _)); exact BK330.out⟩
        have n3_ : Aside0 (((w18.setCell ⟨gb334, 0, none⟩ (.int .i64 t331)).setCell ⟨gb334, 1, none⟩ (.int .i64 t332)).heap[gb334]? = some (.cells #[.int .i64 t331, .int .i64 t332] 33 (0, 0))) := ⟨by (with_reducible repeat (first | refine blk_drewN ?_ _ | refine blk_drew ?_ | refine blk_alloc ?_ _)); refine blk_put (cs := #[.int .i64 t331, .int .i64 0]) ?_ 1 _ rfl; (with_reducible repeat (first | refine blk_drewN ?_ _ | refine blk_drew ?_ | refine blk_alloc ?_ _)); refine blk_put (cs := #[.int .i64 0, .int .i64 0]) ?_ 0 _ rfl; (with_reducible repeat (first | refine blk_drewN ?_ _ | refine blk_drew ?_ | refine blk_alloc ?_ _)); exact BK334.out⟩
        have n4_ : Aside0 (Below w.heap.size w ((w18.setCell ⟨gb334, 0, none⟩ (.int .i64 t331)).setCell ⟨gb334, 1, none⟩ (.int .i64 t332))) := ⟨by repeat (first | (with_reducible first | exact HB.out | apply below_alloc | apply pw_below_drewN | apply below_drew1 | refine below_set ?_ GE323.out | refine below_set ?_ GE324.out | refine below_set ?_ GE330.out | refine below_set ?_ GE334.out) | exact HB.out)⟩
        (try clear BK323)
        (try clear BK324)
        (try clear BK330)
        (try clear BK334)
        (try clear HB)
        generalize ((w18.setCell ⟨gb334, 0, none⟩ (.int .i64 t331)).setCell ⟨gb334, 1, none⟩ (.int .i64 t332)) = w23 at n0_ n1_ n2_ n3_ n4_ ⊢
        have BK323 := n0_
        have BK324 := n1_
        have BK330 := n2_
        have BK334 := n3_
        have HB := n4_
        clear n0_ n1_ n2_ n3_ n4_
        have n0_ := Aside0.mk (blk_drew BK323.out)
        have n1_ := Aside0.mk (blk_drew BK324.out)
        have n2_ := Aside0.mk (blk_drew BK330.out)
        have n3_ := Aside0.mk (blk_drew BK334.out)
        have n4_ := Aside0.mk (below_drew1 HB.out)
        clear BK323
        clear BK324
        clear BK330
        clear BK334
        clear HB
        have BK323 := n0_
        have BK324 := n1_
        have BK330 := n2_
        have BK334 := n3_
        have HB := n4_
        clear n0_ n1_ n2_ n3_ n4_
        refine start_ (n := 5) (S := fun w' => w'.cell? ⟨gb330, 0, none⟩ = some (.int .i64 t327) ∧ w'.cell? ⟨gb330, 1, none⟩ = some (.int .i64 t328) ∧ w'.cell? ⟨gb334, 0, none⟩ = some (.int .i64 t331) ∧ w'.cell? ⟨gb334, 1, none⟩ = some (.int .i64 t332)) (ds := []) #[false, false, false, false, false] (by kernel_rfl) rfl rfl ⟨(blk_cell BK330.out 0).trans rfl, (blk_cell BK330.out 1).trans rfl, (blk_cell BK334.out 0).trans rfl, (blk_cell BK334.out 1).trans rfl⟩ (fun hHeld => ?_)
        generalize w23.drew = w24 at BK323 BK324 BK330 BK334 HB hHeld ⊢
        refine take_ (i := 0) (N := some 35) (v := ?_) (a' := ?_) #[true, false, false, false, false] rfl rfl (by kernel_rfl) (fun _ _ _ h => h) (Or.inl ⟨by rfl, ?_⟩) hHeld ?_ ?_
        rotate_left
        · rintro w' ⟨s0, s1, s2, s3⟩
          go_simp
          with_reducible rfl
        rotate_left
        · simp only [Act.put, List.setIfInBounds_toArray, List.set_cons_zero, List.set_cons_succ, i64_w, i32_w]
          rfl
        refine take_ (i := 1) (N := some 36) (v := ?_) (a' := ?_) #[true, true, false, false, false] rfl rfl (by kernel_rfl) (fun _ _ _ h => h) (Or.inl ⟨by rfl, ?_⟩) hHeld ?_ ?_
        rotate_left
        · rintro w' ⟨s0, s1, s2, s3⟩
          go_simp
          with_reducible rfl
        rotate_left
        · simp only [Act.put, List.setIfInBounds_toArray, List.set_cons_zero, List.set_cons_succ, i64_w, i32_w]
          rfl
        refine one_ (i := 2) (N := none) #[true, true, true, false, false] rfl rfl (by kernel_rfl) (by decide) (fun K hK => ?_)
        have hs25 : w24.cell? ⟨gb323, 0, none⟩ = some (.int .i64 0) := (blk_cell BK323.out 0).trans rfl
        have hfs25 := blk_frozen BK323.out 0
        have hns25_1 := NB324_323.out
        have hns25_2 := NB330_323.out
        have hns25_3 := NB334_323.out
        have hms25_1 := NB323_324.out
        have hms25_2 := NB323_330.out
        have hms25_3 := NB323_334.out
        have hs26 : w24.cell? ⟨gb323, 1, none⟩ = some (.int .i64 0) := (blk_cell BK323.out 1).trans rfl
        have hfs26 := blk_frozen BK323.out 1
        have hns26_1 := NB324_323.out
        have hns26_2 := NB330_323.out
        have hns26_3 := NB334_323.out
        have hms26_1 := NB323_324.out
        have hms26_2 := NB323_330.out
        have hms26_3 := NB323_334.out
        refine skip_ (w1 := ?_) (by rfl) rfl ?_ ?_
        rotate_left
        · go_simp
          rfl
        refine hK.out _ _ ⟨((cell_far (p := ⟨gb323, _, none⟩) NB330_323.out _).trans (((cell_far (p := ⟨gb323, _, none⟩) NB330_323.out _).trans (hHeld.1)))), ((cell_far (p := ⟨gb323, _, none⟩) NB330_323.out _).trans (((cell_far (p := ⟨gb323, _, none⟩) NB330_323.out _).trans (hHeld.2.1)))), ((cell_far (p := ⟨gb323, _, none⟩) NB334_323.out _).trans (((cell_far (p := ⟨gb323, _, none⟩) NB334_323.out _).trans (hHeld.2.2.1)))), ((cell_far (p := ⟨gb323, _, none⟩) NB334_323.out _).trans (((cell_far (p := ⟨gb323, _, none⟩) NB334_323.out _).trans (hHeld.2.2.2))))⟩ (fun hHeld => ?_)
        clear hK K
        refine one_ (i := 3) (N := none) #[true, true, true, true, false] rfl rfl (by kernel_rfl) (by decide) (fun K hK => ?_)
        have hs27 : w24.cell? ⟨gb324, 0, none⟩ = some (.int .i64 0) := (blk_cell BK324.out 0).trans rfl
        have hfs27 := blk_frozen BK324.out 0
        have hns27_0 := NB323_324.out
        have hns27_2 := NB330_324.out
        have hns27_3 := NB334_324.out
        have hms27_0 := NB324_323.out
        have hms27_2 := NB324_330.out
        have hms27_3 := NB324_334.out
        have hs28 : w24.cell? ⟨gb324, 1, none⟩ = some (.int .i64 0) := (blk_cell BK324.out 1).trans rfl
        have hfs28 := blk_frozen BK324.out 1
        have hns28_0 := NB323_324.out
        have hns28_2 := NB330_324.out
        have hns28_3 := NB334_324.out
        have hms28_0 := NB324_323.out
        have hms28_2 := NB324_330.out
        have hms28_3 := NB324_334.out
        refine skip_ (w1 := ?_) (by rfl) rfl ?_ ?_
        rotate_left
        · go_simp
          rfl
        refine hK.out _ _ ⟨((cell_far (p := ⟨gb324, _, none⟩) NB330_324.out _).trans (((cell_far (p := ⟨gb324, _, none⟩) NB330_324.out _).trans (hHeld.1)))), ((cell_far (p := ⟨gb324, _, none⟩) NB330_324.out _).trans (((cell_far (p := ⟨gb324, _, none⟩) NB330_324.out _).trans (hHeld.2.1)))), ((cell_far (p := ⟨gb324, _, none⟩) NB334_324.out _).trans (((cell_far (p := ⟨gb324, _, none⟩) NB334_324.out _).trans (hHeld.2.2.1)))), ((cell_far (p := ⟨gb324, _, none⟩) NB334_324.out _).trans (((cell_far (p := ⟨gb324, _, none⟩) NB334_324.out _).trans (hHeld.2.2.2))))⟩ (fun hHeld => ?_)
        clear hK K
        refine pure_ (i := 4) (N := some 6) (v := ?_) (a' := ?_) #[true, true, true, true, true] rfl rfl (by kernel_rfl) (fun _ _ _ h => h) (Or.inl ⟨by rfl, ?_⟩) ?_ ?_
        rotate_left
        · intro w'
          go_simp
          with_reducible rfl
        rotate_left
        · simp only [Act.put, List.setIfInBounds_toArray, List.set_cons_zero, List.set_cons_succ, i64_w, i32_w]
          rfl
        refine done_ (by kernel_rfl) ?_
        try go_wp2
        refine bodyPost_ret (results_list (rs := [.cell 4 33, .cell 5 33, .tmp 6]) rfl (by simp) (.cell gb323 33 #[.int .i64 t327, .int .i64 t328] (0, 0) _ rfl (by (with_reducible repeat (first | refine blk_drewN ?_ _ | refine blk_drew ?_ | refine blk_alloc ?_ _)); refine blk_far ?_ NB323_324.out _; (with_reducible repeat (first | refine blk_drewN ?_ _ | refine blk_drew ?_ | refine blk_alloc ?_ _)); refine blk_far ?_ NB323_324.out _; (with_reducible repeat (first | refine blk_drewN ?_ _ | refine blk_drew ?_ | refine blk_alloc ?_ _)); refine blk_put (cs := #[.int .i64 t327, .int .i64 0]) ?_ 1 _ rfl; (with_reducible repeat (first | refine blk_drewN ?_ _ | refine blk_drew ?_ | refine blk_alloc ?_ _)); refine blk_put (cs := #[.int .i64 0, .int .i64 0]) ?_ 0 _ rfl; (with_reducible repeat (first | refine blk_drewN ?_ _ | refine blk_drew ?_ | refine blk_alloc ?_ _)); exact BK323.out) Tryd.underlying33 rfl (by kernel_rfl) (.cell gb324 33 #[.int .i64 t331, .int .i64 t332] (0, 0) _ rfl (by (with_reducible repeat (first | refine blk_drewN ?_ _ | refine blk_drew ?_ | refine blk_alloc ?_ _)); refine blk_put (cs := #[.int .i64 t331, .int .i64 0]) ?_ 1 _ rfl; (with_reducible repeat (first | refine blk_drewN ?_ _ | refine blk_drew ?_ | refine blk_alloc ?_ _)); refine blk_put (cs := #[.int .i64 0, .int .i64 0]) ?_ 0 _ rfl; (with_reducible repeat (first | refine blk_drewN ?_ _ | refine blk_drew ?_ | refine blk_alloc ?_ _)); refine blk_far ?_ NB324_323.out _; (with_reducible repeat (first | refine blk_drewN ?_ _ | refine blk_drew ?_ | refine blk_alloc ?_ _)); refine blk_far ?_ NB324_323.out _; (with_reducible repeat (first | refine blk_drewN ?_ _ | refine blk_drew ?_ | refine blk_alloc ?_ _)); exact BK324.out) Tryd.underlying33 rfl (by kernel_rfl) (.tmp .nil)))) rfl ?_
        exact ⟨by first | rfl | (simp [errW_none, errW_some] <;> rfl) | (simp [*, errW_none, errW_some] <;> rfl), by repeat (first | (with_reducible first | exact HB.out | apply below_alloc | apply pw_below_drewN | apply below_drew1 | refine below_set ?_ GE323.out | refine below_set ?_ GE324.out | refine below_set ?_ GE330.out | refine below_set ?_ GE334.out) | exact HB.out)⟩

end Go.Proofs.YtbemhcdklmcbcaaDoor.A
-- Printed by this session's oprint.py through the kit's printer.
namespace Go.Proofs.YtbemhcdklmcbcaaDoor.A
open Go.RowKit Go.Proofs.YtbemhcdklmcbcaaDoorW.PrintWords Go.Proofs.YtbemhcdklmcbcaaDoorW.PrintLast Go.Proofs.YtbemhcdklmcbcaaDoorW.PrintMore
attribute [local go_sem] max2_int min2_int max_two min_two max_three min_three max_four min_four   -- for this text's walks alone
set_option linter.unusedVariables false
set_option linter.unusedSimpArgs false

/-! ### impl_SpanBounds: function 15 -/
def impl_SpanBounds.j0 : Nat → Int → Int → Int → Bool → Option (Int × Int × Int × Int × Bool)
  | 0, _, _, _, _ => none
  | k + 1, x0, x1, x2, x27 => if x27 = true then (none) else ((impl_MakeFraction.f (wrap64 ((wrap64 (x1 - x0)) - 1)) (wrap64 (x2 - 1))).bind fun bt340 => ((impl_MakeFraction.f (wrap64 ((wrap64 (x1 - x0)) + 1)) (wrap64 (x2 - 1))).bind fun bt344 => (some (bt340.1, bt340.2.1, bt344.1, bt344.2.1, true))))
def impl_SpanBounds.f (k : Nat) (a0 : Int) (a1 : Int) (a2 : Int) : Option (Int × Int × Int × Int × Bool) := (impl_within.f a1 1 400).bind fun t337 => (if t337 = true then ((impl_within.f a0 0 (wrap64 (a1 - 1))).bind fun t338 => (if t338 = true then ((impl_within.f a2 2 400).bind fun t339 => (impl_SpanBounds.j0 k a0 a1 a2 (!t339))) else (impl_SpanBounds.j0 k a0 a1 a2 true))) else (impl_SpanBounds.j0 k a0 a1 a2 true))
set_option maxHeartbeats 8000000 in
set_option maxRecDepth 100000 in
theorem impl_SpanBounds.calls (k : Nat) (a0 : Int) (a1 : Int) (a2 : Int) (r1 : Int) (r2 : Int) (r3 : Int) (r4 : Int) (r5 : Bool) (w : World) (h : impl_SpanBounds.f k a0 a1 a2 = some (r1, r2, r3, r4, r5)) :
    Calls Tryd.prog 15 #[.int .i64 a0, .int .i64 a1, .int .i64 a2] w fun e w' => e = .returned (.tuple #[.agg #[.int .i64 r1, .int .i64 r2], .agg #[.int .i64 r3, .int .i64 r4], .bool r5]) ∧ Below w.heap.size w w' := by
  have hu33 := Tryd.underlying33
  have HB := Aside0.mk (Below.refl w.heap.size w)
  have H : ((impl_within.f a1 1 400).bind fun t337 => (if t337 = true then ((impl_within.f a0 0 (wrap64 (a1 - 1))).bind fun t338 => (if t338 = true then ((impl_within.f a2 2 400).bind fun t339 => (impl_SpanBounds.j0 k a0 a1 a2 (!t339))) else (impl_SpanBounds.j0 k a0 a1 a2 true))) else (impl_SpanBounds.j0 k a0 a1 a2 true))) = some (r1, r2, r3, r4, r5) := h
  clear h
  have HC4 := Aside0.mk H
  clear H
  go_enter Tryd.func15, Tryd.ntmps15
  go_upto_region 1 with (first | ((with_reducible refine gate_dst (N := 6) rfl ?_); refine box_event ?hg (N := 6) ?hd (cs := #[.int .i64 0, .int .i64 0]) (t := 33) ?hr ?_; (case hd => rfl); (case hg => rfl); (case hr => first | (go_simp; done) | (go_simp; rfl)); intro gb335 hg w5 hbox hb; have n0_ := Aside0.mk (below_step (by repeat (first | (with_reducible first | exact HB.out | apply below_alloc | apply pw_below_drewN | apply below_drew1) | exact HB.out)) hb); have n1_ := Aside0.mk (hbox); have n2_ := Aside0.mk ((by rw [hg]; exact (below_size (by repeat (first | (with_reducible first | exact HB.out | apply below_alloc | apply pw_below_drewN | apply below_drew1) | exact HB.out))) : w.heap.size ≤ gb335)); have n3_ := Aside0.mk ((by rw [hg]; exact (below_size (by repeat (first | (with_reducible first | exact HB.out | apply below_alloc | apply pw_below_drewN | apply below_drew1) | exact HB.out))) : w.heap.size ≤ gb335)); clear HB; have HB := n0_; have BK335 := n1_; have GW335 := n2_; have GE335 := n3_; clear n0_ n1_ n2_ n3_; clear hb hbox hg) | ((with_reducible refine gate_dst (N := 7) rfl ?_); refine box_event ?hg (N := 7) ?hd (cs := #[.int .i64 0, .int .i64 0]) (t := 33) ?hr ?_; (case hd => rfl); (case hg => rfl); (case hr => first | (go_simp; done) | (go_simp; rfl)); intro gb336 hg w6 hbox hb; have n0_ := Aside0.mk (blk_below (g := gb335) (o := .cells #[.int .i64 0, .int .i64 0] 33 (0, 0)) (by (with_reducible repeat (first | refine blk_drewN ?_ _ | refine blk_drew ?_ | refine blk_alloc ?_ _)); exact BK335.out) hb); have n1_ := Aside0.mk (below_step (by repeat (first | (with_reducible first | exact HB.out | apply below_alloc | apply pw_below_drewN | apply below_drew1 | refine below_set ?_ GE335.out) | exact HB.out)) hb); have n2_ := Aside0.mk (hbox); have n3_ := Aside0.mk ((by rw [hg]; exact (below_size (by repeat (first | (with_reducible first | exact HB.out | apply below_alloc | apply pw_below_drewN | apply below_drew1 | refine below_set ?_ GE335.out) | exact HB.out))) : w.heap.size ≤ gb336)); have n4_ := Aside0.mk ((by rw [hg]; exact (below_size (by repeat (first | (with_reducible first | exact HB.out | apply below_alloc | apply pw_below_drewN | apply below_drew1 | refine below_set ?_ GE335.out) | exact HB.out))) : w.heap.size ≤ gb336)); have n5_ := Aside0.mk ((by rw [hg]; exact Nat.ne_of_lt (blk_lt (g := gb335) (o := .cells #[.int .i64 0, .int .i64 0] 33 (0, 0)) (by (with_reducible repeat (first | refine blk_drewN ?_ _ | refine blk_drew ?_ | refine blk_alloc ?_ _)); exact BK335.out)) : gb335 ≠ gb336)); have n6_ := Aside0.mk ((by rw [hg]; exact Nat.ne_of_gt (blk_lt (g := gb335) (o := .cells #[.int .i64 0, .int .i64 0] 33 (0, 0)) (by (with_reducible repeat (first | refine blk_drewN ?_ _ | refine blk_drew ?_ | refine blk_alloc ?_ _)); exact BK335.out)) : gb336 ≠ gb335)); clear BK335; clear HB; have BK335 := n0_; have HB := n1_; have BK336 := n2_; have GW336 := n3_; have GE336 := n4_; have NB335_336 := n5_; have NB336_335 := n6_; clear n0_ n1_ n2_ n3_ n4_ n5_ n6_; clear hb hbox hg))
  (try simp only [Act.put, List.setIfInBounds_toArray, List.set_cons_zero, List.set_cons_succ])
  go_cut [27] (fun v27 wc => ∃ (kq : Nat) (x27_3 : Bool), v27 = .bool x27_3 ∧ Aside0 (impl_SpanBounds.j0 kq a0 a1 a2 x27_3 = some (r1, r2, r3, r4, r5)) ∧ Aside0 (kq ≤ k) ∧ Aside0 (wc.heap[gb335]? = some (.cells #[.int .i64 0, .int .i64 0] 33 (0, 0))) ∧ Aside0 (wc.heap[gb336]? = some (.cells #[.int .i64 0, .int .i64 0] 33 (0, 0))) ∧ Aside0 (Below w.heap.size w wc))
  case first =>
    have H := HC4.out
    clear HC4
    replace H := Option.bind_eq_some_iff.mp H
    obtain ⟨t337, A70, H⟩ := H
    replace H : (if t337 = true then ((impl_within.f a0 0 (wrap64 (a1 - 1))).bind fun t338 => (if t338 = true then ((impl_within.f a2 2 400).bind fun t339 => (impl_SpanBounds.j0 k a0 a1 a2 (!t339))) else (impl_SpanBounds.j0 k a0 a1 a2 true))) else (impl_SpanBounds.j0 k a0 a1 a2 true)) = some (r1, r2, r3, r4, r5) := H
    have A7 := Aside0.mk A70
    clear A70
    by_cases c8 : t337 = true
    · subst c8
      have H1 : ((impl_within.f a0 0 (wrap64 (a1 - 1))).bind fun t338 => (if t338 = true then ((impl_within.f a2 2 400).bind fun t339 => (impl_SpanBounds.j0 k a0 a1 a2 (!t339))) else (impl_SpanBounds.j0 k a0 a1 a2 true))) = some (r1, r2, r3, r4, r5) := by rw [if_pos rfl] at H; exact H
      clear H
      have H := H1
      clear H1
      replace H := Option.bind_eq_some_iff.mp H
      obtain ⟨t338, A90, H⟩ := H
      replace H : (if t338 = true then ((impl_within.f a2 2 400).bind fun t339 => (impl_SpanBounds.j0 k a0 a1 a2 (!t339))) else (impl_SpanBounds.j0 k a0 a1 a2 true)) = some (r1, r2, r3, r4, r5) := H
      have A9 := Aside0.mk A90
      clear A90
      by_cases c10 : t338 = true
      · subst c10
        have H1 : ((impl_within.f a2 2 400).bind fun t339 => (impl_SpanBounds.j0 k a0 a1 a2 (!t339))) = some (r1, r2, r3, r4, r5) := by rw [if_pos rfl] at H; exact H
        clear H
        have H := H1
        clear H1
        replace H := Option.bind_eq_some_iff.mp H
        obtain ⟨t339, A110, H⟩ := H
        replace H : (impl_SpanBounds.j0 k a0 a1 a2 (!t339)) = some (r1, r2, r3, r4, r5) := H
        have A11 := Aside0.mk A110
        clear A110
        have H' := Aside0.mk H
        clear H
        go_wp2_with (first | ((with_reducible refine gate_callee (f := 36) rfl ?_); refine goesL_ (some 14) rfl rfl Tryd.func36 (by kernel_rfl) rfl #[.int .i64 a1, .int .i64 1, .int .i64 400] rfl (by (try simp only [List.map_toArray, List.map_cons, List.map_nil]); first | done | rfl | (simp only [List.length_drop, List.length_take]; rfl)) ?_; (with_reducible refine (impl_within.calls a1 1 400 true _ A7.out).mono ?_); rintro e w' ⟨rfl, ⟨nd, rfl⟩⟩; refine ⟨_, rfl, ?_⟩) | (go_at_call 36; (with_reducible refine (impl_within.calls a0 0 (wrap64 (a1 - 1)) true _ A9.out).mono ?_); rintro e w' ⟨rfl, ⟨nd, rfl⟩⟩) | (go_at_call 36; (with_reducible refine (impl_within.calls a2 2 400 t339 _ A11.out).mono ?_); rintro e w' ⟨rfl, ⟨nd, rfl⟩⟩))
        go_meet
        case rel => exact ⟨_, (!t339), (by first | rfl | (simp; done) | (simp [*]; done)), H', ⟨by first | omega | exact Nat.le_refl _⟩, ⟨by (with_reducible repeat (first | refine blk_drewN ?_ _ | refine blk_drew ?_ | refine blk_alloc ?_ _)); exact BK335.out⟩, ⟨by (with_reducible repeat (first | refine blk_drewN ?_ _ | refine blk_drew ?_ | refine blk_alloc ?_ _)); exact BK336.out⟩, ⟨by repeat (first | (with_reducible first | exact HB.out | apply below_alloc | apply pw_below_drewN | apply below_drew1 | refine below_set ?_ GE335.out | refine below_set ?_ GE336.out) | exact HB.out)⟩⟩
      · replace c10 := Bool.eq_false_iff.mpr c10
        subst c10
        have H1 : (impl_SpanBounds.j0 k a0 a1 a2 true) = some (r1, r2, r3, r4, r5) := by rw [if_neg (show ¬ (false = true) by decide)] at H; exact H
        clear H
        have H := H1
        clear H1
        have H' := Aside0.mk H
        clear H
        go_wp2_with (first | ((with_reducible refine gate_callee (f := 36) rfl ?_); refine goesL_ (some 14) rfl rfl Tryd.func36 (by kernel_rfl) rfl #[.int .i64 a1, .int .i64 1, .int .i64 400] rfl (by (try simp only [List.map_toArray, List.map_cons, List.map_nil]); first | done | rfl | (simp only [List.length_drop, List.length_take]; rfl)) ?_; (with_reducible refine (impl_within.calls a1 1 400 true _ A7.out).mono ?_); rintro e w' ⟨rfl, ⟨nd, rfl⟩⟩; refine ⟨_, rfl, ?_⟩) | (go_at_call 36; (with_reducible refine (impl_within.calls a0 0 (wrap64 (a1 - 1)) false _ A9.out).mono ?_); rintro e w' ⟨rfl, ⟨nd, rfl⟩⟩))
        go_meet
        case rel => exact ⟨_, (true), (by first | rfl | (simp; done) | (simp [*]; done)), H', ⟨by first | omega | exact Nat.le_refl _⟩, ⟨by (with_reducible repeat (first | refine blk_drewN ?_ _ | refine blk_drew ?_ | refine blk_alloc ?_ _)); exact BK335.out⟩, ⟨by (with_reducible repeat (first | refine blk_drewN ?_ _ | refine blk_drew ?_ | refine blk_alloc ?_ _)); exact BK336.out⟩, ⟨by repeat (first | (with_reducible first | exact HB.out | apply below_alloc | apply pw_below_drewN | apply below_drew1 | refine below_set ?_ GE335.out | refine below_set ?_ GE336.out) | exact HB.out)⟩⟩
    · replace c8 := Bool.eq_false_iff.mpr c8
      subst c8
      have H1 : (impl_SpanBounds.j0 k a0 a1 a2 true) = some (r1, r2, r3, r4, r5) := by rw [if_neg (show ¬ (false = true) by decide)] at H; exact H
      clear H
      have H := H1
      clear H1
      have H' := Aside0.mk H
      clear H
      go_wp2_with (first | ((with_reducible refine gate_callee (f := 36) rfl ?_); refine goesL_ (some 14) rfl rfl Tryd.func36 (by kernel_rfl) rfl #[.int .i64 a1, .int .i64 1, .int .i64 400] rfl (by (try simp only [List.map_toArray, List.map_cons, List.map_nil]); first | done | rfl | (simp only [List.length_drop, List.length_take]; rfl)) ?_; (with_reducible refine (impl_within.calls a1 1 400 false _ A7.out).mono ?_); rintro e w' ⟨rfl, ⟨nd, rfl⟩⟩; refine ⟨_, rfl, ?_⟩))
      go_meet
      case rel => exact ⟨_, (true), (by first | rfl | (simp; done) | (simp [*]; done)), H', ⟨by first | omega | exact Nat.le_refl _⟩, ⟨by (with_reducible repeat (first | refine blk_drewN ?_ _ | refine blk_drew ?_ | refine blk_alloc ?_ _)); exact BK335.out⟩, ⟨by (with_reducible repeat (first | refine blk_drewN ?_ _ | refine blk_drew ?_ | refine blk_alloc ?_ _)); exact BK336.out⟩, ⟨by repeat (first | (with_reducible first | exact HB.out | apply below_alloc | apply pw_below_drewN | apply below_drew1 | refine below_set ?_ GE335.out | refine below_set ?_ GE336.out) | exact HB.out)⟩⟩
  case rest =>
    clear HC4
    try clear c1
    try clear p2
    try clear c3
    try clear p6
    try clear c8
    try clear c10
    obtain ⟨kq, x27_3, rfl, HA, HJ3, BK335, BK336, HB⟩ := hcut
    cases kq with
    | zero => exact absurd HA.out (by simp [impl_SpanBounds.j0])
    | succ kj3 =>
      have H := HA.out
      clear HA
      simp only [impl_SpanBounds.j0] at H
      by_cases c12 : x27_3 = true
      · subst c12
        have H1 : (none) = some (r1, r2, r3, r4, r5) := by rw [if_pos rfl] at H; exact H
        clear H
        have H := H1
        clear H1
        exact absurd H (by simp)
      · replace c12 := Bool.eq_false_iff.mpr c12
        subst c12
        have H1 : ((impl_MakeFraction.f (wrap64 ((wrap64 (a1 - a0)) - 1)) (wrap64 (a2 - 1))).bind fun bt340 => ((impl_MakeFraction.f (wrap64 ((wrap64 (a1 - a0)) + 1)) (wrap64 (a2 - 1))).bind fun bt344 => (some (bt340.1, bt340.2.1, bt344.1, bt344.2.1, true)))) = some (r1, r2, r3, r4, r5) := by rw [if_neg (show ¬ (false = true) by decide)] at H; exact H
        clear H
        have H := H1
        clear H1
        replace H := Option.bind_eq_some_iff.mp H
        obtain ⟨⟨t340, t341, t342⟩, A130, H⟩ := H
        replace H : ((impl_MakeFraction.f (wrap64 ((wrap64 (a1 - a0)) + 1)) (wrap64 (a2 - 1))).bind fun bt344 => (some (t340, t341, bt344.1, bt344.2.1, true))) = some (r1, r2, r3, r4, r5) := H
        have A13 := Aside0.mk A130
        clear A130
        replace H := Option.bind_eq_some_iff.mp H
        obtain ⟨⟨t344, t345, t346⟩, A140, H⟩ := H
        replace H : (some (t340, t341, t344, t345, true)) = some (r1, r2, r3, r4, r5) := H
        have A14 := Aside0.mk A140
        clear A140
        simp only [Option.some.injEq, Prod.mk.injEq] at H
        obtain ⟨rfl, rfl, rfl, rfl, rfl⟩ := H
        try go_wp2_with (first | ((with_reducible refine gate_callee (f := 12) rfl ?_); refine goesL_ (some 37) rfl rfl Tryd.func12 (by kernel_rfl) rfl #[.int .i64 (wrap64 ((wrap64 (a1 - a0)) - 1)), .int .i64 (wrap64 (a2 - 1))] rfl (by (try simp only [List.map_toArray, List.map_cons, List.map_nil]); first | done | rfl | (simp only [List.length_drop, List.length_take]; rfl)) ?_; (with_reducible refine (impl_MakeFraction.calls (wrap64 ((wrap64 (a1 - a0)) - 1)) (wrap64 (a2 - 1)) t340 t341 t342 _ A13.out).mono ?_); rintro e w15 ⟨rfl, hb⟩; refine ⟨_, rfl, ?_⟩; have n0_ := Aside0.mk (blk_below (g := gb335) (o := .cells #[.int .i64 0, .int .i64 0] 33 (0, 0)) (by (with_reducible repeat (first | refine blk_drewN ?_ _ | refine blk_drew ?_ | refine blk_alloc ?_ _)); exact BK335.out) hb); have n1_ := Aside0.mk (blk_below (g := gb336) (o := .cells #[.int .i64 0, .int .i64 0] 33 (0, 0)) (by (with_reducible repeat (first | refine blk_drewN ?_ _ | refine blk_drew ?_ | refine blk_alloc ?_ _)); exact BK336.out) hb); have n2_ := Aside0.mk (below_step (by repeat (first | (with_reducible first | exact HB.out | apply below_alloc | apply pw_below_drewN | apply below_drew1 | refine below_set ?_ GE335.out | refine below_set ?_ GE336.out) | exact HB.out)) hb); clear BK335; clear BK336; clear HB; have BK335 := n0_; have BK336 := n1_; have HB := n2_; clear n0_ n1_ n2_; (try clear hb); (try clear hb2); (try clear hk); (try clear hi)) | ((with_reducible refine gate_dst (N := 9) rfl ?_); refine box_event ?hg (N := 9) ?hd (cs := #[.int .i64 0, .int .i64 0]) (t := 33) ?hr ?_; (case hd => rfl); (case hg => rfl); (case hr => first | (go_simp; done) | (go_simp; rfl)); intro gb343 hg w16 hbox hb; have n0_ := Aside0.mk (blk_below (g := gb335) (o := .cells #[.int .i64 0, .int .i64 0] 33 (0, 0)) (by (with_reducible repeat (first | refine blk_drewN ?_ _ | refine blk_drew ?_ | refine blk_alloc ?_ _)); exact BK335.out) hb); have n1_ := Aside0.mk (blk_below (g := gb336) (o := .cells #[.int .i64 0, .int .i64 0] 33 (0, 0)) (by (with_reducible repeat (first | refine blk_drewN ?_ _ | refine blk_drew ?_ | refine blk_alloc ?_ _)); exact BK336.out) hb); have n2_ := Aside0.mk (below_step (by repeat (first | (with_reducible first | exact HB.out | apply below_alloc | apply pw_below_drewN | apply below_drew1 | refine below_set ?_ GE335.out | refine below_set ?_ GE336.out) | exact HB.out)) hb); have n3_ := Aside0.mk (hbox); have n4_ := Aside0.mk ((by rw [hg]; exact (below_size (by repeat (first | (with_reducible first | exact HB.out | apply below_alloc | apply pw_below_drewN | apply below_drew1 | refine below_set ?_ GE335.out | refine below_set ?_ GE336.out) | exact HB.out))) : w.heap.size ≤ gb343)); have n5_ := Aside0.mk ((by rw [hg]; exact (below_size (by repeat (first | (with_reducible first | exact HB.out | apply below_alloc | apply pw_below_drewN | apply below_drew1 | refine below_set ?_ GE335.out | refine below_set ?_ GE336.out) | exact HB.out))) : w.heap.size ≤ gb343)); have n6_ := Aside0.mk ((by rw [hg]; exact Nat.ne_of_lt (blk_lt (g := gb335) (o := .cells #[.int .i64 0, .int .i64 0] 33 (0, 0)) (by (with_reducible repeat (first | refine blk_drewN ?_ _ | refine blk_drew ?_ | refine blk_alloc ?_ _)); exact BK335.out)) : gb335 ≠ gb343)); have n7_ := Aside0.mk ((by rw [hg]; exact Nat.ne_of_gt (blk_lt (g := gb335) (o := .cells #[.int .i64 0, .int .i64 0] 33 (0, 0)) (by (with_reducible repeat (first | refine blk_drewN ?_ _ | refine blk_drew ?_ | refine blk_alloc ?_ _)); exact BK335.out)) : gb343 ≠ gb335)); have n8_ := Aside0.mk ((by rw [hg]; exact Nat.ne_of_lt (blk_lt (g := gb336) (o := .cells #[.int .i64 0, .int .i64 0] 33 (0, 0)) (by (with_reducible repeat (first | refine blk_drewN ?_ _ | refine blk_drew ?_ | refine blk_alloc ?_ _)); exact BK336.out)) : gb336 ≠ gb343)); have n9_ := Aside0.mk ((by rw [hg]; exact Nat.ne_of_gt (blk_lt (g := gb336) (o := .cells #[.int .i64 0, .int .i64 0] 33 (0, 0)) (by (with_reducible repeat (first | refine blk_drewN ?_ _ | refine blk_drew ?_ | refine blk_alloc ?_ _)); exact BK336.out)) : gb343 ≠ gb336)); clear BK335; clear BK336; clear HB; have BK335 := n0_; have BK336 := n1_; have HB := n2_; have BK343 := n3_; have GW343 := n4_; have GE343 := n5_; have NB335_343 := n6_; have NB343_335 := n7_; have NB336_343 := n8_; have NB343_336 := n9_; clear n0_ n1_ n2_ n3_ n4_ n5_ n6_ n7_ n8_ n9_; clear hb hbox hg; have hnb17 := NB343_335.out; have hnc17 := NB335_343.out; have hnb18 := NB343_336.out; have hnc18 := NB336_343.out; have hcz19_0 : w16.cell? ⟨gb343, 0, none⟩ = some (.int .i64 0) := (blk_cell BK343.out 0).trans rfl; have hcz19_1 : w16.cell? ⟨gb343, 1, none⟩ = some (.int .i64 0) := (blk_cell BK343.out 1).trans rfl; have hfz19_0 := blk_frozen BK343.out 0; have hfz19_1 := blk_frozen BK343.out 1) | ((with_reducible refine gate_callee (f := 12) rfl ?_); refine goesL_ (some 47) rfl rfl Tryd.func12 (by kernel_rfl) rfl #[.int .i64 (wrap64 ((wrap64 (a1 - a0)) + 1)), .int .i64 (wrap64 (a2 - 1))] rfl (by (try simp only [List.map_toArray, List.map_cons, List.map_nil]); first | done | rfl | (simp only [List.length_drop, List.length_take]; rfl)) ?_; (with_reducible refine (impl_MakeFraction.calls (wrap64 ((wrap64 (a1 - a0)) + 1)) (wrap64 (a2 - 1)) t344 t345 t346 _ A14.out).mono ?_); rintro e w20 ⟨rfl, hb⟩; refine ⟨_, rfl, ?_⟩; have n0_ := Aside0.mk (blk_below (g := gb335) (o := .cells #[.int .i64 0, .int .i64 0] 33 (0, 0)) (by (with_reducible repeat (first | refine blk_drewN ?_ _ | refine blk_drew ?_ | refine blk_alloc ?_ _)); refine blk_far ?_ NB335_343.out _; (with_reducible repeat (first | refine blk_drewN ?_ _ | refine blk_drew ?_ | refine blk_alloc ?_ _)); refine blk_far ?_ NB335_343.out _; (with_reducible repeat (first | refine blk_drewN ?_ _ | refine blk_drew ?_ | refine blk_alloc ?_ _)); exact BK335.out) hb); have n1_ := Aside0.mk (blk_below (g := gb336) (o := .cells #[.int .i64 0, .int .i64 0] 33 (0, 0)) (by (with_reducible repeat (first | refine blk_drewN ?_ _ | refine blk_drew ?_ | refine blk_alloc ?_ _)); refine blk_far ?_ NB336_343.out _; (with_reducible repeat (first | refine blk_drewN ?_ _ | refine blk_drew ?_ | refine blk_alloc ?_ _)); refine blk_far ?_ NB336_343.out _; (with_reducible repeat (first | refine blk_drewN ?_ _ | refine blk_drew ?_ | refine blk_alloc ?_ _)); exact BK336.out) hb); have n2_ := Aside0.mk (blk_below (g := gb343) (o := .cells #[.int .i64 t340, .int .i64 t341] 33 (0, 0)) (by (with_reducible repeat (first | refine blk_drewN ?_ _ | refine blk_drew ?_ | refine blk_alloc ?_ _)); refine blk_put (cs := #[.int .i64 t340, .int .i64 0]) ?_ 1 _ rfl; (with_reducible repeat (first | refine blk_drewN ?_ _ | refine blk_drew ?_ | refine blk_alloc ?_ _)); refine blk_put (cs := #[.int .i64 0, .int .i64 0]) ?_ 0 _ rfl; (with_reducible repeat (first | refine blk_drewN ?_ _ | refine blk_drew ?_ | refine blk_alloc ?_ _)); exact BK343.out) hb); have n3_ := Aside0.mk (below_step (by repeat (first | (with_reducible first | exact HB.out | apply below_alloc | apply pw_below_drewN | apply below_drew1 | refine below_set ?_ GE335.out | refine below_set ?_ GE336.out | refine below_set ?_ GE343.out) | exact HB.out)) hb); clear BK335; clear BK336; clear BK343; clear HB; have BK335 := n0_; have BK336 := n1_; have BK343 := n2_; have HB := n3_; clear n0_ n1_ n2_ n3_; (try clear hb); (try clear hb2); (try clear hk); (try clear hi)) | ((with_reducible refine gate_dst (N := 11) rfl ?_); refine box_event ?hg (N := 11) ?hd (cs := #[.int .i64 0, .int .i64 0]) (t := 33) ?hr ?_; (case hd => rfl); (case hg => rfl); (case hr => first | (go_simp; done) | (go_simp; rfl)); intro gb347 hg w21 hbox hb; have n0_ := Aside0.mk (blk_below (g := gb335) (o := .cells #[.int .i64 0, .int .i64 0] 33 (0, 0)) (by (with_reducible repeat (first | refine blk_drewN ?_ _ | refine blk_drew ?_ | refine blk_alloc ?_ _)); exact BK335.out) hb); have n1_ := Aside0.mk (blk_below (g := gb336) (o := .cells #[.int .i64 0, .int .i64 0] 33 (0, 0)) (by (with_reducible repeat (first | refine blk_drewN ?_ _ | refine blk_drew ?_ | refine blk_alloc ?_ _)); exact BK336.out) hb); have n2_ := Aside0.mk (blk_below (g := gb343) (o := .cells #[.int .i64 t340, .int .i64 t341] 33 (0, 0)) (by (with_reducible repeat (first | refine blk_drewN ?_ _ | refine blk_drew ?_ | refine blk_alloc ?_ _)); exact BK343.out) hb); have n3_ := Aside0.mk (below_step (by repeat (first | (with_reducible first | exact HB.out | apply below_alloc | apply pw_below_drewN | apply below_drew1 | refine below_set ?_ GE335.out | refine below_set ?_ GE336.out | refine below_set ?_ GE343.out) | exact HB.out)) hb); have n4_ := Aside0.mk (hbox); have n5_ := Aside0.mk ((by rw [hg]; exact (below_size (by repeat (first | (with_reducible first | exact HB.out | apply below_alloc | apply pw_below_drewN | apply below_drew1 | refine below_set ?_ GE335.out | refine below_set ?_ GE336.out | refine below_set ?_ GE343.out) | exact HB.out))) : w.heap.size ≤ gb347)); have n6_ := Aside0.mk ((by rw [hg]; exact (below_size (by repeat (first | (with_reducible first | exact HB.out | apply below_alloc | apply pw_below_drewN | apply below_drew1 | refine below_set ?_ GE335.out | refine below_set ?_ GE336.out | refine below_set ?_ GE343.out) | exact HB.out))) : w.heap.size ≤ gb347)); have n7_ := Aside0.mk ((by rw [hg]; exact Nat.ne_of_lt (blk_lt (g := gb335) (o := .cells #[.int .i64 0, .int .i64 0] 33 (0, 0)) (by (with_reducible repeat (first | refine blk_drewN ?_ _ | refine blk_drew ?_ | refine blk_alloc ?_ _)); exact BK335.out)) : gb335 ≠ gb347)); have n8_ := Aside0.mk ((by rw [hg]; exact Nat.ne_of_gt (blk_lt (g := gb335) (o := .cells #[.int .i64 0, .int .i64 0] 33 (0, 0)) (by (with_reducible repeat (first | refine blk_drewN ?_ _ | refine blk_drew ?_ | refine blk_alloc ?_ _)); exact BK335.out)) : gb347 ≠ gb335)); have n9_ := Aside0.mk ((by rw [hg]; exact Nat.ne_of_lt (blk_lt (g := gb336) (o := .cells #[.int .i64 0, .int .i64 0] 33 (0, 0)) (by (with_reducible repeat (first | refine blk_drewN ?_ _ | refine blk_drew ?_ | refine blk_alloc ?_ _)); exact BK336.out)) : gb336 ≠ gb347)); have n10_ := Aside0.mk ((by rw [hg]; exact Nat.ne_of_gt (blk_lt (g := gb336) (o := .cells #[.int .i64 0, .int .i64 0] 33 (0, 0)) (by (with_reducible repeat (first | refine blk_drewN ?_ _ | refine blk_drew ?_ | refine blk_alloc ?_ _)); exact BK336.out)) : gb347 ≠ gb336)); have n11_ := Aside0.mk ((by rw [hg]; exact Nat.ne_of_lt (blk_lt (g := gb343) (o := .cells #[.int .i64 t340, .int .i64 t341] 33 (0, 0)) (by (with_reducible repeat (first | refine blk_drewN ?_ _ | refine blk_drew ?_ | refine blk_alloc ?_ _)); exact BK343.out)) : gb343 ≠ gb347)); have n12_ := Aside0.mk ((by rw [hg]; exact Nat.ne_of_gt (blk_lt (g := gb343) (o := .cells #[.int .i64 t340, .int .i64 t341] 33 (0, 0)) (by (with_reducible repeat (first | refine blk_drewN ?_ _ | refine blk_drew ?_ | refine blk_alloc ?_ _)); exact BK343.out)) : gb347 ≠ gb343)); clear BK335; clear BK336; clear BK343; clear HB; have BK335 := n0_; have BK336 := n1_; have BK343 := n2_; have HB := n3_; have BK347 := n4_; have GW347 := n5_; have GE347 := n6_; have NB335_347 := n7_; have NB347_335 := n8_; have NB336_347 := n9_; have NB347_336 := n10_; have NB343_347 := n11_; have NB347_343 := n12_; clear n0_ n1_ n2_ n3_ n4_ n5_ n6_ n7_ n8_ n9_ n10_ n11_ n12_; clear hb hbox hg; have hnb22 := NB347_335.out; have hnc22 := NB335_347.out; have hnb23 := NB347_336.out; have hnc23 := NB336_347.out; have hnb24 := NB347_343.out; have hnc24 := NB343_347.out; have hcz25_0 : w21.cell? ⟨gb347, 0, none⟩ = some (.int .i64 0) := (blk_cell BK347.out 0).trans rfl; have hcz25_1 : w21.cell? ⟨gb347, 1, none⟩ = some (.int .i64 0) := (blk_cell BK347.out 1).trans rfl; have hfz25_0 := blk_frozen BK347.out 0; have hfz25_1 := blk_frozen BK347.out 1))
        have n0_ : Aside0 (((w21.setCell ⟨gb347, 0, none⟩ (.int .i64 t344)).setCell ⟨gb347, 1, none⟩ (.int .i64 t345)).heap[gb335]? = some (.cells #[.int .i64 0, .int .i64 0] 33 (0, 0))) := ⟨by (with_reducible repeat (first | refine blk_drewN ?_ _ | refine blk_drew ?_ | refine blk_alloc ?_ _)); refine blk_far ?_ NB335_347.out _; (with_reducible repeat (first | refine blk_drewN ?_ _ | refine blk_drew ?_ | refine blk_alloc ?_ _)); refine blk_far ?_ NB335_347.out _; (with_reducible repeat (first | refine blk_drewN ?_ _ | refine blk_drew ?_ | refine blk_alloc ?_ _)); exact BK335.out⟩
        have n1_ : Aside0 (((w21.setCell ⟨gb347, 0, none⟩ (.int .i64 t344)).setCell ⟨gb347, 1, none⟩ (.int .i64 t345)).heap[gb336]? = some (.cells #[.int .i64 0, .int .i64 0] 33 (0, 0))) := ⟨by (with_reducible repeat (first | refine blk_drewN ?_ _ | refine blk_drew ?_ | refine blk_alloc ?_ _)); refine blk_far ?_ NB336_347.out _; (with_reducible repeat (first | refine blk_drewN ?_ _ | refine blk_drew ?_ | refine blk_alloc ?_ _)); refine blk_far ?_ NB336_347.out _; (with_reducible repeat (first | refine blk_drewN ?_ _ | refine blk_drew ?_ | refine blk_alloc ?_ _)); exact BK336.out⟩
        have n2_ : Aside0 (((w21.setCell ⟨gb347, 0, none⟩ (.int .i64 t344)).setCell ⟨gb347, 1, none⟩ (.int .i64 t345)).heap[gb343]? = some (.cells #[.int .i64 t340, .int .i64 t341] 33 (0, 0))) := ⟨by (with_reducible repeat (first | refine blk_drewN ?_ _ | refine blk_drew ?_ | refine blk_alloc ?_ _)); refine blk_far ?_ NB343_347.out _; (with_reducible repeat (first | refine blk_drewN ?_ _ | refine blk_drew ?_ | refine blk_alloc ?_ _)); refine blk_far ?_ NB343_347.out _; (with_reducible repeat (first | refine blk_drewN ?_ _ | refine blk_drew ?_ | refine blk_alloc ?_ _)); exact BK343.out⟩
        have n3_ : Aside0 (((w21.setCell ⟨gb347, 0, none⟩ (.int .i64 t344)).setCell ⟨gb347, 1, none⟩ (.int .i64 t345)).heap[gb347]? = some (.cells #[.int .i64 t344, .int .i64 t345] 33 (0, 0))) := ⟨by (with_reducible repeat (first | refine blk_drewN ?_ _ | refine blk_drew ?_ | refine blk_alloc ?_ _)); refine blk_put (cs := #[.int .i64 t344, .int .i64 0]) ?_ 1 _ rfl; (with_reducible repeat (first | refine blk_drewN ?_ _ | refine blk_drew ?_ | refine blk_alloc ?_ _)); refine blk_put (cs := #[.int .i64 0, .int .i64 0]) ?_ 0 _ rfl; (with_reducible repeat (first | refine blk_drewN ?_ _ | refine blk_drew ?_ | refine blk_alloc ?_ _)); exact BK347.out⟩
        have n4_ : Aside0 (Below w.heap.size w ((w21.setCell ⟨gb347, 0, none⟩ (.int .i64 t344)).setCell ⟨gb347, 1, none⟩ (.int .i64 t345))) := ⟨by repeat (first | (with_reducible first | exact HB.out | apply below_alloc | apply pw_below_drewN | apply below_drew1 | refine below_set ?_ GE335.out | refine below_set ?_ GE336.out | refine below_set ?_ GE343.out | refine below_set ?_ GE347.out) | exact HB.out)⟩
        (try clear BK335)
        (try clear BK336)
        (try clear BK343)
        (try clear BK347)
        (try clear HB)
        generalize ((w21.setCell ⟨gb347, 0, none⟩ (.int .i64 t344)).setCell ⟨gb347, 1, none⟩ (.int .i64 t345)) = w26 at n0_ n1_ n2_ n3_ n4_ ⊢
        have BK335 := n0_
        have BK336 := n1_
        have BK343 := n2_
        have BK347 := n3_
        have HB := n4_
        clear n0_ n1_ n2_ n3_ n4_
        have n0_ := Aside0.mk (blk_drew BK335.out)
        have n1_ := Aside0.mk (blk_drew BK336.out)
        have n2_ := Aside0.mk (blk_drew BK343.out)
        have n3_ := Aside0.mk (blk_drew BK347.out)
        have n4_ := Aside0.mk (below_drew1 HB.out)
        clear BK335
        clear BK336
        clear BK343
        clear BK347
        clear HB
        have BK335 := n0_
        have BK336 := n1_
        have BK343 := n2_
        have BK347 := n3_
        have HB := n4_
        clear n0_ n1_ n2_ n3_ n4_
        refine start_ (n := 5) (S := fun w' => w'.cell? ⟨gb343, 0, none⟩ = some (.int .i64 t340) ∧ w'.cell? ⟨gb343, 1, none⟩ = some (.int .i64 t341) ∧ w'.cell? ⟨gb347, 0, none⟩ = some (.int .i64 t344) ∧ w'.cell? ⟨gb347, 1, none⟩ = some (.int .i64 t345)) (ds := []) #[false, false, false, false, false] (by kernel_rfl) rfl rfl ⟨(blk_cell BK343.out 0).trans rfl, (blk_cell BK343.out 1).trans rfl, (blk_cell BK347.out 0).trans rfl, (blk_cell BK347.out 1).trans rfl⟩ (fun hHeld => ?_)
        generalize w26.drew = w27 at BK335 BK336 BK343 BK347 HB hHeld ⊢
        refine take_ (i := 0) (N := some 50) (v := ?_) (a' := ?_) #[true, false, false, false, false] rfl rfl (by kernel_rfl) (fun _ _ _ h => h) (Or.inl ⟨by rfl, ?_⟩) hHeld ?_ ?_
        rotate_left
        · rintro w' ⟨s0, s1, s2, s3⟩
          go_simp
          with_reducible rfl
        rotate_left
        · simp only [Act.put, List.setIfInBounds_toArray, List.set_cons_zero, List.set_cons_succ, i64_w, i32_w]
          rfl
        refine take_ (i := 1) (N := some 51) (v := ?_) (a' := ?_) #[true, true, false, false, false] rfl rfl (by kernel_rfl) (fun _ _ _ h => h) (Or.inl ⟨by rfl, ?_⟩) hHeld ?_ ?_
        rotate_left
        · rintro w' ⟨s0, s1, s2, s3⟩
          go_simp
          with_reducible rfl
        rotate_left
        · simp only [Act.put, List.setIfInBounds_toArray, List.set_cons_zero, List.set_cons_succ, i64_w, i32_w]
          rfl
        refine one_ (i := 2) (N := none) #[true, true, true, false, false] rfl rfl (by kernel_rfl) (by decide) (fun K hK => ?_)
        have hs28 : w27.cell? ⟨gb335, 0, none⟩ = some (.int .i64 0) := (blk_cell BK335.out 0).trans rfl
        have hfs28 := blk_frozen BK335.out 0
        have hns28_1 := NB336_335.out
        have hns28_2 := NB343_335.out
        have hns28_3 := NB347_335.out
        have hms28_1 := NB335_336.out
        have hms28_2 := NB335_343.out
        have hms28_3 := NB335_347.out
        have hs29 : w27.cell? ⟨gb335, 1, none⟩ = some (.int .i64 0) := (blk_cell BK335.out 1).trans rfl
        have hfs29 := blk_frozen BK335.out 1
        have hns29_1 := NB336_335.out
        have hns29_2 := NB343_335.out
        have hns29_3 := NB347_335.out
        have hms29_1 := NB335_336.out
        have hms29_2 := NB335_343.out
        have hms29_3 := NB335_347.out
        refine skip_ (w1 := ?_) (by rfl) rfl ?_ ?_
        rotate_left
        · go_simp
          rfl
        refine hK.out _ _ ⟨((cell_far (p := ⟨gb335, _, none⟩) NB343_335.out _).trans (((cell_far (p := ⟨gb335, _, none⟩) NB343_335.out _).trans (hHeld.1)))), ((cell_far (p := ⟨gb335, _, none⟩) NB343_335.out _).trans (((cell_far (p := ⟨gb335, _, none⟩) NB343_335.out _).trans (hHeld.2.1)))), ((cell_far (p := ⟨gb335, _, none⟩) NB347_335.out _).trans (((cell_far (p := ⟨gb335, _, none⟩) NB347_335.out _).trans (hHeld.2.2.1)))), ((cell_far (p := ⟨gb335, _, none⟩) NB347_335.out _).trans (((cell_far (p := ⟨gb335, _, none⟩) NB347_335.out _).trans (hHeld.2.2.2))))⟩ (fun hHeld => ?_)
        clear hK K
        refine one_ (i := 3) (N := none) #[true, true, true, true, false] rfl rfl (by kernel_rfl) (by decide) (fun K hK => ?_)
        have hs30 : w27.cell? ⟨gb336, 0, none⟩ = some (.int .i64 0) := (blk_cell BK336.out 0).trans rfl
        have hfs30 := blk_frozen BK336.out 0
        have hns30_0 := NB335_336.out
        have hns30_2 := NB343_336.out
        have hns30_3 := NB347_336.out
        have hms30_0 := NB336_335.out
        have hms30_2 := NB336_343.out
        have hms30_3 := NB336_347.out
        have hs31 : w27.cell? ⟨gb336, 1, none⟩ = some (.int .i64 0) := (blk_cell BK336.out 1).trans rfl
        have hfs31 := blk_frozen BK336.out 1
        have hns31_0 := NB335_336.out
        have hns31_2 := NB343_336.out
        have hns31_3 := NB347_336.out
        have hms31_0 := NB336_335.out
        have hms31_2 := NB336_343.out
        have hms31_3 := NB336_347.out
        refine skip_ (w1 := ?_) (by rfl) rfl ?_ ?_
        rotate_left
        · go_simp
          rfl
        refine hK.out _ _ ⟨((cell_far (p := ⟨gb336, _, none⟩) NB343_336.out _).trans (((cell_far (p := ⟨gb336, _, none⟩) NB343_336.out _).trans (hHeld.1)))), ((cell_far (p := ⟨gb336, _, none⟩) NB343_336.out _).trans (((cell_far (p := ⟨gb336, _, none⟩) NB343_336.out _).trans (hHeld.2.1)))), ((cell_far (p := ⟨gb336, _, none⟩) NB347_336.out _).trans (((cell_far (p := ⟨gb336, _, none⟩) NB347_336.out _).trans (hHeld.2.2.1)))), ((cell_far (p := ⟨gb336, _, none⟩) NB347_336.out _).trans (((cell_far (p := ⟨gb336, _, none⟩) NB347_336.out _).trans (hHeld.2.2.2))))⟩ (fun hHeld => ?_)
        clear hK K
        refine pure_ (i := 4) (N := some 8) (v := ?_) (a' := ?_) #[true, true, true, true, true] rfl rfl (by kernel_rfl) (fun _ _ _ h => h) (Or.inl ⟨by rfl, ?_⟩) ?_ ?_
        rotate_left
        · intro w'
          go_simp
          with_reducible rfl
        rotate_left
        · simp only [Act.put, List.setIfInBounds_toArray, List.set_cons_zero, List.set_cons_succ, i64_w, i32_w]
          rfl
        refine done_ (by kernel_rfl) ?_
        try go_wp2
        refine bodyPost_ret (results_list (rs := [.cell 6 33, .cell 7 33, .tmp 8]) rfl (by simp) (.cell gb335 33 #[.int .i64 t340, .int .i64 t341] (0, 0) _ rfl (by (with_reducible repeat (first | refine blk_drewN ?_ _ | refine blk_drew ?_ | refine blk_alloc ?_ _)); refine blk_far ?_ NB335_336.out _; (with_reducible repeat (first | refine blk_drewN ?_ _ | refine blk_drew ?_ | refine blk_alloc ?_ _)); refine blk_far ?_ NB335_336.out _; (with_reducible repeat (first | refine blk_drewN ?_ _ | refine blk_drew ?_ | refine blk_alloc ?_ _)); refine blk_put (cs := #[.int .i64 t340, .int .i64 0]) ?_ 1 _ rfl; (with_reducible repeat (first | refine blk_drewN ?_ _ | refine blk_drew ?_ | refine blk_alloc ?_ _)); refine blk_put (cs := #[.int .i64 0, .int .i64 0]) ?_ 0 _ rfl; (with_reducible repeat (first | refine blk_drewN ?_ _ | refine blk_drew ?_ | refine blk_alloc ?_ _)); exact BK335.out) Tryd.underlying33 rfl (by kernel_rfl) (.cell gb336 33 #[.int .i64 t344, .int .i64 t345] (0, 0) _ rfl (by (with_reducible repeat (first | refine blk_drewN ?_ _ | refine blk_drew ?_ | refine blk_alloc ?_ _)); refine blk_put (cs := #[.int .i64 t344, .int .i64 0]) ?_ 1 _ rfl; (with_reducible repeat (first | refine blk_drewN ?_ _ | refine blk_drew ?_ | refine blk_alloc ?_ _)); refine blk_put (cs := #[.int .i64 0, .int .i64 0]) ?_ 0 _ rfl; (with_reducible repeat (first | refine blk_drewN ?_ _ | refine blk_drew ?_ | refine blk_alloc ?_ _)); refine blk_far ?_ NB336_335.out _; (with_reducible repeat (first | refine blk_drewN ?_ _ | refine blk_drew ?_ | refine blk_alloc ?_ _)); refine blk_far ?_ NB336_335.out _; (with_reducible repeat (first | refine blk_drewN ?_ _ | refine blk_drew ?_ | refine blk_alloc ?_ _)); exact BK336.out) Tryd.underlying33 rfl (by kernel_rfl) (.tmp .nil)))) rfl ?_
        exact ⟨by first | rfl | (simp [errW_none, errW_some] <;> rfl) | (simp [*, errW_none, errW_some] <;> rfl), by repeat (first | (with_reducible first | exact HB.out | apply below_alloc | apply pw_below_drewN | apply below_drew1 | refine below_set ?_ GE335.out | refine below_set ?_ GE336.out | refine below_set ?_ GE343.out | refine below_set ?_ GE347.out) | exact HB.out)⟩

end Go.Proofs.YtbemhcdklmcbcaaDoor.A
-- Printed by this session's oprint.py through the kit's printer.
namespace Go.Proofs.YtbemhcdklmcbcaaDoor.A
open Go.RowKit Go.Proofs.YtbemhcdklmcbcaaDoorW.PrintWords Go.Proofs.YtbemhcdklmcbcaaDoorW.PrintLast Go.Proofs.YtbemhcdklmcbcaaDoorW.PrintMore
attribute [local go_sem] max2_int min2_int max_two min_two max_three min_three max_four min_four   -- for this text's walks alone
set_option linter.unusedVariables false
set_option linter.unusedSimpArgs false

/-! ### impl_DutyOf: function 19 -/
def impl_DutyOf.j0 : Nat → ByteArray → Bool → Option (Int × Int × Bool)
  | 0, _, _ => none
  | k + 1, x0, x10 => if x10 = true then (some (0, 0, false)) else ((strings_Count.f x0 (⟨#[49]⟩ : ByteArray)).bind fun t186 => ((impl_MakeFraction.f t186 (x0.size : Int)).bind fun bt187 => (some (bt187.1, bt187.2.1, bt187.2.2))))
def impl_DutyOf.f (k : Nat) (a0 : ByteArray) : Option (Int × Int × Bool) := (impl_IsWave.f a0).bind fun t185 => (if t185 = true then (impl_DutyOf.j0 k a0 (a0.toList == ([] : List UInt8))) else (impl_DutyOf.j0 k a0 true))
end Go.Proofs.YtbemhcdklmcbcaaDoor.A
/- The reference's fractions in lowest terms are the program's. Conditions: parts of at most MaxPart. -/
namespace Go.Proofs.YtbemhcdklmcbcaaDoor.A
set_option linter.unusedVariables false
set_option linter.unusedSimpArgs false
open Go.RowKit Go.Proofs.YtbemhcdklmcbcaaDoorW.PrintWords Go.Proofs.YtbemhcdklmcbcaaDoorW.PrintLast Go.Proofs.YtbemhcdklmcbcaaDoorW.PrintMore
theorem specGcd_loop : ∀ (m a b : Nat), b ≤ m → ∀ K, spec_l01Gcd.l0 (K + (m + 1)) (a : Int) (b : Int) = some ((Nat.gcd a b : Nat) : Int) := by
  intro m
  induction m with
  | zero =>
    intro a b hb K
    have e : b = 0 := by omega
    subst e
    show spec_l01Gcd.l0 (K + 0 + 1) (a : Int) 0 = _
    unfold spec_l01Gcd.l0
    rw [if_neg (by omega)]
    simp
  | succ m ih =>
    intro a b hb K
    rw [show K + (m + 1 + 1) = K + (m + 1) + 1 by omega]
    unfold spec_l01Gcd.l0
    by_cases h : b = 0
    · subst h
      rw [if_neg (by omega)]; simp
    · have hlt : a % b < b := Nat.mod_lt _ (by omega)
      have e : Int.tmod (a : Int) (b : Int) = ((a % b : Nat) : Int) := by rw [Int.tmod_eq_emod_of_nonneg (by omega)]; exact (Int.natCast_emod a b).symm
      rw [if_pos (by omega), if_neg (by omega), e, ih b (a % b) (by omega) K, Nat.gcd_comm b, ← Nat.gcd_rec, Nat.gcd_comm]
theorem specMax (a : Int) (h : a.natAbs ≤ 9223372036854775807) : spec_l00Max.f a (wrap64 (-a)) = some (a.natAbs : Int) := by
  have hw : wrap64 (-a) = -a := w64 (by omega) (by omega)
  rw [hw]
  unfold spec_l00Max.f
  by_cases c : a > -a
  · rw [if_pos c]; congr 1; omega
  · rw [if_neg c]; congr 1; omega
theorem gcdI_pos (a b : Int) (hb : b ≠ 0) : 0 < gcdI a b := by
  have := Nat.gcd_pos_of_pos_right a.natAbs (show 0 < b.natAbs by omega)
  unfold gcdI; omega
theorem lowest (a b : Int) (hb : b ≠ 0) : 1 ≤ denI a b ∧ Nat.gcd (numI a b).natAbs (denI a b).natAbs = 1 := by
  have hg : 0 < Nat.gcd a.natAbs b.natAbs := Nat.gcd_pos_of_pos_right _ (by omega)
  have e1 : (denI a b).natAbs = b.natAbs / Nat.gcd a.natAbs b.natAbs := by
    unfold denI gcdI; rw [← Int.natCast_ediv, Int.natAbs_natCast]
  have e2 : (numI a b).natAbs = a.natAbs / Nat.gcd a.natAbs b.natAbs := by
    unfold numI gcdI sgn; rw [← Int.natCast_ediv]
    split
    · rw [Int.natAbs_neg, Int.natAbs_natCast]
    · rw [Int.natAbs_natCast]
  have h1 : 0 < b.natAbs / Nat.gcd a.natAbs b.natAbs := Nat.div_pos (Nat.le_of_dvd (by omega) (Nat.gcd_dvd_right _ _)) hg
  have h0 : 0 ≤ denI a b := by unfold denI gcdI; exact Int.ediv_nonneg (by omega) (by omega)
  exact ⟨by omega, by rw [e1, e2]; exact Nat.coprime_div_gcd_div_gcd hg⟩
theorem chkF_yes {n d : Int} (h1 : 1 ≤ d) (h2 : d ≤ 1000000000000000000) (h3 : -1000000000000000000 ≤ n) (h4 : n ≤ 1000000000000000000) (hg : Nat.gcd n.natAbs d.natAbs = 1) : chkF n d = (n, d, true) := by
  have c1 : in64 n = true := decide_eq_true ⟨by omega, by omega⟩
  have c2 : in64 d = true := decide_eq_true ⟨by omega, by omega⟩
  exact if_pos ⟨c1, c2, okF_iff.2 ⟨⟨h1, h2⟩, ⟨h3, h4⟩, hg⟩⟩
theorem mkF_small (a b : Int) (hb : b ≠ 0) (ha : a.natAbs ≤ 1000000000000000000) (hb' : b.natAbs ≤ 1000000000000000000) : mkF a b = (numI a b, denI a b, true) := by
  obtain ⟨h1, h2⟩ := lowest a b hb
  have h3 := numI_le a b
  have h4 := denI_le a b
  exact chkF_yes h1 (by omega) (by omega) (by omega) h2
theorem make_small (a b : Int) (hb : b ≠ 0) (ha : a.natAbs ≤ 1000000000000000000) (hb' : b.natAbs ≤ 1000000000000000000) : impl_MakeFraction.f a b = some (numI a b, denI a b, true) := by
  unfold impl_MakeFraction.f
  rw [if_pos ⟨hb, decide_eq_true ⟨by omega, by omega⟩, decide_eq_true ⟨by omega, by omega⟩⟩, mkF_small a b hb ha hb']

theorem in_is (a b c : Int) : spec_l00In.f a b c = some (decide (b ≤ a ∧ a ≤ c)) := by
  unfold spec_l00In.f
  by_cases h : a ≥ b
  · rw [if_pos h]; have h' : b ≤ a := h; simp [h']
  · rw [if_neg h]; have h' : ¬ b ≤ a := h; simp [h']
end Go.Proofs.YtbemhcdklmcbcaaDoor.A
/- Drawn bytes, and a fraction in lowest terms: plain lemmas. No conditions. -/
namespace Go.Proofs.YtbemhcdklmcbcaaDoor.Pure
set_option linter.unusedVariables false
set_option linter.unusedSimpArgs false
open Go.RowKit Go.Proofs.YtbemhcdklmcbcaaDoor.A Go.Proofs.YtbemhcdklmcbcaaDoorW.PrintWords Go.Proofs.YtbemhcdklmcbcaaDoorW.PrintLast Go.Proofs.YtbemhcdklmcbcaaDoorW.PrintMore
theorem w64' {x : Int} (h0 : -9223372036854775808 ≤ x) (h1 : x < 9223372036854775808) : wrap64 x = x := by unfold wrap64; omega
theorem ev_at {α : Type} {g : Nat → Option α} {r : α} (h : ∃ m, ∀ K, g (K + m) = some r) : Ev g r := by
  obtain ⟨m, h⟩ := h
  refine ⟨m, fun k hk => ?_⟩
  have := h (k - m)
  rwa [Nat.sub_add_cancel hk] at this
def U8 (l : List Int) : Prop := ∀ x ∈ l, (Lit.int .u8 x).wf = true
theorem u8_rd {l : List Int} (h : U8 l) (i : Int) : 0 ≤ rd l i ∧ rd l i ≤ 255 := by
  unfold rd
  rw [List.getD_eq_getElem?_getD]
  rcases hq : l[i.toNat]? with _ | x
  · simp
  · have hm := h x (List.mem_of_getElem? hq)
    simp only [Lit.wf, Bool.and_eq_true, decide_eq_true_eq] at hm
    have e1 : IntKind.u8.min = 0 := rfl
    have e2 : IntKind.u8.max = 255 := rfl
    simp only [Option.getD_some]; omega
theorem b10At_eq {l : List Int} (h : U8 l) (k n : Int) (hk : 0 ≤ k ∧ k ≤ 1000000) (hn : 1 ≤ n) : ∃ x, laws_b10At.f l k n = some x ∧ 0 ≤ x ∧ x < n := by
  unfold laws_b10At.f
  by_cases h1 : n ≤ 1
  · exact ⟨0, by rw [if_pos h1], by omega, by omega⟩
  · rw [if_neg h1]
    by_cases h2 : k < (l.length : Int)
    · have hr := u8_rd h k
      rw [if_pos h2, if_pos hk.1, if_neg (by omega), w64' (by omega) (by omega), Int.tmod_eq_emod_of_nonneg hr.1]
      exact ⟨_, rfl, Int.emod_nonneg _ (by omega), Int.emod_lt_of_pos _ (by omega)⟩
    · rw [if_neg h2, if_neg (by omega), w64' (x := k * 37) (by omega) (by omega), w64' (by omega) (by omega), Int.tmod_eq_emod_of_nonneg (by omega)]
      exact ⟨_, rfl, Int.emod_nonneg _ (by omega), Int.emod_lt_of_pos _ (by omega)⟩
theorem low_parts (a e : Int) (he : 1 ≤ e) : ∃ g : Nat, 0 < g ∧ a = g * numI a e ∧ e = g * denI a e ∧ 1 ≤ denI a e ∧ Nat.gcd (numI a e).natAbs (denI a e).natAbs = 1 := by
  have hl := lowest a e (by omega)
  refine ⟨Nat.gcd a.natAbs e.natAbs, Nat.gcd_pos_of_pos_right _ (by omega), ?_, ?_, hl.1, hl.2⟩
  · unfold numI gcdI sgn
    rw [decide_eq_false (show ¬ e < 0 by omega)]
    have h := Nat.mul_div_cancel' (Nat.gcd_dvd_left a.natAbs e.natAbs)
    have h' : ((Nat.gcd a.natAbs e.natAbs : Nat) : Int) * ((a.natAbs : Int) / ((Nat.gcd a.natAbs e.natAbs : Nat) : Int)) = (a.natAbs : Int) := by rw [← Int.natCast_ediv, ← Int.natCast_mul, h]
    by_cases c : a < 0
    · rw [decide_eq_true c]; simp; rw [Int.mul_neg, h']; omega
    · rw [decide_eq_false c]; simp; rw [h']; omega
  · unfold denI gcdI
    have h := Nat.mul_div_cancel' (Nat.gcd_dvd_right a.natAbs e.natAbs)
    rw [← Int.natCast_ediv, ← Int.natCast_mul, h]; omega
theorem long_eq (l0 l1 : List Int) : ∃ t, laws_b10Long.f l0 l1 = some t ∧ (t = false → l0.length ≤ 1048576 ∧ l1.length ≤ 1048576) := by
  unfold laws_b10Long.f
  by_cases c : (l0.length : Int) > 1048576
  · exact ⟨true, if_pos c, fun z => by cases z⟩
  · rw [if_neg c]
    refine ⟨_, rfl, fun z => ?_⟩
    have := of_decide_eq_false z
    omega
end Go.Proofs.YtbemhcdklmcbcaaDoor.Pure
/- What the reference draws: bytes, numbers. No conditions. -/
namespace Go.Proofs.YtbemhcdklmcbcaaDoor.Pure
set_option linter.unusedVariables false
set_option linter.unusedSimpArgs false
open Go.RowKit Go.Proofs.YtbemhcdklmcbcaaDoor.A Go.Proofs.YtbemhcdklmcbcaaDoorW.PrintWords Go.Proofs.YtbemhcdklmcbcaaDoorW.PrintLast Go.Proofs.YtbemhcdklmcbcaaDoorW.PrintMore
theorem w64 {x : Int} (h1 : -9223372036854775808 ≤ x) (h2 : x ≤ 9223372036854775807) : wrap64 x = x := by unfold wrap64; omega
theorem wu64 (n : Int) : IntKind.u64.wrap n = n % 18446744073709551616 := by simp [IntKind.wrap, IntKind.bits, IntKind.signed]
theorem and255 (x : Int) (h0 : 0 ≤ x) (h1 : x < 16777216) : bits .and .u64 x 255 = x % 256 :=
  bits_mask .u64 24 (by decide) (fun n a b => by rw [wu64]; simp at b; omega) 8 (by decide) x h0 (by simpa using h1)
theorem tmod_pos (x n : Int) (h0 : 0 ≤ x) : Int.tmod x n = x % n := Int.tmod_eq_emod_of_nonneg h0

theorem next_eq {l : List Int} (h : U8 l) (at_ seed : Int) (h0 : 0 ≤ at_) (h1 : at_ ≤ 1000) : ∃ v s, spec_l00Src_next.f l at_ seed = some (v, at_ + 1, s) ∧ 0 ≤ v ∧ v ≤ 255 := by
  unfold spec_l00Src_next.f
  have hr := u8_rd h at_
  have hw : wrap64 (at_ + 1) = at_ + 1 := w64 (by omega) (by omega)
  have hb : ∀ e : Int, 0 ≤ wrap64 (bits .and .u64 ((IntKind.u64.wrap e) / 1099511627776) 255) ∧ wrap64 (bits .and .u64 ((IntKind.u64.wrap e) / 1099511627776) 255) ≤ 255 := by
    intro e
    rw [wu64, and255 _ (by omega) (by omega), w64 (by omega) (by omega)]; omega
  rw [hw]
  by_cases c1 : at_ < (l.length : Int)
  · rw [if_pos c1, if_pos h0]
    split
    · exact ⟨_, _, rfl, by rw [w64 (by omega) (by omega)]; omega, by rw [w64 (by omega) (by omega)]; omega⟩
    · exact ⟨_, _, rfl, (hb _).1, (hb _).2⟩
  · rw [if_neg c1]
    split
    · exact ⟨_, _, rfl, by omega, by omega⟩
    · exact ⟨_, _, rfl, (hb _).1, (hb _).2⟩

theorem pick_small {l : List Int} (h : U8 l) (at_ seed n : Int) (h0 : 0 ≤ at_) (h1 : at_ ≤ 1000) (hn : 2 ≤ n) (hn' : n ≤ 200) : ∃ v s, spec_l00Src_pick.f l at_ seed n = some (v, at_ + 1, s) ∧ 0 ≤ v ∧ v < n := by
  obtain ⟨v, s, e, v0, v1⟩ := next_eq h at_ seed h0 h1
  refine ⟨v % n, s, ?_, Int.emod_nonneg _ (by omega), Int.emod_lt_of_pos _ (by omega)⟩
  unfold spec_l00Src_pick.f
  rw [if_neg (by omega), e]
  simp only [Option.bind_some]
  rw [if_neg (by omega), if_neg (by omega), tmod_pos _ _ v0]
theorem pick_any {l : List Int} (h : U8 l) (at_ seed n : Int) (h0 : 0 ≤ at_) (h1 : at_ ≤ 1000) (hn : 1 ≤ n) (hn' : n ≤ 200) : ∃ v a s, spec_l00Src_pick.f l at_ seed n = some (v, a, s) ∧ 0 ≤ v ∧ v < n ∧ at_ ≤ a ∧ a ≤ at_ + 1 := by
  by_cases c : n = 1
  · subst c
    refine ⟨0, at_, seed, ?_, by omega, by omega, by omega, by omega⟩
    unfold spec_l00Src_pick.f; rw [if_pos (by omega)]
  · obtain ⟨v, s, e, v0, v1⟩ := pick_small h at_ seed n h0 h1 (by omega) hn'
    exact ⟨v, at_ + 1, s, e, v0, v1, by omega, by omega⟩
theorem one_any {l : List Int} (h : U8 l) (at_ seed n : Int) (h0 : 0 ≤ at_) (h1 : at_ ≤ 1000) (hn : 1 ≤ n) (hn' : n ≤ 200) : ∃ v a s, spec_l00Src_one.f l at_ seed n = some (v, a, s) ∧ at_ ≤ a ∧ a ≤ at_ + 1 := by
  obtain ⟨v, a, s, e, -, -, a0, a1⟩ := pick_any h at_ seed n h0 h1 hn hn'
  refine ⟨v == 0, a, s, ?_, a0, a1⟩
  unfold spec_l00Src_one.f
  rw [e]; rfl
end Go.Proofs.YtbemhcdklmcbcaaDoor.Pure
/- What the reference draws: waves. No conditions. -/
namespace Go.Proofs.YtbemhcdklmcbcaaDoor.Pure
set_option linter.unusedVariables false
set_option linter.unusedSimpArgs false
open Go.RowKit Go.Proofs.YtbemhcdklmcbcaaDoor.A Go.Proofs.YtbemhcdklmcbcaaDoorW.PrintWords Go.Proofs.YtbemhcdklmcbcaaDoorW.PrintLast Go.Proofs.YtbemhcdklmcbcaaDoorW.PrintMore
theorem ev_good {l : List Int} (h : U8 l) (some_ : Int) (hs : 1 ≤ some_ ∧ some_ ≤ 5) : ∀ (d : Nat) (acc : List Int) (lev at_ seed : Int), (lev = 48 ∨ lev = 49) → (∀ x ∈ acc, x = 48 ∨ x = 49) → 0 ≤ at_ → at_ + 2 * d ≤ 900 → acc.length + d ≤ 1000 →
    ∃ xs p q, xs.length = acc.length + d ∧ (∀ x ∈ xs, x = 48 ∨ x = 49) ∧ Ev (fun k => spec_l01DrawGood.l0 k acc lev some_ (d : Int) l at_ seed) (strOfNums xs, p, q)
  | 0, acc, lev, at_, seed, hl, ha, h0, h1, h2 => by
    refine ⟨acc, at_, seed, by omega, ha, Ev.step (f := fun _ => some (strOfNums acc, at_, seed)) (fun k => ?_) (Ev.now _)⟩
    simp only [spec_l01DrawGood.l0]
    rw [if_neg (by omega)]
  | d + 1, acc, lev, at_, seed, hl, ha, h0, h1, h2 => by
    obtain ⟨v, a, s, e, a0, a1⟩ := one_any h at_ seed some_ h0 (by omega) hs.1 (by omega)
    have hacc : ∀ y : Int, (y = 48 ∨ y = 49) → ∀ x ∈ acc ++ [y], x = 48 ∨ x = 49 := by
      intro y hy x hx
      rcases List.mem_append.1 hx with h_ | h_
      · exact ha x h_
      · rw [List.mem_singleton.1 h_]; exact hy
    have hw : wrap64 (((d + 1 : Nat) : Int) - 1) = (d : Int) := by rw [w64 (by omega) (by omega)]; omega
    have step : ∀ (y a' s' : Int), (y = 48 ∨ y = 49) → 0 ≤ a' → a' ≤ at_ + 2 → (∀ k, spec_l01DrawGood.l0 (k + 1) acc lev some_ ((d + 1 : Nat) : Int) l at_ seed = spec_l01DrawGood.l0 k (acc ++ [y]) y some_ (d : Int) l a' s') →
        ∃ xs p q, xs.length = acc.length + (d + 1) ∧ (∀ x ∈ xs, x = 48 ∨ x = 49) ∧ Ev (fun k => spec_l01DrawGood.l0 k acc lev some_ ((d + 1 : Nat) : Int) l at_ seed) (strOfNums xs, p, q) := by
      intro y a' s' hy q0 q1 hk
      obtain ⟨xs, p, q, x1, x2, x3⟩ := ev_good h some_ hs d (acc ++ [y]) y a' s' hy (hacc y hy) q0 (by omega) (by rw [List.length_append]; simp; omega)
      exact ⟨xs, p, q, by rw [x1, List.length_append]; simp; omega, x2, Ev.step hk x3⟩
    cases v
    · refine step lev a s hl (by omega) (by omega) (fun k => ?_)
      simp only [spec_l01DrawGood.l0]
      rw [if_pos (by omega), e]
      simp only [Option.bind_some, Bool.false_eq_true, if_false]
      rw [if_pos (by omega), hw]
    · obtain ⟨v2, s2, e2, z0, z1⟩ := pick_small h a s 2 (by omega) (by omega) (by omega) (by omega)
      have hlev : (wrap64 (48 + v2)) % 256 = 48 ∨ (wrap64 (48 + v2)) % 256 = 49 := by
        rw [w64 (by omega) (by omega)]; omega
      refine step ((wrap64 (48 + v2)) % 256) (a + 1) s2 hlev (by omega) (by omega) (fun k => ?_)
      simp only [spec_l01DrawGood.l0]
      rw [if_pos (by omega), e]
      simp only [Option.bind_some, if_true]
      rw [e2]
      simp only [Option.bind_some]
      rw [if_pos (by omega), hw]
theorem ev_drawGood {l : List Int} (h : U8 l) (at_ seed most : Int) (h0 : 0 ≤ at_ ∧ at_ ≤ 100) (hm : 1 ≤ most ∧ most ≤ 100) : ∃ (xs : List Int) (p q : Int), (xs.length : Int) ≤ most ∧ (∀ x ∈ xs, x = 48 ∨ x = 49) ∧ Ev (fun k => spec_l01DrawGood.f k l at_ seed most) (strOfNums xs, p, q) := by
  obtain ⟨v, s, e, v0, v1⟩ := pick_small h at_ seed 2 h0.1 (by omega) (by omega) (by omega)
  obtain ⟨v2, s2, e2, z0, z1⟩ := pick_small h (at_ + 1) s 5 (by omega) (by omega) (by omega) (by omega)
  obtain ⟨v3, s3, e3, y0, y1⟩ := pick_small h (at_ + 1 + 1) s2 (most + 1) (by omega) (by omega) (by omega) (by omega)
  have hlev : (wrap64 (48 + v)) % 256 = 48 ∨ (wrap64 (48 + v)) % 256 = 49 := by
    rw [w64 (by omega) (by omega)]; omega
  obtain ⟨n, rfl⟩ := Int.eq_ofNat_of_zero_le y0
  obtain ⟨xs, p, q, x1, x2, x3⟩ := ev_good h (1 + v2) (by omega) n [] ((wrap64 (48 + v)) % 256) (at_ + 1 + 1 + 1) s3 hlev (fun x hx => by simp at hx) (by omega) (by omega) (by simp; omega)
  refine ⟨xs, p, q, by rw [x1]; simp; omega, x2, ?_⟩
  unfold spec_l01DrawGood.f
  simp only [e, e2, Option.bind_some]
  rw [w64 (x := most + 1) (by omega) (by omega), w64 (x := 1 + v2) (by omega) (by omega)]
  simp only [e3, Option.bind_some]
  exact x3
theorem b10Wave {l : List Int} (h : U8 l) : ∃ xs : List Int, xs.length ≤ 40 ∧ (∀ x ∈ xs, x = 48 ∨ x = 49) ∧ Ev (fun k => spec_B10Wave.f k l) (strOfNums xs) := by
  obtain ⟨xs, p, q, x1, x2, x3⟩ := ev_drawGood h 0 0 40 (by omega) (by omega)
  refine ⟨xs, by omega, x2, ?_⟩
  unfold spec_B10Wave.f spec_l00From.f
  simp only [Option.bind_some]
  exact Ev.bind x3 (Ev.now _)
end Go.Proofs.YtbemhcdklmcbcaaDoor.Pure
/- What the functions over two fractions share. Conditions: valid fractions. -/
namespace Go.Proofs.YtbemhcdklmcbcaaDoor.A
set_option linter.unusedVariables false
set_option linter.unusedSimpArgs false
open Go.RowKit Go.Proofs.YtbemhcdklmcbcaaDoorW.PrintWords Go.Proofs.YtbemhcdklmcbcaaDoorW.PrintLast Go.Proofs.YtbemhcdklmcbcaaDoorW.PrintMore
abbrev boxF (n d : Int) : Obj := .cells #[.int .i64 n, .int .i64 d] 33 (0, 0)
def Part (x : Int) : Prop := -1000000000000000000 ≤ x ∧ x ≤ 1000000000000000000
theorem okF_parts {n d : Int} (h : okF n d = true) : Part n ∧ Part d ∧ 1 ≤ d := by
  obtain ⟨⟨a0, a1⟩, ⟨a2, a3⟩, a4⟩ := okF_iff.1 h
  exact ⟨⟨a2, a3⟩, ⟨by omega, a1⟩, a0⟩
end Go.Proofs.YtbemhcdklmcbcaaDoor.A
/- Waves as lists of levels: of the program's IsWave, DutyOf, and texts that are made by levels. No conditions. -/
namespace Go.Proofs.YtbemhcdklmcbcaaDoor.Pure
set_option linter.unusedVariables false
set_option linter.unusedSimpArgs false
open Go.RowKit Go.Proofs.YtbemhcdklmcbcaaDoor.A Go.Proofs.YtbemhcdklmcbcaaDoorW.PrintWords Go.Proofs.YtbemhcdklmcbcaaDoorW.PrintLast Go.Proofs.YtbemhcdklmcbcaaDoorW.PrintMore
def waveB (s : ByteArray) : Bool := s.data.toList.all (fun b => decide (b.toNat = 48 ∨ b.toNat = 49)) && decide (s.size ≤ 400)
theorem bt_get (s : ByteArray) (i : Nat) (h : i < s.size) : bt s (i : Int) = ((s.data.toList[i]'(by simpa using h)).toNat : Int) := by
  unfold bt
  rw [Int.toNat_natCast, dif_pos h]
  rfl
theorem drop_nil {p : UInt8 → Bool} : ∀ (l : List UInt8), l.dropWhile p = [] → l.all p = true
  | [], _ => rfl
  | x :: l, h => by
    rw [List.dropWhile_cons] at h
    cases hx : p x
    · rw [hx] at h; simp at h
    · rw [hx, if_pos rfl] at h
      rw [List.all_cons, hx, drop_nil l h]; rfl
theorem drop_head {p : UInt8 → Bool} : ∀ (l : List UInt8) (x : UInt8) (r : List UInt8), l.dropWhile p = x :: r → p x = false
  | [], _, _, h => by simp at h
  | y :: l, x, r, h => by
    rw [List.dropWhile_cons] at h
    cases hy : p y
    · rw [hy, if_neg (by decide)] at h
      injection h with h1 h2
      rw [← h1]; exact hy
    · rw [hy, if_pos rfl] at h
      exact drop_head l x r h
theorem drop_all {p : UInt8 → Bool} : ∀ (l : List UInt8), l.all p = true → l.dropWhile p = []
  | [], _ => rfl
  | x :: l, h => by
    rw [List.all_cons, Bool.and_eq_true] at h
    rw [List.dropWhile_cons, if_pos h.1]
    exact drop_all l h.2
theorem trim_nil (l cs : List UInt8) : (Lib.trimS l cs == []) = l.all (cs.contains ·) := by
  unfold Lib.trimS Lib.trimLeftS Lib.trimRightS
  cases h : l.all (cs.contains ·)
  · rw [beq_eq_false_iff_ne]
    intro h2
    have h3 := drop_nil _ h2
    cases hd : l.reverse.dropWhile (cs.contains ·) with
    | nil =>
      have h4 := drop_nil _ hd
      rw [List.all_reverse, h] at h4
      exact absurd h4 (by decide)
    | cons x r =>
      rw [hd, List.all_reverse, List.all_cons, drop_head _ x r hd, Bool.false_and] at h3
      exact absurd h3 (by decide)
  · rw [beq_iff_eq, drop_all l.reverse (by rw [List.all_reverse]; exact h)]
    rfl
theorem all_u8 {p : UInt8 → Bool} (h : (List.range 256).all (fun n => p (UInt8.ofNat n)) = true) (x : UInt8) : p x = true := by
  have := List.all_eq_true.1 h x.toNat (List.mem_range.2 x.toNat_lt)
  rwa [UInt8.ofNat_toNat] at this
theorem has_level (x : UInt8) : ([48, 49] : List UInt8).contains x = decide (x.toNat = 48 ∨ x.toNat = 49) :=
  beq_iff_eq.1 (all_u8 (p := fun x => ([48, 49] : List UInt8).contains x == decide (x.toNat = 48 ∨ x.toNat = 49)) (by decide +kernel) x)
theorem implWave (s : ByteArray) (hs : s.size ≤ 1048576) : impl_IsWave.f s = some (waveB s) := by
  unfold impl_IsWave.f waveB strings_Trim.f
  by_cases c : s.size ≤ 400
  · rw [if_pos (by omega), if_pos ⟨by omega, by decide, by decide⟩, Option.bind_some, decide_eq_true c, Bool.and_true, ByteArray.toList_mk, trim_nil]
    congr 2
    funext x
    exact has_level x
  · rw [if_neg (by omega), decide_eq_false c, Bool.and_false]
/-- What both return. -/
def dutyR (s : ByteArray) : Int × Int × Bool := if waveB s = true ∧ s.size ≠ 0 then (numI ((s.data.toList.count 49 : Nat) : Int) (s.size : Int), denI ((s.data.toList.count 49 : Nat) : Int) (s.size : Int), true) else (0, 0, false)
/-- The byte of a level. -/
def lb (b : Bool) : UInt8 := if b = true then 49 else 48
def wvL (n : Nat) (f : Nat → Bool) : List UInt8 := (List.range n).map (fun i => lb (f i))
def wv (n : Nat) (f : Nat → Bool) : ByteArray := ⟨(wvL n f).toArray⟩
theorem wvL_get (n : Nat) (f : Nat → Bool) (i : Nat) (h : i < (wvL n f).length) : (wvL n f)[i] = lb (f i) := by simp [wvL]
theorem wv_data (n : Nat) (f : Nat → Bool) : (wv n f).data.toList = wvL n f := by simp [wv]
theorem wv_size (n : Nat) (f : Nat → Bool) : (wv n f).size = n := by simp [wv, ByteArray.size, wvL]
theorem ba_ext {s t : ByteArray} (h : s.data.toList = t.data.toList) : s = t := by
  obtain ⟨⟨a⟩⟩ := s; obtain ⟨⟨b⟩⟩ := t
  simp at h; subst h; rfl
theorem text_wv (n : Nat) (f : Nat → Bool) : impl_waveOf.text n f = wv n f := by
  apply ba_ext
  rw [wv_data]
  unfold impl_waveOf.text impl_waveOf.bytes strOfNums wvL lb
  simp only [List.map_map]
  apply List.map_congr_left
  intro i _
  simp only [Function.comp]
  split <;> rfl
theorem wv_wave (n : Nat) (f : Nat → Bool) (hn : n ≤ 400) : waveB (wv n f) = true := by
  unfold waveB
  rw [wv_size, wv_data, decide_eq_true hn, Bool.and_true, List.all_eq_true]
  intro x hx
  unfold wvL at hx
  obtain ⟨i, _, rfl⟩ := List.mem_map.1 hx
  cases f i <;> rfl
theorem wv_isWave (n : Nat) (f : Nat → Bool) (hn : n ≤ 400) : impl_IsWave.f (wv n f) = some true := by
  rw [implWave _ (by rw [wv_size]; omega), wv_wave n f hn]
theorem wv_bt (n : Nat) (f : Nat → Bool) (i : Nat) (hi : i < n) : bt (wv n f) (i : Int) = 48 + b1 (f i) := by
  rw [bt_get _ i (by rw [wv_size]; exact hi)]
  have : ∀ (L : List UInt8) (e : L = wvL n f) (h : i < L.length), ((L[i]'h).toNat : Int) = 48 + b1 (f i) := by
    intro L e h; subst e
    rw [wvL_get]; cases f i <;> rfl
  exact this _ (wv_data n f) _
theorem strOf_wv (xs : List Int) (hx : ∀ x ∈ xs, x = 48 ∨ x = 49) : strOfNums xs = wv xs.length (fun i => rd xs (i : Int) == 49) := by
  apply ba_ext
  rw [wv_data]
  unfold strOfNums
  simp only
  apply List.ext_getElem
  · simp [wvL]
  · intro i h1 h2
    have h3 : i < xs.length := by simpa using h1
    rw [wvL_get]
    simp only [List.getElem_map]
    have e : rd xs (i : Int) = xs[i] := by unfold rd; simp [h3]
    rw [e]
    rcases hx _ (List.getElem_mem h3) with h | h <;> rw [h] <;> rfl
end Go.Proofs.YtbemhcdklmcbcaaDoor.Pure
/- How often a wave goes up: lists of ticks, windows, and the law's own count. No conditions. -/
namespace Go.Proofs.YtbemhcdklmcbcaaDoor.Pure
set_option linter.unusedVariables false
set_option linter.unusedSimpArgs false
open Go.RowKit Go.Proofs.YtbemhcdklmcbcaaDoor.A Go.Proofs.YtbemhcdklmcbcaaDoorW.PrintWords Go.Proofs.YtbemhcdklmcbcaaDoorW.PrintLast Go.Proofs.YtbemhcdklmcbcaaDoorW.PrintMore
theorem wj (j : Nat) (h : j ≤ 1000000) : wrap64 (((j + 1 : Nat) : Int) - 1) = (j : Int) := by rw [w64' (by omega) (by omega)]; omega
theorem wi (i : Nat) (h : i ≤ 1000000) : wrap64 ((i : Int) + 1) = ((i + 1 : Nat) : Int) := by rw [w64' (by omega) (by omega)]; omega
theorem wc (c : Int) (h0 : 0 ≤ c) (h : c ≤ 1000000) : wrap64 (c + 1) = c + 1 := w64' (by omega) (by omega)
/-- The wave goes up at tick i. -/
def up (f : Nat → Bool) : Nat → Bool
  | 0 => f 0
  | i + 1 => f (i + 1) && !f i
def cu (f : Nat → Bool) : Nat → Int
  | 0 => 0
  | k + 1 => cu f k + b1 (up f k)
def upl (f : Nat → Bool) : Nat → List Int
  | 0 => []
  | k + 1 => upl f k ++ (if up f k = true then [(k : Int)] else [])
theorem cu_bd (f : Nat → Bool) : ∀ a d, cu f a ≤ cu f (a + d) ∧ cu f (a + d) ≤ cu f a + d
  | a, 0 => ⟨Int.le_refl _, by rw [Nat.add_zero]; omega⟩
  | a, d + 1 => by
    have := cu_bd f a d
    have := b1_bd (up f (a + d))
    show cu f a ≤ cu f (a + d) + b1 (up f (a + d)) ∧ cu f (a + d) + b1 (up f (a + d)) ≤ cu f a + ((d + 1 : Nat) : Int)
    omega
theorem cu_le (f : Nat → Bool) {a b : Nat} (h : a ≤ b) : cu f a ≤ cu f b ∧ cu f b ≤ cu f a + ((b - a : Nat) : Int) := by
  have := cu_bd f a (b - a)
  rwa [show a + (b - a) = b by omega] at this
theorem cu0 (f : Nat → Bool) (k : Nat) : 0 ≤ cu f k ∧ cu f k ≤ k := by
  have := cu_le f (Nat.zero_le k)
  have e : cu f 0 = 0 := rfl
  omega
theorem upl_length (f : Nat → Bool) : ∀ k, (upl f k).length ≤ k
  | 0 => Nat.le_refl _
  | k + 1 => by
    have := upl_length f k
    show (upl f k ++ (if up f k = true then [(k : Int)] else [])).length ≤ k + 1
    rw [List.length_append]
    split <;> simp <;> omega
/-- The byte ahead of tick i. -/
def prev (f : Nat → Bool) : Nat → Int
  | 0 => 48
  | i + 1 => 48 + b1 (f i)
theorem ev_changes (n : Nat) (f : Nat → Bool) (hn : n ≤ 400) : ∀ d i : Nat, i + d = n → Ev (fun k => impl_changesTo.l0 k (wv n f) 49 (upl f i) (prev f i) (n : Int) (i : Int)) (upl f n)
  | 0, i, hi => by
    obtain rfl : i = n := by omega
    refine Ev.step (f := fun _ => some (upl f i)) (fun k => ?_) (Ev.now _)
    simp only [impl_changesTo.l0]
    rw [if_neg (by omega)]
  | d + 1, i, hi => by
    have ih := ev_changes n f hn d (i + 1) (by omega)
    have hb := wv_bt n f i (by omega)
    have hl := upl_length f i
    have e : upl f (i + 1) = upl f i ++ (if up f i = true then [(i : Int)] else []) := rfl
    have e2 : prev f (i + 1) = 48 + b1 (f i) := rfl
    rw [e, e2] at ih
    have hw : wrap64 ((i : Int) + 1) = ((i + 1 : Nat) : Int) := by rw [w64' (by omega) (by omega)]; rfl
    have hz : ((wv n f).size : Int) = n := by rw [wv_size]
    have hup : (48 + b1 (f i) = prev f i → up f i = false) ∧ (¬ 48 + b1 (f i) = prev f i → 48 + b1 (f i) = 49 → up f i = true) ∧ (¬ 48 + b1 (f i) = prev f i → ¬ 48 + b1 (f i) = 49 → up f i = false) := by
      cases i with
      | zero => show (48 + b1 (f 0) = 48 → f 0 = false) ∧ (¬ 48 + b1 (f 0) = 48 → 48 + b1 (f 0) = 49 → f 0 = true) ∧ (¬ 48 + b1 (f 0) = 48 → ¬ 48 + b1 (f 0) = 49 → f 0 = false)
                cases f 0 <;> decide
      | succ j => show (48 + b1 (f (j + 1)) = 48 + b1 (f j) → (f (j + 1) && !f j) = false) ∧ (¬ 48 + b1 (f (j + 1)) = 48 + b1 (f j) → 48 + b1 (f (j + 1)) = 49 → (f (j + 1) && !f j) = true) ∧ (¬ 48 + b1 (f (j + 1)) = 48 + b1 (f j) → ¬ 48 + b1 (f (j + 1)) = 49 → (f (j + 1) && !f j) = false)
                  cases f (j + 1) <;> cases f j <;> decide
    refine Ev.step (fun k => ?_) ih
    simp only [impl_changesTo.l0]
    rw [hz, hb, if_pos (by omega), if_pos (by omega), if_pos (by omega), hw]
    by_cases c1 : 48 + b1 (f i) = prev f i
    · rw [if_pos c1, hup.1 c1, if_neg (by decide), List.append_nil]
    · rw [if_neg c1]
      by_cases c2 : 48 + b1 (f i) = 49
      · rw [if_pos c2, if_pos (by omega), hup.2.1 c1 c2, if_pos rfl]
      · rw [if_neg c2, hup.2.2 c1 c2, if_neg (by decide), List.append_nil]
theorem changes_wv (n : Nat) (f : Nat → Bool) (hn : n ≤ 400) : Ev (fun k => impl_changesTo.f k (wv n f) 49) (upl f n) := by
  have h := ev_changes n f hn n 0 (by omega)
  unfold impl_changesTo.f
  rw [wv_size]
  exact h
/-- How many of a list lie from a on and ahead of b. -/
def cnt (l : List Int) (a b : Int) : Int := ((l.filter (fun x => decide (a ≤ x ∧ x ≤ b - 1))).length : Nat)
theorem ev_upsIn (a b : Int) (hb : -1000000 ≤ b ∧ b ≤ 1000000) : ∀ (l p : List Int) (c i : Int), i = p.length → 0 ≤ c → c ≤ i → (p ++ l).length ≤ 1000000 → Ev (fun k => impl_upsIn.l0 k a b c (p ++ l) ((p ++ l).length : Int) i) (c + cnt l a b)
  | [], p, c, i, hi, h0, h1, h2 => by
    refine Ev.step (f := fun _ => some (c + cnt [] a b)) (fun k => ?_) (Ev.now _)
    simp only [impl_upsIn.l0, List.append_nil]
    rw [if_neg (by omega)]
    congr 1
    show c = c + 0
    omega
  | x :: l, p, c, i, hi, h0, h1, h2 => by
    have hlen : (p ++ x :: l).length = p.length + (l.length + 1) := by simp
    have hrd : rd (p ++ x :: l) i = x := by subst hi; unfold rd; simp
    have e : p ++ x :: l = (p ++ [x]) ++ l := by simp
    have hw : wrap64 (i + 1) = i + 1 := w64' (by omega) (by omega)
    have hwc : wrap64 (c + 1) = c + 1 := w64' (by omega) (by omega)
    have hwb : wrap64 (b - 1) = b - 1 := w64' (by omega) (by omega)
    have hwi : impl_within.f x a (b - 1) = some (decide (a ≤ x ∧ x ≤ b - 1)) := within_is x a (b - 1)
    by_cases q : a ≤ x ∧ x ≤ b - 1
    · have ih := ev_upsIn a b hb l (p ++ [x]) (c + 1) (i + 1) (by rw [List.length_append]; simp; omega) (by omega) (by omega) (by rw [← e]; exact h2)
      rw [← e] at ih
      have ec : c + cnt (x :: l) a b = (c + 1) + cnt l a b := by
        unfold cnt; rw [List.filter_cons, if_pos (decide_eq_true q)]; simp; omega
      rw [ec]
      refine Ev.step (fun k => ?_) ih
      simp only [impl_upsIn.l0]
      rw [if_pos (by omega), if_pos (by omega), if_pos (by omega), hrd, hwb, hwi, Option.bind_some, decide_eq_true q, if_pos rfl, hw, hwc]
    · have ih := ev_upsIn a b hb l (p ++ [x]) c (i + 1) (by rw [List.length_append]; simp; omega) (by omega) (by omega) (by rw [← e]; exact h2)
      rw [← e] at ih
      have ec : c + cnt (x :: l) a b = c + cnt l a b := by
        unfold cnt; rw [List.filter_cons, if_neg (by simpa using q)]
      rw [ec]
      refine Ev.step (fun k => ?_) ih
      simp only [impl_upsIn.l0]
      rw [if_pos (by omega), if_pos (by omega), if_pos (by omega), hrd, hwb, hwi, Option.bind_some, decide_eq_false q, if_neg (by decide), hw]
theorem cnt_append (l m : List Int) (a b : Int) : cnt (l ++ m) a b = cnt l a b + cnt m a b := by unfold cnt; rw [List.filter_append, List.length_append]; omega
theorem cnt_upl (f : Nat → Bool) (a b : Nat) (hab : a ≤ b) : ∀ k, cnt (upl f k) (a : Int) (b : Int) = cu f (min k b) - cu f (min k a)
  | 0 => by simp [upl, cnt, cu]
  | k + 1 => by
    have ih := cnt_upl f a b hab k
    have e : upl f (k + 1) = upl f k ++ (if up f k = true then [(k : Int)] else []) := rfl
    have ecu : cu f (k + 1) = cu f k + b1 (up f k) := rfl
    rw [e, cnt_append, ih]
    have hone : cnt (if up f k = true then [(k : Int)] else []) (a : Int) (b : Int) = if a ≤ k ∧ k < b then b1 (up f k) else 0 := by
      unfold cnt b1
      cases up f k
      · simp
      · simp only [if_true, List.filter_cons, List.filter_nil]
        by_cases q : a ≤ k ∧ k < b
        · rw [if_pos q, if_pos (decide_eq_true (by omega))]; rfl
        · rw [if_neg q, if_neg (by simp; omega)]; rfl
    rw [hone]
    by_cases c1 : b ≤ k
    · rw [if_neg (by omega), Nat.min_eq_right c1, Nat.min_eq_right (show b ≤ k + 1 by omega), Nat.min_eq_right (show a ≤ k by omega), Nat.min_eq_right (show a ≤ k + 1 by omega)]; omega
    · rw [Nat.min_eq_left (show k ≤ b by omega), Nat.min_eq_left (show k + 1 ≤ b by omega), ecu]
      by_cases c2 : a ≤ k
      · rw [if_pos ⟨c2, by omega⟩, Nat.min_eq_right c2, Nat.min_eq_right (show a ≤ k + 1 by omega)]; omega
      · rw [if_neg (by omega), Nat.min_eq_left (show k ≤ a by omega), Nat.min_eq_left (show k + 1 ≤ a by omega), ecu]; omega
theorem upsIn_wv (n : Nat) (f : Nat → Bool) (hn : n ≤ 400) (a b : Nat) (hab : a ≤ b) (hb : b ≤ n) : Ev (fun k => impl_upsIn.f k (upl f n) (a : Int) (b : Int)) (cu f b - cu f a) := by
  have h := ev_upsIn (a : Int) (b : Int) (by omega) (upl f n) [] 0 0 rfl (by omega) (by omega) (by have := upl_length f n; simp; omega)
  rw [cnt_upl f a b hab n, Nat.min_eq_right hb, Nat.min_eq_right (by omega), Int.zero_add] at h
  exact h
/-- What the law itself counts. -/
theorem ev_b10 (n : Nat) (f : Nat → Bool) (hn : n ≤ 400) (b : Nat) (hb : b ≤ n) : ∀ d i : Nat, i + d = b → Ev (fun k => laws_b10Ups.l0 k (wv n f) (b : Int) (cu f i) (i : Int)) (cu f b)
  | 0, i, hi => by
    obtain rfl : i = b := by omega
    refine Ev.step (f := fun k => laws_b10Ups.j1 k (wv n f) (i : Int) (cu f i) (i : Int) false) (fun k => ?_) (Ev.step (f := fun _ => some (cu f i)) (fun k => ?_) (Ev.now _))
    · simp only [laws_b10Ups.l0]; rw [if_neg (by omega)]
    · simp only [laws_b10Ups.j1]; rw [if_neg (by decide)]
  | d + 1, i, hi => by
    have hib : i ≤ 1000000 := by omega
    have hin : (i : Int) < (n : Int) := by omega
    have hibb : (i : Int) < (b : Int) := by omega
    have hi0 : (0 : Int) ≤ (i : Int) := by omega
    have hcc := cu0 f i
    have hc1 : cu f i ≤ 1000000 := by omega
    have ih := ev_b10 n f hn b hb d (i + 1) (by omega)
    have hb1 := wv_bt n f i (by omega)
    have e : cu f (i + 1) = cu f i + b1 (up f i) := rfl
    have hz : ((wv n f).size : Int) = n := by rw [wv_size]
    rw [e] at ih
    refine Ev.step (f := fun k => laws_b10Ups.j1 k (wv n f) (b : Int) (cu f i) (i : Int) true) (fun k => ?_) (Ev.step (fun k => ?_) ih)
    · simp only [laws_b10Ups.l0]; rw [hz, if_pos hibb, decide_eq_true hin]
    · simp only [laws_b10Ups.j1, if_true]
      rw [hz, if_pos hi0, if_pos hin, hb1, wi i hib]
      cases i with
      | zero =>
        have eu : up f 0 = f 0 := rfl
        rw [eu]
        cases f 0
        · rw [if_neg (by decide)]; rfl
        · rw [if_pos (by decide), if_pos (by decide), wc _ hcc.1 hc1]; rfl
      | succ j =>
        have eu : up f (j + 1) = (f (j + 1) && !f j) := rfl
        have hb2 := wv_bt n f j (by omega)
        have hjn : (j : Int) < (n : Int) := by omega
        have hj0 : (0 : Int) ≤ (j : Int) := by omega
        have hne : ¬ ((j + 1 : Nat) : Int) = 0 := by omega
        rw [eu, wj j (by omega), hb2]
        cases f (j + 1)
        · rw [if_neg (by decide)]
          have : cu f (j + 1) + b1 (false && !f j) = cu f (j + 1) := by cases f j <;> exact Int.add_zero _
          rw [this]
        · rw [if_pos (by decide), if_neg hne, if_pos hj0, if_pos hjn]
          cases f j
          · rw [if_pos (by decide), wc _ hcc.1 hc1]; rfl
          · rw [if_neg (by decide)]
            have : cu f (j + 1) + b1 (true && !true) = cu f (j + 1) := Int.add_zero _
            rw [this]
theorem b10Ups_wv (n : Nat) (f : Nat → Bool) (hn : n ≤ 400) (b : Nat) (hb : b ≤ n) : Ev (fun k => laws_b10Ups.f k (wv n f) (b : Int)) (cu f b) := ev_b10 n f hn b hb b 0 (by omega)
/-! Windows. -/
def cwl (f : Nat → Bool) (t : Nat) (k : Nat) : List Int := (List.range k).map (fun j => cu f ((j + 1) * t) - cu f (j * t))
theorem cwl_succ (f : Nat → Bool) (t k : Nat) : cwl f t (k + 1) = cwl f t k ++ [cu f ((k + 1) * t) - cu f (k * t)] := by simp [cwl, List.range_succ]
theorem cwl_length (f : Nat → Bool) (t k : Nat) : (cwl f t k).length = k := by simp [cwl]
theorem cwl_rd (f : Nat → Bool) (t k j : Nat) (h : j < k) : rd (cwl f t k) (j : Int) = cu f ((j + 1) * t) - cu f (j * t) := by unfold rd cwl; simp [h]
theorem filter_wv (n : Nat) (f : Nat → Bool) (hn : n ≤ 400) (t : Int) (ht : 1 ≤ t ∧ t ≤ 50) : impl_isFilter.f (wv n f) t = some true := by
  unfold impl_isFilter.f
  rw [wv_isWave n f hn, within_is, decide_eq_true ht]; rfl
theorem ev_windows (n : Nat) (f : Nat → Bool) (hn : n ≤ 400) (t : Nat) (ht : 1 ≤ t ∧ t ≤ 50) : ∀ d k : Nat, k + d = n / t → Ev (fun j => impl_CountWindows.l0 j (wv n f) (t : Int) (upl f n) (cwl f t k) ((k * t : Nat) : Int)) (cwl f t (n / t), true)
  | 0, k, hk => by
    have hm : n < (k + 1) * t := (Nat.div_lt_iff_lt_mul (by omega)).1 (by omega)
    have hm2 : (k + 1) * t = k * t + t := by rw [Nat.add_mul, Nat.one_mul]
    have hm3 : k * t ≤ n := (Nat.le_div_iff_mul_le (by omega)).1 (by omega)
    obtain rfl : k = n / t := by omega
    refine Ev.step (f := fun _ => some (cwl f t (n / t), true)) (fun j => ?_) (Ev.now _)
    simp only [impl_CountWindows.l0]
    rw [wv_size]
    generalize n / t * t = q at *
    rw [w64' (by omega) (by omega), if_neg (by omega)]
  | d + 1, k, hk => by
    have hm : (k + 1) * t ≤ n := (Nat.le_div_iff_mul_le (by omega)).1 (by omega)
    have hm2 : (k + 1) * t = k * t + t := by rw [Nat.add_mul, Nat.one_mul]
    have hk4 : k < n / t := by omega
    have hk5 : n / t ≤ n := Nat.div_le_self _ _
    have ih := ev_windows n f hn t ht d (k + 1) (by omega)
    have hu := upsIn_wv n f hn (k * t) ((k + 1) * t) (by omega) hm
    have hl := cwl_length f t k
    rw [cwl_succ] at ih
    have hw : wrap64 (((k * t : Nat) : Int) + (t : Int)) = (((k + 1) * t : Nat) : Int) := by
      rw [hm2] at hm ⊢
      generalize k * t = q at *
      rw [w64' (by omega) (by omega)]; omega
    refine Ev.step (f := fun j => (impl_upsIn.f j (upl f n) ((k * t : Nat) : Int) (((k + 1) * t : Nat) : Int)).bind fun c => impl_CountWindows.l0 j (wv n f) (t : Int) (upl f n) (cwl f t k ++ [c]) (((k + 1) * t : Nat) : Int)) (fun j => ?_) (Ev.bind hu ih)
    simp only [impl_CountWindows.l0]
    rw [hw, wv_size, if_pos (by omega), hl]
    simp only [if_pos (show k < 17592186044416 by omega)]
theorem windows_wv (n : Nat) (f : Nat → Bool) (hn : n ≤ 400) (t : Nat) (ht : 1 ≤ t ∧ t ≤ 50) : Ev (fun k => impl_CountWindows.f k (wv n f) (t : Int)) (cwl f t (n / t), true) := by
  unfold impl_CountWindows.f
  simp only [filter_wv n f hn t (by omega), Option.bind_some, if_true]
  refine Ev.bind (changes_wv n f hn) ?_
  have h := ev_windows n f hn t ht (n / t) 0 (by omega)
  rw [Nat.zero_mul] at h
  exact h
def wlo (f : Nat → Bool) (t : Nat) : Nat → Int
  | 0 => t
  | k + 1 => mn (wlo f t k) (cu f (k + t) - cu f k)
def whi (f : Nat → Bool) (t : Nat) : Nat → Int
  | 0 => 0
  | k + 1 => mx (whi f t k) (cu f (k + t) - cu f k)
theorem wlo_le (f : Nat → Bool) (t : Nat) : ∀ k a, a < k → wlo f t k ≤ cu f (a + t) - cu f a ∧ cu f (a + t) - cu f a ≤ whi f t k
  | 0, a, h => by omega
  | k + 1, a, h => by
    have m := mn_is (wlo f t k) (cu f (k + t) - cu f k)
    have m2 := mx_is (whi f t k) (cu f (k + t) - cu f k)
    show mn (wlo f t k) (cu f (k + t) - cu f k) ≤ _ ∧ _ ≤ mx (whi f t k) (cu f (k + t) - cu f k)
    by_cases c : a = k
    · subst c; omega
    · have := wlo_le f t k a (by omega); omega
theorem ev_range (n : Nat) (f : Nat → Bool) (hn : n ≤ 400) (t : Nat) (ht : 1 ≤ t ∧ t ≤ 50) (hnt : t ≤ n) : ∀ d k : Nat, k + d = n - t + 1 → Ev (fun j => impl_WindowRange.l0 j (wv n f) (t : Int) (upl f n) (wlo f t k) (whi f t k) (k : Int)) (wlo f t (n - t + 1), whi f t (n - t + 1), true)
  | 0, k, hk => by
    obtain rfl : k = n - t + 1 := by omega
    refine Ev.step (f := fun _ => some (wlo f t (n - t + 1), whi f t (n - t + 1), true)) (fun j => ?_) (Ev.now _)
    simp only [impl_WindowRange.l0]
    rw [wv_size, w64' (by omega) (by omega), if_neg (by omega)]
  | d + 1, k, hk => by
    have ih := ev_range n f hn t ht hnt d (k + 1) (by omega)
    have hu := upsIn_wv n f hn k (k + t) (by omega) (by omega)
    have hw : wrap64 ((k : Int) + (t : Int)) = ((k + t : Nat) : Int) := by rw [w64' (by omega) (by omega)]; omega
    have hw2 : wrap64 ((k : Int) + 1) = ((k + 1 : Nat) : Int) := by clear hw; rw [w64' (by omega) (by omega)]; omega
    refine Ev.step (f := fun j => (impl_upsIn.f j (upl f n) (k : Int) ((k + t : Nat) : Int)).bind fun c => impl_WindowRange.l0 j (wv n f) (t : Int) (upl f n) (mn (wlo f t k) c) (mx (whi f t k) c) ((k + 1 : Nat) : Int)) (fun j => ?_) (Ev.bind hu ih)
    simp only [impl_WindowRange.l0]
    rw [hw, wv_size, if_pos (by omega), hw2]
theorem range_wv (n : Nat) (f : Nat → Bool) (hn : n ≤ 400) (t : Nat) (ht : 1 ≤ t ∧ t ≤ 50) : Ev (fun k => impl_WindowRange.f k (wv n f) (t : Int)) (if t ≤ n then (wlo f t (n - t + 1), whi f t (n - t + 1), true) else (0, 0, false)) := by
  unfold impl_WindowRange.f
  simp only [filter_wv n f hn t (by omega), Option.bind_some, if_true]
  rw [wv_size]
  by_cases c : t ≤ n
  · rw [if_pos c, decide_eq_false (by omega)]
    refine Ev.step (f := fun k => (impl_changesTo.f k (wv n f) 49).bind fun l => impl_WindowRange.l0 k (wv n f) (t : Int) l (t : Int) 0 0) (fun k => ?_) (Ev.bind (changes_wv n f hn) (ev_range n f hn t ht c (n - t + 1) 0 (by omega)))
    simp only [impl_WindowRange.j0]
    rw [if_neg (by decide)]
  · rw [if_neg c, decide_eq_true (by omega)]
    refine Ev.step (f := fun _ => some (0, 0, false)) (fun k => ?_) (Ev.now _)
    simp only [impl_WindowRange.j0, if_true]
end Go.Proofs.YtbemhcdklmcbcaaDoor.Pure
/- The reference's numbers of two words: products, order, what is small. Conditions: numbers of 63 bits. -/
namespace Go.Proofs.YtbemhcdklmcbcaaDoor.A
set_option linter.unusedVariables false
set_option linter.unusedSimpArgs false
open Go.RowKit Go.Proofs.YtbemhcdklmcbcaaDoorW.PrintWords Go.Proofs.YtbemhcdklmcbcaaDoorW.PrintLast Go.Proofs.YtbemhcdklmcbcaaDoorW.PrintMore
/-- The number of two words. -/
def wide (r : Int × Int) : Int := r.1 * 18446744073709551616 + r.2
def IsWide (r : Int × Int) : Prop := 0 ≤ r.1 ∧ r.1 < 18446744073709551616 ∧ 0 ≤ r.2 ∧ r.2 < 18446744073709551616
theorem times_words (x1 x0 y1 y0 : Int) (a0 : 0 ≤ x1) (a1 : x1 < 2147483648) (b0 : 0 ≤ x0) (b1 : x0 < 4294967296) (c0 : 0 ≤ y1) (c1 : y1 < 2147483648) (d0 : 0 ≤ y0) (d1 : y0 < 4294967296) : ∀ p q r s M : Int, x1 * y1 = p → x1 * y0 = q → x0 * y1 = r → x0 * y0 = s → s / 4294967296 + q % 4294967296 + r % 4294967296 = M →
    (0 ≤ p ∧ p ≤ 2147483647 * 2147483647) ∧ (0 ≤ q ∧ q ≤ 2147483647 * 4294967295) ∧ (0 ≤ r ∧ r ≤ 4294967295 * 2147483647) ∧ (0 ≤ s ∧ s ≤ 4294967295 * 4294967295) ∧ 0 ≤ M ∧ M < 12884901888 ∧ (p + q / 4294967296 + r / 4294967296 + M / 4294967296) * 18446744073709551616 + (M % 4294967296 * 4294967296 + s % 4294967296) = (x1 * 4294967296 + x0) * (y1 * 4294967296 + y0) := by
  intro p q r s M hp hq hr hs hM
  have p0 : 0 ≤ p := by rw [← hp]; exact Int.mul_nonneg a0 c0
  have p1 : p ≤ 2147483647 * 2147483647 := by rw [← hp]; exact Int.mul_le_mul (by omega) (by omega) c0 (by omega)
  have q0 : 0 ≤ q := by rw [← hq]; exact Int.mul_nonneg a0 d0
  have q1 : q ≤ 2147483647 * 4294967295 := by rw [← hq]; exact Int.mul_le_mul (by omega) (by omega) d0 (by omega)
  have r0 : 0 ≤ r := by rw [← hr]; exact Int.mul_nonneg b0 c0
  have r1 : r ≤ 4294967295 * 2147483647 := by rw [← hr]; exact Int.mul_le_mul (by omega) (by omega) c0 (by omega)
  have s0 : 0 ≤ s := by rw [← hs]; exact Int.mul_nonneg b0 d0
  have s1 : s ≤ 4294967295 * 4294967295 := by rw [← hs]; exact Int.mul_le_mul (by omega) (by omega) d0 (by omega)
  have e : (x1 * 4294967296 + x0) * (y1 * 4294967296 + y0) = p * 18446744073709551616 + (q + r) * 4294967296 + s := by rw [← hp, ← hq, ← hr, ← hs]; grind
  refine ⟨⟨p0, p1⟩, ⟨q0, q1⟩, ⟨r0, r1⟩, ⟨s0, s1⟩, by omega, by omega, ?_⟩
  rw [e]
  omega
theorem times_eq (a b : Int) (a0 : 0 ≤ a) (a1 : a < 9223372036854775808) (b0 : 0 ≤ b) (b1 : b < 9223372036854775808) : ∃ r, spec_l01Times.f a b = some r ∧ IsWide r ∧ wide r = a * b := by
  obtain ⟨x1, hx1⟩ : ∃ x1, a / 4294967296 = x1 := ⟨_, rfl⟩
  obtain ⟨x0, hx0⟩ : ∃ x0, a % 4294967296 = x0 := ⟨_, rfl⟩
  obtain ⟨y1, hy1⟩ : ∃ y1, b / 4294967296 = y1 := ⟨_, rfl⟩
  obtain ⟨y0, hy0⟩ : ∃ y0, b % 4294967296 = y0 := ⟨_, rfl⟩
  have ea : x1 * 4294967296 + x0 = a := by omega
  have eb : y1 * 4294967296 + y0 = b := by omega
  have i1 : 0 ≤ x1 ∧ x1 < 2147483648 := by omega
  have i2 : 0 ≤ x0 ∧ x0 < 4294967296 := by omega
  have i3 : 0 ≤ y1 ∧ y1 < 2147483648 := by omega
  have i4 : 0 ≤ y0 ∧ y0 < 4294967296 := by omega
  obtain ⟨p, hp⟩ : ∃ p, x1 * y1 = p := ⟨_, rfl⟩
  obtain ⟨q, hq⟩ : ∃ q, x1 * y0 = q := ⟨_, rfl⟩
  obtain ⟨r, hr⟩ : ∃ r, x0 * y1 = r := ⟨_, rfl⟩
  obtain ⟨s, hs⟩ : ∃ s, x0 * y0 = s := ⟨_, rfl⟩
  obtain ⟨M, hM⟩ : ∃ M, s / 4294967296 + q % 4294967296 + r % 4294967296 = M := ⟨_, rfl⟩
  obtain ⟨⟨p0, p1⟩, ⟨q0, q1⟩, ⟨r0, r1⟩, ⟨s0, s1⟩, M0, M1, hv⟩ := times_words x1 x0 y1 y0 i1.1 i1.2 i2.1 i2.2 i3.1 i3.2 i4.1 i4.2 p q r s M hp hq hr hs hM
  rw [ea, eb] at hv
  have ta : Int.tdiv a 4294967296 = x1 := by rw [Int.tdiv_eq_ediv_of_nonneg a0]; exact hx1
  have tb : Int.tdiv b 4294967296 = y1 := by rw [Int.tdiv_eq_ediv_of_nonneg b0]; exact hy1
  have ma : Int.tmod a 4294967296 = x0 := by rw [Int.tmod_eq_emod_of_nonneg a0]; exact hx0
  have mb : Int.tmod b 4294967296 = y0 := by rw [Int.tmod_eq_emod_of_nonneg b0]; exact hy0
  have tq : Int.tdiv q 4294967296 = q / 4294967296 := Int.tdiv_eq_ediv_of_nonneg q0
  have tr : Int.tdiv r 4294967296 = r / 4294967296 := Int.tdiv_eq_ediv_of_nonneg r0
  have ts : Int.tdiv s 4294967296 = s / 4294967296 := Int.tdiv_eq_ediv_of_nonneg s0
  have tM : Int.tdiv M 4294967296 = M / 4294967296 := Int.tdiv_eq_ediv_of_nonneg M0
  have mq : Int.tmod q 4294967296 = q % 4294967296 := Int.tmod_eq_emod_of_nonneg q0
  have mr : Int.tmod r 4294967296 = r % 4294967296 := Int.tmod_eq_emod_of_nonneg r0
  have ms : Int.tmod s 4294967296 = s % 4294967296 := Int.tmod_eq_emod_of_nonneg s0
  have mm : M * 4294967296 % 18446744073709551616 = M % 4294967296 * 4294967296 := by omega
  refine ⟨(p + q / 4294967296 + r / 4294967296 + M / 4294967296, M % 4294967296 * 4294967296 + s % 4294967296), ?_, ⟨by show 0 ≤ p + q / 4294967296 + r / 4294967296 + M / 4294967296; omega, by show p + q / 4294967296 + r / 4294967296 + M / 4294967296 < _; omega, by show 0 ≤ M % 4294967296 * 4294967296 + s % 4294967296; omega, by show M % 4294967296 * 4294967296 + s % 4294967296 < _; omega⟩, hv⟩
  unfold spec_l01Times.f
  rw [u64_small a0 (by omega), u64_small b0 (by omega), ta, tb, ma, mb, u64_small i1.1 (by omega), u64_small i3.1 (by omega), hp, hq, hr, hs, u64_small p0 (by omega), u64_small q0 (by omega), u64_small r0 (by omega), u64_small s0 (by omega), tq, tr, ts, mq, mr, ms,
    u64_small (x := q / 4294967296) (by omega) (by omega), u64_small (x := r / 4294967296) (by omega) (by omega), u64_small (x := s / 4294967296) (by omega) (by omega), u64_small (x := s / 4294967296 + q % 4294967296) (by omega) (by omega), u64_small (x := s / 4294967296 + q % 4294967296 + r % 4294967296) (by omega) (by omega), hM, tM,
    u64_small (x := M / 4294967296) (by omega) (by omega), u64_small (x := p + q / 4294967296) (by omega) (by omega), u64_small (x := p + q / 4294967296 + r / 4294967296) (by omega) (by omega), u64_small (x := p + q / 4294967296 + r / 4294967296 + M / 4294967296) (by omega) (by omega), wu64, mm, or32 (M % 4294967296) (s % 4294967296) (by omega) (by omega) (by omega) (by omega)]
theorem less_eq {x y : Int × Int} (hx : IsWide x) (hy : IsWide y) : spec_l01Less.f x.1 x.2 y.1 y.2 = some (decide (wide x < wide y)) := by
  obtain ⟨x1, x2⟩ := x
  obtain ⟨y1, y2⟩ := y
  unfold IsWide at hx hy
  unfold spec_l01Less.f wide
  simp only at *
  by_cases h : x1 < y1
  · rw [if_pos h, decide_eq_true (by omega)]
  · rw [if_neg h]
    by_cases h2 : x1 = y1
    · rw [if_pos h2]
      by_cases h3 : x2 < y2
      · rw [decide_eq_true h3, decide_eq_true (by omega)]
      · rw [decide_eq_false h3, decide_eq_false (by omega)]
    · rw [if_neg h2, decide_eq_false (by omega)]
end Go.Proofs.YtbemhcdklmcbcaaDoor.A
/- The reference's valid fractions, their order. Conditions: valid fractions. -/
namespace Go.Proofs.YtbemhcdklmcbcaaDoor.A
set_option linter.unusedVariables false
set_option linter.unusedSimpArgs false
open Go.RowKit Go.Proofs.YtbemhcdklmcbcaaDoorW.PrintWords Go.Proofs.YtbemhcdklmcbcaaDoorW.PrintLast Go.Proofs.YtbemhcdklmcbcaaDoorW.PrintMore
theorem specFIs (n d : Int) : ∃ m, ∀ K, spec_l01FIs.f (K + m) n d = some (okF n d) := by
  by_cases h1 : 1 ≤ d ∧ d ≤ 1000000000000000000
  · by_cases h2 : -1000000000000000000 ≤ n ∧ n ≤ 1000000000000000000
    · refine ⟨d.natAbs + 1, fun K => ?_⟩
      have hg := specGcd_loop d.natAbs n.natAbs d.natAbs (Nat.le_refl _) K
      have ed : (d.natAbs : Int) = d := by omega
      rw [ed] at hg
      unfold spec_l01FIs.f spec_l01Gcd.f
      rw [in_is, in_is, decide_eq_true h1, decide_eq_true h2]
      simp only [Option.bind_some, if_pos]
      rw [specMax n (by omega), Option.bind_some, hg, Option.bind_some]
      congr 1
      unfold okF
      by_cases h3 : Nat.gcd n.natAbs d.natAbs = 1
      · rw [decide_eq_true (show _ ∧ _ ∧ _ from ⟨h1, h2, h3⟩), h3]; rfl
      · rw [decide_eq_false (fun h => h3 h.2.2), beq_eq_false_iff_ne]; omega
    · refine ⟨0, fun K => ?_⟩
      unfold spec_l01FIs.f okF
      rw [in_is, in_is, decide_eq_true h1, decide_eq_false h2, decide_eq_false (fun h => h2 h.2.1)]
      rfl
  · refine ⟨0, fun K => ?_⟩
    unfold spec_l01FIs.f okF
    rw [in_is, decide_eq_false h1, decide_eq_false (fun h => h1 h.1)]
    rfl
theorem part_abs {n : Int} (h : Part n) : (n.natAbs : Int) < 9223372036854775808 ∧ n.natAbs ≤ 9223372036854775807 := by unfold Part at h; omega
end Go.Proofs.YtbemhcdklmcbcaaDoor.A
/- The reference's valid fractions, their order. Conditions: valid fractions that are not less than 0. -/
namespace Go.Proofs.YtbemhcdklmcbcaaDoor.A
set_option linter.unusedVariables false
set_option linter.unusedSimpArgs false
open Go.RowKit Go.Proofs.YtbemhcdklmcbcaaDoorW.PrintWords Go.Proofs.YtbemhcdklmcbcaaDoorW.PrintLast Go.Proofs.YtbemhcdklmcbcaaDoorW.PrintMore
/-- The order of two fractions, as the reference tells it. -/
theorem specFCmpN (n d n' d' : Int) (h : okF n d = true) (h' : okF n' d' = true) (hn : 0 ≤ n) (hn' : 0 ≤ n') (hlt : n * d' - n' * d < 0) : ∀ K, spec_l01FCmp.f (K + 1) n d n' d' = some (sign (n * d' - n' * d)) := by
  intro K
  obtain ⟨pn, pd, d1⟩ := okF_parts h
  obtain ⟨pn', pd', d1'⟩ := okF_parts h'
  have an := part_abs pn
  have an' := part_abs pn'
  have b1 : d < 9223372036854775808 := by unfold Part at pd; omega
  have b1' : d' < 9223372036854775808 := by unfold Part at pd'; omega
  unfold spec_l01FCmp.f
  have s : ¬ n < 0 := by omega
  have s' : ¬ n' < 0 := by omega
  have c : ¬ (decide (n < 0) != decide (n' < 0)) = true := by rw [decide_eq_false s, decide_eq_false s']; decide
  · rw [if_neg c, specMax n an.2, specMax n' an'.2]
    simp only [Option.bind_some]
    obtain ⟨x, hx, wx, vx⟩ := times_eq (n.natAbs : Int) d' (by omega) an.1 (by omega) b1'
    obtain ⟨y, hy, wy, vy⟩ := times_eq (n'.natAbs : Int) d (by omega) an'.1 (by omega) b1
    rw [hx, hy]
    simp only [Option.bind_some]
    rw [less_eq wx wy]
    simp only [Option.bind_some]
    have e1 : n * d' = wide x := by rw [vx]; congr 1; omega
    have e2 : n' * d = wide y := by rw [vy]; congr 1; omega
    rw [e1, e2] at hlt ⊢
    have l2 : wide x < wide y := by omega
    rw [decide_eq_true l2, if_pos rfl]
    simp only [spec_l01FCmp.j0]
    rw [less_eq wy wx]
    simp only [Option.bind_some]
    rw [decide_eq_false (show ¬ wide y < wide x by omega), if_neg (by decide), if_neg s]
    unfold sign; rw [if_pos (by omega)]
end Go.Proofs.YtbemhcdklmcbcaaDoor.A
