-- Printed by this session's oprint.py through the kit's printer.
import Derived.Test.YtmadpelampanfaaA0
import Derived.Test.YtmadpelampanfaaA17
import Derived.Test.YtmadpelampanfaaA23
import Derived.Test.YtmadpelampanfaaA24
import Derived.Test.YtmadpelampanfaaA25
import Derived.Test.YtmadpelampanfaaA43
import Derived.Test.YtmadpelampanfaaRats8
namespace Go.Proofs.Ytmadpelampanfaa.A
open Go.RowKit Go.Proofs.YtmadpelampanfaaW.PrintWords Go.Proofs.YtmadpelampanfaaW.PrintLast Go.Proofs.YtmadpelampanfaaW.PrintMore
attribute [local go_sem] max2_int min2_int max_two min_two max_three min_three max_four min_four   -- for this text's walks alone
set_option linter.unusedVariables false
set_option linter.unusedSimpArgs false

/-! ### impl_AccumulateWave: function 11 -/
-- given: proved by hand (accumulate.tpl)
/-- The phase ahead of tick i. -/
def accP (s m p : Int) : Nat → Int
  | 0 => p
  | i + 1 => (accP s m p i + s) % m
/-- The level of an accumulator's wave at tick i. -/
def impl_AccumulateWave.lev (s m p : Int) (i : Nat) : Bool := decide (m ≤ accP s m p i + s)
def impl_AccumulateWave.f (s m p t : Int) : Option (ByteArray × Bool) :=
  if (1 ≤ m ∧ m ≤ 1000) ∧ (1 ≤ s ∧ s ≤ m) then (if 0 ≤ p ∧ p ≤ m - 1 then (if 0 ≤ t ∧ t ≤ 400 then some (impl_waveOf.text t.toNat (impl_AccumulateWave.lev s m p), true) else some (⟨#[]⟩, false)) else some (⟨#[]⟩, false)) else some (⟨#[]⟩, false)
theorem accP_bound {s m p : Int} (hm : 1 ≤ m) (h0 : 0 ≤ p) (h1 : p ≤ m - 1) : ∀ i, 0 ≤ accP s m p i ∧ accP s m p i ≤ m - 1
  | 0 => ⟨h0, h1⟩
  | i + 1 => by
    have := Int.emod_nonneg (accP s m p i + s) (show m ≠ 0 by omega)
    have := Int.emod_lt_of_pos (accP s m p i + s) (show 0 < m by omega)
    show 0 ≤ (accP s m p i + s) % m ∧ (accP s m p i + s) % m ≤ m - 1
    omega
theorem impl_AccumulateWave.step_eq (s m : Int) : impl_isStep.f s m = some (decide ((1 ≤ m ∧ m ≤ 1000) ∧ (1 ≤ s ∧ s ≤ m))) := by
  unfold impl_isStep.f
  rw [within_is, within_is]; simp only [Option.bind_some]
  by_cases h : 1 ≤ m ∧ m ≤ 1000 <;> by_cases k : 1 ≤ s ∧ s ≤ m <;> simp [h, k]
theorem impl_AccumulateWave.ticks_eq (t : Int) : impl_isTicks.f t = some (decide (0 ≤ t ∧ t ≤ 400)) := by
  unfold impl_isTicks.f; rw [within_is]; rfl
def box1F (x : Int) : Obj := .cells #[.int .i64 x] 2 (0, 0)
/-- What the captured variables hold. -/
def impl_AccumulateWave.Inv (gp gs gm : Nat) (s m p : Int) (i : Nat) (W : World) : Prop := W.heap[gp]? = some (box1F (accP s m p i)) ∧ W.heap[gs]? = some (box1F s) ∧ W.heap[gm]? = some (box1F m)
theorem blk_of_drawn {w1 w2 : World} {g : Nat} {ob : Obj} (h : w1.heap[g]? = some ob) (k : Drawn0 w1 w2) : w2.heap[g]? = some ob := by obtain ⟨m, rfl⟩ := k; exact h
theorem below_drawn0 {w w1 w2 : World} (h : Below w.heap.size w w1) (k : Drawn0 w1 w2) : Below w.heap.size w w2 := by
  obtain ⟨m, rfl⟩ := k; exact pw_below_drewN h m
/-- One row stored twice. -/
theorem twice_put {W : World} {gp : Nat} {a b c : Int} (hp : W.heap[gp]? = some (box1F a)) :
    ((W.setCell ⟨gp, 0, none⟩ (.int .i64 b)).setCell ⟨gp, 0, none⟩ (.int .i64 c)).heap[gp]? = some (box1F c) ∧ W.grownBy ((W.setCell ⟨gp, 0, none⟩ (.int .i64 b)).setCell ⟨gp, 0, none⟩ (.int .i64 c)) (some gp) :=
  ⟨blk_put (cs := #[.int .i64 b]) (blk_put (cs := #[.int .i64 a]) hp 0 _ rfl) 0 _ rfl, grown_set (grown_set (World.grownBy.refl W (some gp)) 0 (.int .i64 b)) 0 (.int .i64 c)⟩
theorem acc_after {gp gs gm : Nat} {s m p x : Int} {i : Nat} {W W1 : World} {base n : Nat} (hc : W.heap[gp]? = some (box1F x)) (hh : W.heap[gs]? = some (box1F s)) (hq : W.heap[gm]? = some (box1F m)) (h1 : gp ≠ gs) (h2 : gp ≠ gm) (hb : base ≤ gp) (hN : accP s m p (i + 1) = (x + s) % m)
    (e : W1 = ((W.setCell ⟨gp, 0, none⟩ (.int .i64 (x + s))).setCell ⟨gp, 0, none⟩ (.int .i64 ((x + s) % m))).drewN n) :
    impl_AccumulateWave.Inv gp gs gm s m p (i + 1) W1 ∧ Below base W W1 ∧ ∀ k, k < W.heap.size → k ≠ gp → W1.heap[k]? = W.heap[k]? := by
  subst e
  obtain ⟨t1, t2⟩ := twice_put (b := x + s) (c := (x + s) % m) hc
  refine ⟨⟨by rw [hN]; exact t1, ?_, ?_⟩, pw_below_drewN (pw_below_grown (Below.refl base W) (some gp) (Nat.le_trans hb (Nat.le_of_lt (blk_lt hc))) t2 (fun k hk => by injection hk with hk; omega)) n, ?_⟩
  · exact (show _ from blk_grown (row := some gp) (w1 := (W.setCell ⟨gp, 0, none⟩ (.int .i64 (x + s))).setCell ⟨gp, 0, none⟩ (.int .i64 ((x + s) % m))) hh t2 (by simpa using Ne.symm h1))
  · exact (show _ from blk_grown (row := some gp) (w1 := (W.setCell ⟨gp, 0, none⟩ (.int .i64 (x + s))).setCell ⟨gp, 0, none⟩ (.int .i64 ((x + s) % m))) hq t2 (by simpa using Ne.symm h2))
  · intro k hk hne
    exact t2.block k hk (by simpa using hne)
set_option maxHeartbeats 1600000 in
set_option maxRecDepth 100000 in
theorem impl_AccumulateWave.level (gp gs gm : Nat) (s m p : Int) (i : Nat) (W : World) (base : Nat) (hI : impl_AccumulateWave.Inv gp gs gm s m p i W) (hm : 1 ≤ m) (hm' : m ≤ 1000) (hs : 1 ≤ s) (hs' : s ≤ m) (hp : 0 ≤ p) (hp' : p ≤ m - 1) (hne : gp ≠ gs) (hne2 : gp ≠ gm) (hb : base ≤ gp) :
    Calls Try.prog 26 #[.int .i64 (i : Int), .pointer (some ⟨gp, 0, none⟩), .pointer (some ⟨gs, 0, none⟩), .pointer (some ⟨gm, 0, none⟩)] W fun e W' => e = .returned (.bool (impl_AccumulateWave.lev s m p i)) ∧ impl_AccumulateWave.Inv gp gs gm s m p (i + 1) W' ∧ Below base W W' ∧ ∀ k, k < W.heap.size → k ≠ gp → W'.heap[k]? = W.heap[k]? := by
  obtain ⟨hc, hh, hq⟩ := hI
  obtain ⟨a0, a1⟩ := accP_bound (s := s) hm hp hp' i
  have HF := Aside0.mk (show impl_AccumulateWave.lev s m p i = decide (m ≤ accP s m p i + s) from rfl)
  have HN := Aside0.mk (show accP s m p (i + 1) = (accP s m p i + s) % m from rfl)
  obtain ⟨x, hx⟩ : ∃ x, accP s m p i = x := ⟨_, rfl⟩
  rw [hx] at a0 a1 HF HN hc
  have HC := Aside0.mk hc; have HH := Aside0.mk hh; have HQ := Aside0.mk hq
  have HNE := Aside0.mk hne; have HNE2 := Aside0.mk hne2; have HB := Aside0.mk hb
  have hc0 : W.cell? ⟨gp, 0, none⟩ = some (.int .i64 x) := (blk_cell hc 0).trans rfl
  have hf0 := blk_frozen hc 0
  have hh0 : W.cell? ⟨gs, 0, none⟩ = some (.int .i64 s) := (blk_cell hh 0).trans rfl
  have hq0 : W.cell? ⟨gm, 0, none⟩ = some (.int .i64 m) := (blk_cell hq 0).trans rfl
  have hw : IntKind.i64.wrap (x + s) = x + s := by simp only [IntKind.wrap_i64]; omega
  have hp0 : ¬ m = 0 := by omega
  have hp0' : (m == 0) = false := beq_eq_false_iff_ne.2 hp0
  have ht : Int.tmod (x + s) m = (x + s) % m := Int.tmod_eq_emod_of_nonneg (by omega)
  have hq1 : (W.setCell ⟨gp, 0, none⟩ (.int .i64 (x + s))).cell? ⟨gm, 0, none⟩ = some (.int .i64 m) := (blk_cell (blk_put_ne hq (Ne.symm hne2)) 0).trans rfl
  clear hc hh hq hx hne hne2 hb a0 a1 hp hp' hm hm' hs hs'
  go_enter Try.func26, Try.ntmps26
  go_wp2
  go_ret
  exact ⟨by rw [HF.out]; rfl, acc_after HC.out HH.out HQ.out HNE.out HNE2.out HB.out HN.out (n := 0) rfl⟩
set_option maxHeartbeats 1600000 in
set_option maxRecDepth 100000 in
theorem impl_AccumulateWave.calls (s : Int) (m : Int) (p : Int) (t : Int) (r1 : ByteArray) (r2 : Bool) (w : World) (h : impl_AccumulateWave.f s m p t = some (r1, r2)) :
    Calls Try.prog 11 #[.int .i64 s, .int .i64 m, .int .i64 p, .int .i64 t] w fun e w' => e = .returned (.tuple #[.string r1, .bool r2]) ∧ Below w.heap.size w w' := by
  have HV := Aside0.mk (impl_AccumulateWave.step_eq s m)
  have HW := Aside0.mk (within_is p 0 (m - 1))
  have HT := Aside0.mk (impl_AccumulateWave.ticks_eq t)
  by_cases c1 : (1 ≤ m ∧ m ≤ 1000) ∧ (1 ≤ s ∧ s ≤ m)
  · have HV1 := Aside0.mk (HV.out.trans (by rw [decide_eq_true c1] : some (decide _) = some true))
    have hw1 : IntKind.i64.wrap (m - 1) = m - 1 := by simp only [IntKind.wrap_i64]; omega
    by_cases c2 : 0 ≤ p ∧ p ≤ m - 1
    · have HW1 := Aside0.mk (HW.out.trans (by rw [decide_eq_true c2] : some (decide _) = some true))
      by_cases c3 : 0 ≤ t ∧ t ≤ 400
      · have HT1 := Aside0.mk (HT.out.trans (by rw [decide_eq_true c3] : some (decide _) = some true))
        unfold impl_AccumulateWave.f at h
        rw [if_pos c1, if_pos c2, if_pos c3] at h
        simp only [Option.some.injEq, Prod.mk.injEq] at h
        obtain ⟨rfl, rfl⟩ := h
        obtain ⟨n, rfl⟩ := Int.eq_ofNat_of_zero_le c3.1
        rw [Int.toNat_natCast]
        have C := Aside0.mk (And.intro c1 (And.intro c2 c3))
        clear HV HW HT c1 c2 c3
        go_enter Try.func11, Try.ntmps11
        go_wp2_with (first
          | ((with_reducible refine gate_dst (N := 4) rfl ?_); refine box_event ?hg (N := 4) ?hd (cs := #[.int .i64 s]) (t := 2) ?hr ?_; (case hd => rfl); (case hg => rfl); (case hr => first | (go_simp; done) | (go_simp; rfl)); intro gs hgs w1 hbox hb; have S1 := Aside0.mk hbox; have HB := Aside0.mk hb; clear hbox hb hgs)
          | ((with_reducible refine gate_dst (N := 5) rfl ?_); refine box_event ?hg (N := 5) ?hd (cs := #[.int .i64 m]) (t := 2) ?hr ?_; (case hd => rfl); (case hg => rfl); (case hr => first | (go_simp; done) | (go_simp; rfl)); intro gm hgm w2 hbox hb; have M2 := Aside0.mk hbox; have S2 := Aside0.mk (blk_below S1.out hb); have HB2 := Aside0.mk (below_step HB.out hb); clear hbox hb hgm S1 HB)
          | ((with_reducible refine gate_dst (N := 6) rfl ?_); refine box_event ?hg (N := 6) ?hd (cs := #[.int .i64 p]) (t := 2) ?hr ?_; (case hd => rfl); (case hg => rfl); (case hr => first | (go_simp; done) | (go_simp; rfl)); intro gp hgp w3 hbox hb; have NE1 := Aside0.mk (show gp ≠ gs from fun z => absurd (blk_lt S2.out) (by omega)); have NE2 := Aside0.mk (show gp ≠ gm from fun z => absurd (blk_lt M2.out) (by omega)); have LE := Aside0.mk (show w.heap.size ≤ gp by have := HB2.out.size; omega); have P3 := Aside0.mk hbox; have M3 := Aside0.mk (blk_below M2.out hb); have S3 := Aside0.mk (blk_below S2.out hb); have HB3 := Aside0.mk (below_step HB2.out hb); clear hbox hb hgp; have x0 := (blk_cell S3.out 0).trans rfl; have x1 := (blk_cell M3.out 0).trans rfl; have x2 := (blk_cell P3.out 0).trans rfl)
          | (go_at_call 23; refine (impl_isStep.calls s m true _ HV1.out).mono ?_; rintro e w4 ⟨rfl, hd⟩; clear x0 x1 x2; have P4 := Aside0.mk (blk_of_drawn P3.out hd); have M4 := Aside0.mk (blk_of_drawn M3.out hd); have S4 := Aside0.mk (blk_of_drawn S3.out hd); have HB4 := Aside0.mk (below_drawn0 HB3.out hd); clear hd HB3; have x0 := (blk_cell S4.out 0).trans rfl; have x1 := (blk_cell M4.out 0).trans rfl; have x2 := (blk_cell P4.out 0).trans rfl)
          | (go_at_call 17; refine (impl_within.calls p 0 (m - 1) true _ HW1.out).mono ?_; rintro e w5 ⟨rfl, hd⟩; clear x0 x1 x2; have P5 := Aside0.mk (blk_of_drawn P4.out hd); have M5 := Aside0.mk (blk_of_drawn M4.out hd); have S5 := Aside0.mk (blk_of_drawn S4.out hd); have HB5 := Aside0.mk (below_drawn0 HB4.out hd); clear hd HB4)
          | (go_at_call 24; refine (impl_isTicks.calls (n : Int) true _ HT1.out).mono ?_; rintro e w6 ⟨rfl, hd⟩; have P6 := Aside0.mk (blk_of_drawn P5.out hd); have M6 := Aside0.mk (blk_of_drawn M5.out hd); have S6 := Aside0.mk (blk_of_drawn S5.out hd); have HB6 := Aside0.mk (below_drawn0 HB5.out hd); clear hd HB5)
          | (go_at_call 25; refine (impl_waveOf.calls 26 #[.pointer (some ⟨gp, 0, none⟩), .pointer (some ⟨gs, 0, none⟩), .pointer (some ⟨gm, 0, none⟩)] (enters_of Try.func26 (by kernel_rfl) rfl) n (by have := C.out; omega) (impl_AccumulateWave.lev s m p) (fun i W => impl_AccumulateWave.Inv gp gs gm s m p i W) w.heap.size w6 (HB6.out.size) (fun _ W W' hk hI => ⟨(hk gp (blk_lt P6.out)).trans hI.1, (hk gs (blk_lt S6.out)).trans hI.2.1, (hk gm (blk_lt M6.out)).trans hI.2.2⟩) (fun i W hi hH hI => (impl_AccumulateWave.level gp gs gm s m p i W w.heap.size hI (by have := C.out; omega) (by have := C.out; omega) (by have := C.out; omega) (by have := C.out; omega) (by have := C.out; omega) (by have := C.out; omega) NE1.out NE2.out LE.out).mono fun e W' ⟨he, hI', hb', hf'⟩ => ⟨he, hI', hb', fun k h1 h2 => hf' k h2 (by have := blk_lt P6.out; omega)⟩) ⟨P6.out, S6.out, M6.out⟩).mono ?_; rintro e w7 ⟨rfl, _, hb⟩; have HB7 := Aside0.mk (HB6.out.trans hb); clear hb))
        go_ret2
        exact ⟨rfl, HB7.out⟩
      · have HT1 := Aside0.mk (HT.out.trans (by rw [decide_eq_false c3] : some (decide _) = some false))
        unfold impl_AccumulateWave.f at h
        rw [if_pos c1, if_pos c2, if_neg c3] at h
        simp only [Option.some.injEq, Prod.mk.injEq] at h
        obtain ⟨rfl, rfl⟩ := h
        clear HV HW HT c1 c2 c3
        go_enter Try.func11, Try.ntmps11
        go_wp2_with (first
          | ((with_reducible refine gate_dst (N := 4) rfl ?_); refine box_event ?hg (N := 4) ?hd (cs := #[.int .i64 s]) (t := 2) ?hr ?_; (case hd => rfl); (case hg => rfl); (case hr => first | (go_simp; done) | (go_simp; rfl)); intro gs hgs w1 hbox hb; have S1 := Aside0.mk hbox; have HB := Aside0.mk hb; clear hbox hb hgs)
          | ((with_reducible refine gate_dst (N := 5) rfl ?_); refine box_event ?hg (N := 5) ?hd (cs := #[.int .i64 m]) (t := 2) ?hr ?_; (case hd => rfl); (case hg => rfl); (case hr => first | (go_simp; done) | (go_simp; rfl)); intro gm hgm w2 hbox hb; have M2 := Aside0.mk hbox; have S2 := Aside0.mk (blk_below S1.out hb); have HB2 := Aside0.mk (below_step HB.out hb); clear hbox hb hgm S1 HB)
          | ((with_reducible refine gate_dst (N := 6) rfl ?_); refine box_event ?hg (N := 6) ?hd (cs := #[.int .i64 p]) (t := 2) ?hr ?_; (case hd => rfl); (case hg => rfl); (case hr => first | (go_simp; done) | (go_simp; rfl)); intro gp hgp w3 hbox hb;  have P3 := Aside0.mk hbox; have M3 := Aside0.mk (blk_below M2.out hb); have S3 := Aside0.mk (blk_below S2.out hb); have HB3 := Aside0.mk (below_step HB2.out hb); clear hbox hb hgp; have x0 := (blk_cell S3.out 0).trans rfl; have x1 := (blk_cell M3.out 0).trans rfl; have x2 := (blk_cell P3.out 0).trans rfl)
          | (go_at_call 23; refine (impl_isStep.calls s m true _ HV1.out).mono ?_; rintro e w4 ⟨rfl, hd⟩; clear x0 x1 x2; have P4 := Aside0.mk (blk_of_drawn P3.out hd); have M4 := Aside0.mk (blk_of_drawn M3.out hd); have S4 := Aside0.mk (blk_of_drawn S3.out hd); have HB4 := Aside0.mk (below_drawn0 HB3.out hd); clear hd HB3; have x0 := (blk_cell S4.out 0).trans rfl; have x1 := (blk_cell M4.out 0).trans rfl; have x2 := (blk_cell P4.out 0).trans rfl)
          | (go_at_call 17; refine (impl_within.calls p 0 (m - 1) true _ HW1.out).mono ?_; rintro e w5 ⟨rfl, hd⟩; clear x0 x1 x2; have P5 := Aside0.mk (blk_of_drawn P4.out hd); have M5 := Aside0.mk (blk_of_drawn M4.out hd); have S5 := Aside0.mk (blk_of_drawn S4.out hd); have HB5 := Aside0.mk (below_drawn0 HB4.out hd); clear hd HB4)
          | (go_at_call 24; refine (impl_isTicks.calls t false _ HT1.out).mono ?_; rintro e w6 ⟨rfl, hd⟩; have P6 := Aside0.mk (blk_of_drawn P5.out hd); have M6 := Aside0.mk (blk_of_drawn M5.out hd); have S6 := Aside0.mk (blk_of_drawn S5.out hd); have HB6 := Aside0.mk (below_drawn0 HB5.out hd); clear hd HB5))
        go_ret2
        exact ⟨rfl, HB6.out⟩
    · have HW1 := Aside0.mk (HW.out.trans (by rw [decide_eq_false c2] : some (decide _) = some false))
      unfold impl_AccumulateWave.f at h
      rw [if_pos c1, if_neg c2] at h
      simp only [Option.some.injEq, Prod.mk.injEq] at h
      obtain ⟨rfl, rfl⟩ := h
      clear HV HW HT c1 c2
      go_enter Try.func11, Try.ntmps11
      go_wp2_with (first
        | ((with_reducible refine gate_dst (N := 4) rfl ?_); refine box_event ?hg (N := 4) ?hd (cs := #[.int .i64 s]) (t := 2) ?hr ?_; (case hd => rfl); (case hg => rfl); (case hr => first | (go_simp; done) | (go_simp; rfl)); intro gs hgs w1 hbox hb; have S1 := Aside0.mk hbox; have HB := Aside0.mk hb; clear hbox hb hgs)
        | ((with_reducible refine gate_dst (N := 5) rfl ?_); refine box_event ?hg (N := 5) ?hd (cs := #[.int .i64 m]) (t := 2) ?hr ?_; (case hd => rfl); (case hg => rfl); (case hr => first | (go_simp; done) | (go_simp; rfl)); intro gm hgm w2 hbox hb; have M2 := Aside0.mk hbox; have S2 := Aside0.mk (blk_below S1.out hb); have HB2 := Aside0.mk (below_step HB.out hb); clear hbox hb hgm S1 HB)
        | ((with_reducible refine gate_dst (N := 6) rfl ?_); refine box_event ?hg (N := 6) ?hd (cs := #[.int .i64 p]) (t := 2) ?hr ?_; (case hd => rfl); (case hg => rfl); (case hr => first | (go_simp; done) | (go_simp; rfl)); intro gp hgp w3 hbox hb;  have P3 := Aside0.mk hbox; have M3 := Aside0.mk (blk_below M2.out hb); have S3 := Aside0.mk (blk_below S2.out hb); have HB3 := Aside0.mk (below_step HB2.out hb); clear hbox hb hgp; have x0 := (blk_cell S3.out 0).trans rfl; have x1 := (blk_cell M3.out 0).trans rfl; have x2 := (blk_cell P3.out 0).trans rfl)
        | (go_at_call 23; refine (impl_isStep.calls s m true _ HV1.out).mono ?_; rintro e w4 ⟨rfl, hd⟩; clear x0 x1 x2; have P4 := Aside0.mk (blk_of_drawn P3.out hd); have M4 := Aside0.mk (blk_of_drawn M3.out hd); have S4 := Aside0.mk (blk_of_drawn S3.out hd); have HB4 := Aside0.mk (below_drawn0 HB3.out hd); clear hd HB3; have x0 := (blk_cell S4.out 0).trans rfl; have x1 := (blk_cell M4.out 0).trans rfl; have x2 := (blk_cell P4.out 0).trans rfl)
        | (go_at_call 17; refine (impl_within.calls p 0 (m - 1) false _ HW1.out).mono ?_; rintro e w5 ⟨rfl, hd⟩; clear x0 x1 x2; have P5 := Aside0.mk (blk_of_drawn P4.out hd); have M5 := Aside0.mk (blk_of_drawn M4.out hd); have S5 := Aside0.mk (blk_of_drawn S4.out hd); have HB5 := Aside0.mk (below_drawn0 HB4.out hd); clear hd HB4))
      go_ret2
      exact ⟨rfl, HB5.out⟩
  · have HV1 := Aside0.mk (HV.out.trans (by rw [decide_eq_false c1] : some (decide _) = some false))
    unfold impl_AccumulateWave.f at h
    rw [if_neg c1] at h
    simp only [Option.some.injEq, Prod.mk.injEq] at h
    obtain ⟨rfl, rfl⟩ := h
    clear HV HW HT c1
    go_enter Try.func11, Try.ntmps11
    go_wp2_with (first
      | ((with_reducible refine gate_dst (N := 4) rfl ?_); refine box_event ?hg (N := 4) ?hd (cs := #[.int .i64 s]) (t := 2) ?hr ?_; (case hd => rfl); (case hg => rfl); (case hr => first | (go_simp; done) | (go_simp; rfl)); intro gs hgs w1 hbox hb; have S1 := Aside0.mk hbox; have HB := Aside0.mk hb; clear hbox hb hgs)
      | ((with_reducible refine gate_dst (N := 5) rfl ?_); refine box_event ?hg (N := 5) ?hd (cs := #[.int .i64 m]) (t := 2) ?hr ?_; (case hd => rfl); (case hg => rfl); (case hr => first | (go_simp; done) | (go_simp; rfl)); intro gm hgm w2 hbox hb; have M2 := Aside0.mk hbox; have S2 := Aside0.mk (blk_below S1.out hb); have HB2 := Aside0.mk (below_step HB.out hb); clear hbox hb hgm S1 HB)
      | ((with_reducible refine gate_dst (N := 6) rfl ?_); refine box_event ?hg (N := 6) ?hd (cs := #[.int .i64 p]) (t := 2) ?hr ?_; (case hd => rfl); (case hg => rfl); (case hr => first | (go_simp; done) | (go_simp; rfl)); intro gp hgp w3 hbox hb;  have P3 := Aside0.mk hbox; have M3 := Aside0.mk (blk_below M2.out hb); have S3 := Aside0.mk (blk_below S2.out hb); have HB3 := Aside0.mk (below_step HB2.out hb); clear hbox hb hgp; have x0 := (blk_cell S3.out 0).trans rfl; have x1 := (blk_cell M3.out 0).trans rfl; have x2 := (blk_cell P3.out 0).trans rfl)
      | (go_at_call 23; refine (impl_isStep.calls s m false _ HV1.out).mono ?_; rintro e w4 ⟨rfl, hd⟩; clear x0 x1 x2; have P4 := Aside0.mk (blk_of_drawn P3.out hd); have M4 := Aside0.mk (blk_of_drawn M3.out hd); have S4 := Aside0.mk (blk_of_drawn S3.out hd); have HB4 := Aside0.mk (below_drawn0 HB3.out hd); clear hd HB3; have x0 := (blk_cell S4.out 0).trans rfl; have x1 := (blk_cell M4.out 0).trans rfl; have x2 := (blk_cell P4.out 0).trans rfl))
    go_ret2
    exact ⟨rfl, HB4.out⟩

end Go.Proofs.Ytmadpelampanfaa.A
