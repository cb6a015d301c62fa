-- Printed by this session's oprint.py through the kit's printer.
import Derived.Test.YtenlaanknlafdaaA0
import Derived.Test.YtenlaanknlafdaaA34
import Derived.Test.YtenlaanknlafdaaA73
import Derived.Test.YtenlaanknlafdaaRats8
namespace Go.Proofs.Ytenlaanknlafdaa.A
open Go.RowKit Go.Proofs.YtenlaanknlafdaaW.PrintWords Go.Proofs.YtenlaanknlafdaaW.PrintLast Go.Proofs.YtenlaanknlafdaaW.PrintMore
attribute [local go_sem] max2_int min2_int max_two min_two max_three min_three max_four min_four   -- for this text's walks alone
set_option linter.unusedVariables false
set_option linter.unusedSimpArgs false

/-! ### impl_SumFractions: function 42 -/
-- given: proved by hand (sumfractions.tpl)
def impl_SumFractions.ok (c : S23) : Bool := okF c.f0 c.f1
/-- A sum of two, as AddFractions tells it. -/
def addR (n d n' d' : Int) : Int × Int × Bool := if okF n d = true ∧ okF n' d' = true then mkF (n * d' + n' * d) (d * d') else (0, 0, false)
def sumF : List S23 → Int → Int → Int × Int × Bool
  | [], n, d => (n, d, true)
  | c :: l, n, d => if (addR n d c.f0 c.f1).2.2 = true then sumF l (addR n d c.f0 c.f1).1 (addR n d c.f0 c.f1).2.1 else (0, 0, false)
def impl_SumFractions.f (l0 : List S23) : Option (Int × Int × Bool) := some (if (l0.length : Int) ≤ 64 ∧ l0.all impl_SumFractions.ok = true then sumF l0 0 1 else (0, 0, false))
theorem impl_SumFractions.bad_eq (c : S23) : ∃ k, impl_SumFractions_1.f k c.f0 c.f1 = some (!impl_SumFractions.ok c) := by
  obtain ⟨m, hm⟩ := valid_is c.f0 c.f1; refine ⟨0 + m, ?_⟩
  unfold impl_SumFractions_1.f impl_SumFractions.ok
  rw [hm 0]; rfl
def impl_SumFractions.Found (l0 : List S23) (w : World) (e : Ending) (w' : World) : Prop := ∃ r : Int, e = .returned (.int .i64 r) ∧ (decide (r ≥ 0) = !(l0.all impl_SumFractions.ok)) ∧ Below w.heap.size w w'
theorem impl_SumFractions.all_take {l0 : List S23} {k : Nat} (hk : k < l0.length) (h : (l0.take k).all impl_SumFractions.ok = true) (hx : impl_SumFractions.ok (rd_T23 l0 k) = true) : (l0.take (k + 1)).all impl_SumFractions.ok = true := by
  rw [List.take_succ_eq_append_getElem hk, List.all_append, h]
  have : rd_T23 l0 k = l0[k] := by simp [rd_T23, hk]
  rw [this] at hx
  simp [hx]
theorem impl_SumFractions.all_bad {l0 : List S23} {k : Nat} (hk : k < l0.length) (hx : impl_SumFractions.ok (rd_T23 l0 k) = false) : l0.all impl_SumFractions.ok = false := by
  have : rd_T23 l0 k = l0[k] := by simp [rd_T23, hk]
  rw [this] at hx; rw [List.all_eq_false]; exact ⟨_, List.getElem_mem hk, by simp [hx]⟩
set_option maxHeartbeats 1600000 in
set_option maxRecDepth 100000 in
theorem impl_SumFractions.index (A0 : Option Addr) (c0 : Nat) (l0 : List S23) (w : World) (hr0 : Kd.C k23 w A0 l0.length l0) (hc0 : l0.length ≤ c0) :
    Calls Try.prog 95 #[.slice A0 l0.length c0, .func (.func 73) #[] #[]] w (impl_SumFractions.Found l0 w) := by
  have HR0 := Aside0.mk hr0; clear hr0; have hlen := Kd.C_max HR0.out; have hu31 := Try.underlying23
  go_enter Try.func95, Try.ntmps95
  go_wp2
  go_loopw [8] (fun v8 wr => ∃ k : Nat, k ≤ l0.length ∧ v8 = .int .i64 k ∧ Aside0 ((l0.take k).all impl_SumFractions.ok = true) ∧ Below w.heap.size w wr) (fun v8 _ => l0.length - (intOf v8).toNat)
  case atStart => exact ⟨0, Nat.zero_le _, rfl, ⟨by simp⟩, Below.refl _ _⟩
  case round =>
    obtain ⟨k, hk, rfl, HA, hb⟩ := hrel
    by_cases hlt : k < l0.length
    · obtain ⟨ad, rfl, hx0, hx1⟩ := at_T23 (Kd.C_below HR0.out hb) (k : Int) (by omega) (by omega); rw [Int.toNat_natCast] at hx0 hx1; obtain ⟨kb, hbad⟩ := impl_SumFractions.bad_eq (rd_T23 l0 k)
      cases hok : impl_SumFractions.ok (rd_T23 l0 k) with
      | true =>
        rw [hok] at hbad; have HT := Aside0.mk (impl_SumFractions.all_take hlt HA.out hok); have HBD := Aside0.mk hbad; clear HA hbad hok
        go_wp2_with (go_at_call 73; refine (impl_SumFractions_1.calls _ _ _ _ _ HBD.out).mono ?_; rintro e w1 ⟨rfl, hb1⟩)
        go_roundw
        case rel => exact ⟨k + 1, by omega, by go_num, HT, below_then hb hb.size hb1⟩
        case measure => simp [intOf]; omega
      | false =>
        rw [hok] at hbad; have HT := Aside0.mk (impl_SumFractions.all_bad hlt hok); have HBD := Aside0.mk hbad; clear HA hbad hok
        go_wp2_with (go_at_call 73; refine (impl_SumFractions_1.calls _ _ _ _ _ HBD.out).mono ?_; rintro e w1 ⟨rfl, hb1⟩)
        go_ret; exact ⟨k, rfl, by rw [HT.out]; simp, below_then hb hb.size hb1⟩
    · go_wp2; go_ret; refine ⟨-1, rfl, ?_, hb⟩; have : l0.take k = l0 := List.take_of_length_le (by omega); rw [← this, HA.out]; simp
set_option maxHeartbeats 1600000 in
set_option maxRecDepth 100000 in
theorem impl_SumFractions.contains (A0 : Option Addr) (c0 : Nat) (l0 : List S23) (w : World) (hr0 : Kd.C k23 w A0 l0.length l0) (hc0 : l0.length ≤ c0) :
    Calls Try.prog 72 #[.slice A0 l0.length c0, .func (.func 73) #[] #[]] w fun e w' => e = .returned (.bool (!(l0.all impl_SumFractions.ok))) ∧ Below w.heap.size w w' := by
  have HI := Aside0.mk (impl_SumFractions.index A0 c0 l0 w hr0 hc0); clear hr0 hc0
  go_enter Try.func72, Try.ntmps72
  go_wp2_with (go_at_call 95; refine HI.out.mono ?_; rintro e w1 ⟨r, rfl, hr, hb⟩; have HE := Aside0.mk hr; clear hr)
  go_ret; exact ⟨by rw [← HE.out]; rfl, hb⟩
theorem sum_next {l : List S23} {k : Nat} (h : k < l.length) (n d : Int) : sumF (l.drop k) n d = if (addR n d (rd_T23 l k).f0 (rd_T23 l k).f1).2.2 = true then sumF (l.drop (k + 1)) (addR n d (rd_T23 l k).f0 (rd_T23 l k).f1).1 (addR n d (rd_T23 l k).f0 (rd_T23 l k).f1).2.1 else (0, 0, false) := by
  have e : rd_T23 l k = l[k] := by simp [rd_T23, h]
  rw [List.drop_eq_getElem_cons h, e]
  rfl
set_option maxHeartbeats 3200000 in
set_option maxRecDepth 100000 in
theorem impl_SumFractions.no (A0 : Option Addr) (c0 : Nat) (l0 : List S23) (w : World) (hr0 : Kd.C k23 w A0 l0.length l0) (hc0 : l0.length ≤ c0) (hno : ¬ ((l0.length : Int) ≤ 64 ∧ l0.all impl_SumFractions.ok = true)) :
    Calls Try.prog 42 #[.slice A0 l0.length c0] w fun e w' => e = .returned (.tuple #[.agg #[.int .i64 0, .int .i64 0], .bool false]) ∧ Below w.heap.size w w' := by
  have hu23 := Try.underlying23; have CA := Aside0.mk (below_alloc (Below.refl w.heap.size w) zeroF); have BK := Aside0.mk (blk_new w zeroF); have HC := Aside0.mk (Kd.C_below hr0 CA.out)
  by_cases h : (l0.length : Int) ≤ 64
  · have hl : decide (64 < (l0.length : Int)) = false := decide_eq_false (by omega); have hl2 : decide (64 < l0.length) = false := decide_eq_false (by omega)
    have ha : l0.all impl_SumFractions.ok = false := by
      cases h2 : l0.all impl_SumFractions.ok
      · rfl
      · exact absurd ⟨h, h2⟩ hno
    clear hno hr0 h
    go_enter Try.func42, Try.ntmps42
    go_wp2_with (first
      | (go_at_call 72; refine (impl_SumFractions.contains A0 c0 l0 _ HC.out hc0).mono ?_; rintro e w1 ⟨rfl, hB⟩; rw [ha]; have C1 := Aside0.mk (below_step CA.out hB); have BK1 := Aside0.mk (blk_below BK.out hB); obtain ⟨z0, z1, z2, z3⟩ := two_cells BK1.out; clear hB))
    refine bodyPost_ret (results_ct rfl _ _ w.heap.size 23 #[.int .i64 0, .int .i64 0] (0, 0) _ rfl (by refine blk_put (cs := #[.int .i64 0, .int .i64 0]) ?_ 1 _ rfl; refine blk_put (cs := #[.int .i64 0, .int .i64 0]) ?_ 0 _ rfl; exact BK1.out) Try.underlying23 rfl (by kernel_rfl)) rfl ?_; exact ⟨rfl, below_set2 C1.out (Nat.le_refl _) _ _⟩
  · have hl : decide (64 < (l0.length : Int)) = true := decide_eq_true (by omega); have hl2 : decide (64 < l0.length) = true := decide_eq_true (by omega); obtain ⟨z0, z1, z2, z3⟩ := two_cells BK.out; clear hno hr0 h
    go_enter Try.func42, Try.ntmps42
    go_wp2; refine bodyPost_ret (results_ct rfl _ _ w.heap.size 23 #[.int .i64 0, .int .i64 0] (0, 0) _ rfl (by first | exact BK.out | (refine blk_put (cs := #[.int .i64 0, .int .i64 0]) ?_ 1 _ rfl; refine blk_put (cs := #[.int .i64 0, .int .i64 0]) ?_ 0 _ rfl; exact BK.out)) Try.underlying23 rfl (by kernel_rfl)) rfl ?_; exact ⟨rfl, by first | exact CA.out | exact below_set2 CA.out (Nat.le_refl _) _ _⟩
set_option maxHeartbeats 3200000 in
set_option maxRecDepth 100000 in
theorem impl_SumFractions.yes (A0 : Option Addr) (c0 : Nat) (l0 : List S23) (w : World) (hr0 : Kd.C k23 w A0 l0.length l0) (hc0 : l0.length ≤ c0) (h : (l0.length : Int) ≤ 64) (ha : l0.all impl_SumFractions.ok = true) :
    Calls Try.prog 42 #[.slice A0 l0.length c0] w fun e w' => e = .returned (.tuple #[.agg #[.int .i64 (sumF l0 0 1).1, .int .i64 (sumF l0 0 1).2.1], .bool (sumF l0 0 1).2.2]) ∧ Below w.heap.size w w' := by
  have hu23 := Try.underlying23; have CA := Aside0.mk (below_alloc (Below.refl w.heap.size w) zeroF); have BK := Aside0.mk (blk_new w zeroF); have HR0 := Aside0.mk hr0; have HC := Aside0.mk (Kd.C_below hr0 CA.out); have hl : decide (64 < (l0.length : Int)) = false := decide_eq_false (by omega); have hl2 : decide (64 < l0.length) = false := decide_eq_false (by omega); obtain ⟨R, hR⟩ : ∃ R, sumF l0 0 1 = R := ⟨_, rfl⟩; have HRS := Aside0.mk hR; rw [hR]; clear hr0 hR
  go_enter Try.func42, Try.ntmps42
  go_wp2_with (first
    | (go_at_call 72; refine (impl_SumFractions.contains A0 c0 l0 _ HC.out hc0).mono ?_; rintro e w1 ⟨rfl, hB⟩; rw [ha]; have C1 := Aside0.mk (below_step CA.out hB); have BK1 := Aside0.mk (blk_below BK.out hB); clear hB))
  go_loopw [20] (fun v20 wr => ∃ (k : Nat) (n d : Int), k ≤ l0.length ∧ v20 = .int .i64 k ∧ Aside0 (sumF (l0.drop k) n d = R) ∧ Aside0 (Below w.heap.size w wr) ∧ Aside0 (wr.heap[w.heap.size]? = some zeroF) ∧ Aside0 (wr.heap[w1.heap.size]? = some (boxF n d))) (fun v20 _ => l0.length - (intOf v20).toNat)
  case atStart => exact ⟨0, 0, 1, Nat.zero_le _, rfl, ⟨HRS.out⟩, ⟨below_alloc C1.out _⟩, ⟨blk_alloc BK1.out _⟩, ⟨blk_new w1 _⟩⟩
  case round =>
    obtain ⟨k, n, d, hk, rfl, HS, HB, HZ, HF⟩ := hrel
    by_cases hlt : k < l0.length
    · obtain ⟨ad, rfl, hx0, hx1⟩ := at_T23 (Kd.C_below HR0.out HB.out) (k : Int) (by omega) (by omega); rw [Int.toNat_natCast] at hx0 hx1; have hs := sum_next hlt n d; rw [HS.out] at hs; obtain ⟨n', hn'⟩ : ∃ n', (rd_T23 l0 k).f0 = n' := ⟨_, rfl⟩; obtain ⟨d', hd'⟩ : ∃ d', (rd_T23 l0 k).f1 = d' := ⟨_, rfl⟩; rw [hn', hd'] at hs; rw [hn'] at hx0; rw [hd'] at hx1; obtain ⟨r, hr⟩ : ∃ r, addR n d n' d' = r := ⟨_, rfl⟩
      have hf : impl_AddFractions.f n d n' d' = some (r.1, r.2.1, r.2.2) := by rw [← hr]; rfl
      rw [hr] at hs; have HF' := Aside0.mk hf; obtain ⟨f0, f1, f2, f3⟩ := two_cells HF.out; have hne1 : w.heap.size < wr.heap.size := blk_lt HZ.out; have hne2 : w1.heap.size < wr.heap.size := blk_lt HF.out
      have hne3 : w.heap.size ≠ w1.heap.size := by have := blk_lt BK1.out; omega
      cases hok : r.2.2 with
      | true =>
        rw [hok, if_pos rfl] at hs; have HS2 := Aside0.mk hs; rw [hok] at hf; have HF2 := Aside0.mk hf; clear hs hok hf hn' hd' hr
        go_wp2_with (first
          | (go_at_call 34; refine (impl_AddFractions.calls n d n' d' _ _ _ _ HF2.out).mono ?_; rintro e w2 ⟨rfl, hB⟩; have B2 := Aside0.mk (below_step (below_alloc HB.out _) hB); have Z2 := Aside0.mk (blk_below (blk_alloc HZ.out _) hB); have F2 := Aside0.mk (blk_below (blk_alloc HF.out _) hB); obtain ⟨g0, g1, g2, g3⟩ := two_cells F2.out; obtain ⟨h0, h1, h2, h3⟩ := two_cells (blk_alloc F2.out (boxF r.1 r.2.1)); clear hB))
        refine ⟨⟨k + 1, r.1, r.2.1, by omega, by go_num, ⟨HS2.out.symm⟩, ⟨below_set2 (below_alloc B2.out _) (Nat.le_of_lt (blk_lt BK1.out)) _ _⟩, ⟨blk_put_ne (blk_put_ne (blk_alloc Z2.out _) hne3) hne3⟩, ⟨blk_put (cs := #[.int .i64 r.1, .int .i64 d]) (blk_put (cs := #[.int .i64 n, .int .i64 d]) (blk_alloc F2.out _) 0 _ rfl) 1 _ rfl⟩⟩, by simp [intOf]; omega⟩
      | false =>
        rw [hok, if_neg (by decide)] at hs; subst hs; rw [hok] at hf; have HF2 := Aside0.mk hf; clear hok hf hn' hd' hr
        go_wp2_with (first
          | (go_at_call 34; refine (impl_AddFractions.calls n d n' d' _ _ _ _ HF2.out).mono ?_; rintro e w2 ⟨rfl, hB⟩; have B2 := Aside0.mk (below_step (below_alloc HB.out _) hB); have Z2 := Aside0.mk (blk_below (blk_alloc HZ.out _) hB); have F2 := Aside0.mk (blk_below (blk_alloc HF.out _) hB); obtain ⟨g0, g1, g2, g3⟩ := two_cells Z2.out; obtain ⟨h0, h1, h2, h3⟩ := two_cells (blk_alloc Z2.out (boxF r.1 r.2.1)); clear hB))
        refine bodyPost_ret (results_ct rfl _ _ w.heap.size 23 #[.int .i64 0, .int .i64 0] (0, 0) _ rfl (by refine blk_put (cs := #[.int .i64 0, .int .i64 0]) ?_ 1 _ rfl; refine blk_put (cs := #[.int .i64 0, .int .i64 0]) ?_ 0 _ rfl; exact blk_alloc Z2.out _) Try.underlying23 rfl (by kernel_rfl)) rfl ?_; exact ⟨rfl, below_set2 (below_alloc B2.out _) (Nat.le_refl _) _ _⟩
    · have e : k = l0.length := by omega
      subst e; have hs := HS.out; rw [List.drop_length] at hs; subst hs; obtain ⟨f0, f1, f2, f3⟩ := two_cells HF.out; obtain ⟨g0, g1, g2, g3⟩ := two_cells HZ.out
      have hne3 : w.heap.size ≠ w1.heap.size := by have := blk_lt BK1.out; omega
      clear HRS; go_wp2; refine bodyPost_ret (results_ct rfl _ _ w.heap.size 23 #[.int .i64 n, .int .i64 d] (0, 0) _ rfl (by (repeat (first | refine blk_drewN ?_ _ | refine blk_drew ?_)); refine blk_put (cs := #[.int .i64 n, .int .i64 0]) ?_ 1 _ rfl; refine blk_put (cs := #[.int .i64 0, .int .i64 0]) ?_ 0 _ rfl; exact HZ.out) Try.underlying23 rfl (by kernel_rfl)) rfl ?_; exact ⟨rfl, below_set2 HB.out (Nat.le_refl _) _ _⟩
theorem impl_SumFractions.calls (A0 : Option Addr) (c0 : Nat) (l0 : List S23) (r1 : Int) (r2 : Int) (r3 : Bool) (w : World) (hr0 : Kd.C k23 w A0 l0.length l0) (hc0 : l0.length ≤ c0) (h : impl_SumFractions.f l0 = some (r1, r2, r3)) :
    Calls Try.prog 42 #[.slice A0 l0.length c0] w fun e w' => e = .returned (.tuple #[.agg #[.int .i64 r1, .int .i64 r2], .bool r3]) ∧ Below w.heap.size w w' := by
  have h := Option.some.inj h
  by_cases c : (l0.length : Int) ≤ 64 ∧ l0.all impl_SumFractions.ok = true
  · rw [if_pos c] at h; have := impl_SumFractions.yes A0 c0 l0 w hr0 hc0 c.1 c.2; rw [h] at this; exact this
  · rw [if_neg c] at h; have := impl_SumFractions.no A0 c0 l0 w hr0 hc0 c
    injection h with h1 h2
    injection h2 with h2 h3
    subst h1; subst h2; subst h3; exact this

end Go.Proofs.Ytenlaanknlafdaa.A
