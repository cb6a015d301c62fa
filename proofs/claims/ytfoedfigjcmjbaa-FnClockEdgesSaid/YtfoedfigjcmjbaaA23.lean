-- Printed by this session's oprint.py through the kit's printer.
import Derived.Test.YtfoedfigjcmjbaaA0
import Derived.Test.YtfoedfigjcmjbaaA24
import Derived.Test.YtfoedfigjcmjbaaA40
import Derived.Test.YtfoedfigjcmjbaaA46
import Derived.Test.YtfoedfigjcmjbaaA47
namespace Go.Proofs.Ytfoedfigjcmjbaa.A
open Go.RowKit Go.Proofs.YtfoedfigjcmjbaaW.PrintWords Go.Proofs.YtfoedfigjcmjbaaW.PrintLast Go.Proofs.YtfoedfigjcmjbaaW.PrintMore
attribute [local go_sem] max2_int min2_int max_two min_two max_three min_three max_four min_four   -- for this text's walks alone
set_option linter.unusedVariables false
set_option linter.unusedSimpArgs false

/-! ### impl_WaveOf: function 23 -/
-- given: proved by hand (WaveOf.tpl)
/-- The level of a clock's wave at tick i. -/
def impl_WaveOf.lev (p o high : Int) (i : Nat) : Bool := decide (0 ≤ (i : Int) - o) && decide (((i : Int) - o) % p < high)
def impl_WaveOf.f (a0_0 a0_1 a1 a2 : Int) : Option (ByteArray × Bool) :=
  if (1 ≤ a0_0 ∧ a0_0 ≤ 100000) ∧ (0 ≤ a0_1 ∧ a0_1 ≤ 100000) then (if 0 ≤ a1 ∧ a1 ≤ a0_0 then (if 0 ≤ a2 ∧ a2 ≤ 400 then some (impl_waveOf.text a2.toNat (impl_WaveOf.lev a0_0 a0_1 a1), true) else some (⟨#[]⟩, false)) else some (⟨#[]⟩, false)) else some (⟨#[]⟩, false)
theorem impl_WaveOf.within_eq (a b c : Int) : impl_within.f a b c = some (decide (b ≤ a ∧ a ≤ c)) := by
  unfold impl_within.f
  by_cases h : a ≥ b
  · rw [if_pos h]; have h' : b ≤ a := h; simp [h']
  · rw [if_neg h]; have h' : ¬ b ≤ a := h; simp [h']
theorem impl_WaveOf.valid_eq (p o : Int) : impl_ValidClock.f p o = some (decide ((1 ≤ p ∧ p ≤ 100000) ∧ (0 ≤ o ∧ o ≤ 100000))) := by
  unfold impl_ValidClock.f
  rw [impl_WaveOf.within_eq, impl_WaveOf.within_eq]; simp only [Option.bind_some]
  by_cases h : 1 ≤ p ∧ p ≤ 100000 <;> by_cases k : 0 ≤ o ∧ o ≤ 100000 <;> simp [h, k]
theorem impl_WaveOf.ticks_eq (t : Int) : impl_isTicks.f t = some (decide (0 ≤ t ∧ t ≤ 400)) := by
  unfold impl_isTicks.f; rw [impl_WaveOf.within_eq]; rfl
/-- What the captured variables hold. -/
def impl_WaveOf.Inv (gc gh : Nat) (p o high : Int) (W : World) : Prop := W.heap[gc]? = some (.cells #[.int .i64 p, .int .i64 o] 31 (0, 0)) ∧ W.heap[gh]? = some (.cells #[.int .i64 high] 2 (0, 0))
set_option maxHeartbeats 1600000 in
set_option maxRecDepth 100000 in
theorem impl_WaveOf.level (gc gh : Nat) (p o high : Int) (i : Nat) (W : World) (hI : impl_WaveOf.Inv gc gh p o high W) (hp : 1 ≤ p) (hp' : p ≤ 100000) (ho : 0 ≤ o) (ho' : o ≤ 100000) (hi : i ≤ 400) :
    Calls Try.prog 48 #[.int .i64 (i : Int), .pointer (some ⟨gc, 0, none⟩), .pointer (some ⟨gh, 0, none⟩)] W fun e W' => e = .returned (.bool (impl_WaveOf.lev p o high i)) ∧ ∃ m, W' = W.drewN m := by
  obtain ⟨hc, hh⟩ := hI
  have hc0 := (blk_cell hc 0).trans rfl
  have hc1 := (blk_cell hc 1).trans rfl
  have hh0 := (blk_cell hh 0).trans rfl
  clear hc hh
  have hp0 : ¬ p = 0 := by omega
  by_cases h : 0 ≤ (i : Int) - o
  · have HF := Aside0.mk (show impl_WaveOf.lev p o high i = decide (((i : Int) - o) % p < high) by simp only [impl_WaveOf.lev, decide_eq_true h, Bool.true_and])
    have hb : decide (0 ≤ (i : Int) - o) = true := decide_eq_true h
    have hb2 : decide (o ≤ (i : Int)) = true := decide_eq_true (by omega)
    have hm : IntKind.i64.wrap ((i : Int) - o) = (i : Int) - o := by simp only [IntKind.wrap_i64]; omega
    have ht : Int.tmod ((i : Int) - o) p = ((i : Int) - o) % p := Int.tmod_eq_emod_of_nonneg h
    clear h
    go_enter Try.func48, Try.ntmps48
    go_wp2
    go_quiet (fail)
    try go_wp2
    go_ret
    exact ⟨by rw [HF.out]; first | rfl | simp, ⟨_, rfl⟩⟩
  · have HF := Aside0.mk (show impl_WaveOf.lev p o high i = false by simp only [impl_WaveOf.lev, decide_eq_false h, Bool.false_and])
    have hb : decide (0 ≤ (i : Int) - o) = false := decide_eq_false h
    have hb2 : decide (o ≤ (i : Int)) = false := decide_eq_false (by omega)
    have hm : IntKind.i64.wrap ((i : Int) - o) = (i : Int) - o := by simp only [IntKind.wrap_i64]; omega
    clear h
    go_enter Try.func48, Try.ntmps48
    go_wp2
    go_quiet (fail)
    try go_wp2
    go_ret
    exact ⟨by rw [HF.out]; first | rfl | simp, ⟨_, rfl⟩⟩
theorem blk_of_drawn {w1 w2 : World} {g : Nat} {ob : Obj} (h : w1.heap[g]? = some ob) (k : Drawn0 w1 w2) : w2.heap[g]? = some ob := by obtain ⟨m, rfl⟩ := k; exact h
theorem impl_WaveOf.drawn {w w1 w2 : World} (h : Below w.heap.size w w1) (k : Drawn0 w1 w2) : Below w.heap.size w w2 := by
  obtain ⟨m, rfl⟩ := k; exact pw_below_drewN h m
set_option maxHeartbeats 1600000 in
set_option maxRecDepth 100000 in
theorem impl_WaveOf.calls (p : Int) (o : Int) (a1 : Int) (a2 : Int) (r1 : ByteArray) (r2 : Bool) (w : World) (h : impl_WaveOf.f p o a1 a2 = some (r1, r2)) :
    Calls Try.prog 23 #[.agg #[.int .i64 p, .int .i64 o], .int .i64 a1, .int .i64 a2] w fun e w' => e = .returned (.tuple #[.string r1, .bool r2]) ∧ Below w.heap.size w w' := by
  have hu := Try.underlying31
  have HV := Aside0.mk (impl_WaveOf.valid_eq p o)
  have HW := Aside0.mk (impl_WaveOf.within_eq a1 0 p)
  have HT := Aside0.mk (impl_WaveOf.ticks_eq a2)
  by_cases c1 : (1 ≤ p ∧ p ≤ 100000) ∧ (0 ≤ o ∧ o ≤ 100000)
  · have HV1 := Aside0.mk (HV.out.trans (by rw [decide_eq_true c1] : some (decide _) = some true))
    by_cases c2 : 0 ≤ a1 ∧ a1 ≤ p
    · have HW1 := Aside0.mk (HW.out.trans (by rw [decide_eq_true c2] : some (decide _) = some true))
      by_cases c3 : 0 ≤ a2 ∧ a2 ≤ 400
      · have HT1 := Aside0.mk (HT.out.trans (by rw [decide_eq_true c3] : some (decide _) = some true))
        unfold impl_WaveOf.f at h
        rw [if_pos c1, if_pos c2, if_pos c3] at h
        simp only [Option.some.injEq, Prod.mk.injEq] at h
        obtain ⟨rfl, rfl⟩ := h
        obtain ⟨n, rfl⟩ := Int.eq_ofNat_of_zero_le c3.1
        rw [Int.toNat_natCast]
        have C := Aside0.mk (And.intro c1 c3)
        clear HV HW HT c1 c2 c3
        go_enter Try.func23, Try.ntmps23
        go_wp2_with (first
          | ((with_reducible refine gate_dst (N := 3) rfl ?_); refine box_event ?hg (N := 3) ?hd (cs := #[.int .i64 p, .int .i64 o]) (t := 31) ?hr ?_; (case hd => rfl); (case hg => rfl); (case hr => first | (go_simp; done) | (go_simp; rfl)); intro gc hgc w1 hbox hb; have BC := Aside0.mk hbox; have HB := Aside0.mk hb; clear hbox hb hgc)
          | ((with_reducible refine gate_dst (N := 4) rfl ?_); refine box_event ?hg (N := 4) ?hd (cs := #[.int .i64 a1]) (t := 2) ?hr ?_; (case hd => rfl); (case hg => rfl); (case hr => first | (go_simp; done) | (go_simp; rfl)); intro gh hgh w2 hbox hb; have BH := Aside0.mk hbox; have BC2 := Aside0.mk (blk_below BC.out hb); have HB2 := Aside0.mk (below_step HB.out hb); clear hbox hb hgh BC HB; have hx0 := (blk_cell BC2.out 0).trans rfl; have hx1 := (blk_cell BC2.out 1).trans rfl)
          | (go_at_call 24; refine (impl_ValidClock.calls p o true _ HV1.out).mono ?_; rintro e w3 ⟨rfl, hb⟩; clear hx0 hx1; have BC3 := Aside0.mk (blk_below BC2.out hb); have BH3 := Aside0.mk (blk_below BH.out hb); have HB3 := Aside0.mk (below_step HB2.out hb); clear hb BC2 BH HB2; have hx0 := (blk_cell BC3.out 0).trans rfl; have hy0 := (blk_cell BH3.out 0).trans rfl)
          | (go_at_call 40; refine (impl_within.calls a1 0 p true _ HW1.out).mono ?_; rintro e w4 ⟨rfl, hd⟩; clear hx0 hy0; have BC4 := Aside0.mk (blk_of_drawn BC3.out hd); have BH4 := Aside0.mk (blk_of_drawn BH3.out hd); have HB4 := Aside0.mk (impl_WaveOf.drawn HB3.out hd); clear hd BC3 BH3 HB3)
          | (go_at_call 46; refine (impl_isTicks.calls (n : Int) true _ HT1.out).mono ?_; rintro e w5 ⟨rfl, hd⟩; have BC5 := Aside0.mk (blk_of_drawn BC4.out hd); have BH5 := Aside0.mk (blk_of_drawn BH4.out hd); have HB5 := Aside0.mk (impl_WaveOf.drawn HB4.out hd); clear hd BC4 BH4 HB4)
          | (go_at_call 47; refine (impl_waveOf.calls 48 #[.pointer (some ⟨gc, 0, none⟩), .pointer (some ⟨gh, 0, none⟩)] (enters_of Try.func48 (by kernel_rfl) rfl) n (by have := C.out; omega) (impl_WaveOf.lev p o a1) (fun _ W => impl_WaveOf.Inv gc gh p o a1 W) w.heap.size w5 (HB5.out.size) (fun _ W W' hk hI => ⟨(hk gc (blk_lt BC5.out)).trans hI.1, (hk gh (blk_lt BH5.out)).trans hI.2⟩) (fun i W hi _ hI => (impl_WaveOf.level gc gh p o a1 i W hI (by have := C.out; omega) (by have := C.out; omega) (by have := C.out; omega) (by have := C.out; omega) (by have := C.out; omega)).mono fun e W' ⟨he, m, hm⟩ => ⟨he, by subst hm; exact hI, by subst hm; exact pw_below_drewN (Below.refl _ _) _, by subst hm; exact fun _ _ _ => rfl⟩) ⟨BC5.out, BH5.out⟩).mono ?_; rintro e w6 ⟨rfl, _, hb⟩; have HB6 := Aside0.mk (HB5.out.trans hb); clear hb))
        go_ret2
        exact ⟨rfl, HB6.out⟩
      · have HF := Aside0.mk (HT.out.trans (by rw [decide_eq_false c3] : some (decide _) = some false))
        unfold impl_WaveOf.f at h
        rw [if_pos c1, if_pos c2, if_neg c3] at h
        simp only [Option.some.injEq, Prod.mk.injEq] at h
        obtain ⟨rfl, rfl⟩ := h
        clear HV HW HT c1 c2 c3
        go_enter Try.func23, Try.ntmps23
        go_wp2_with (first
          | ((with_reducible refine gate_dst (N := 3) rfl ?_); refine box_event ?hg (N := 3) ?hd (cs := #[.int .i64 p, .int .i64 o]) (t := 31) ?hr ?_; (case hd => rfl); (case hg => rfl); (case hr => first | (go_simp; done) | (go_simp; rfl)); intro gc hgc w1 hbox hb; have BC := Aside0.mk hbox; have HB := Aside0.mk hb; clear hbox hb hgc)
          | ((with_reducible refine gate_dst (N := 4) rfl ?_); refine box_event ?hg (N := 4) ?hd (cs := #[.int .i64 a1]) (t := 2) ?hr ?_; (case hd => rfl); (case hg => rfl); (case hr => first | (go_simp; done) | (go_simp; rfl)); intro gh hgh w2 hbox hb; have BH := Aside0.mk hbox; have BC2 := Aside0.mk (blk_below BC.out hb); have HB2 := Aside0.mk (below_step HB.out hb); clear hbox hb hgh BC HB; have hx0 := (blk_cell BC2.out 0).trans rfl; have hx1 := (blk_cell BC2.out 1).trans rfl)
          | (go_at_call 24; refine (impl_ValidClock.calls p o true _ HV1.out).mono ?_; rintro e w3 ⟨rfl, hb⟩; clear hx0 hx1; have BC3 := Aside0.mk (blk_below BC2.out hb); have BH3 := Aside0.mk (blk_below BH.out hb); have HB3 := Aside0.mk (below_step HB2.out hb); clear hb BC2 BH HB2; have hx0 := (blk_cell BC3.out 0).trans rfl; have hy0 := (blk_cell BH3.out 0).trans rfl)
          | (go_at_call 40; refine (impl_within.calls a1 0 p true _ HW1.out).mono ?_; rintro e w4 ⟨rfl, hd⟩; clear hx0 hy0; have BC4 := Aside0.mk (blk_of_drawn BC3.out hd); have BH4 := Aside0.mk (blk_of_drawn BH3.out hd); have HB4 := Aside0.mk (impl_WaveOf.drawn HB3.out hd); clear hd BC3 BH3 HB3)
          | (go_at_call 46; refine (impl_isTicks.calls a2 false _ HF.out).mono ?_; rintro e w5 ⟨rfl, hd⟩; have BC5 := Aside0.mk (blk_of_drawn BC4.out hd); have BH5 := Aside0.mk (blk_of_drawn BH4.out hd); have HB5 := Aside0.mk (impl_WaveOf.drawn HB4.out hd); clear hd BC4 BH4 HB4))
        go_ret2
        exact ⟨rfl, HB5.out⟩
    · have HF := Aside0.mk (HW.out.trans (by rw [decide_eq_false c2] : some (decide _) = some false))
      unfold impl_WaveOf.f at h
      rw [if_pos c1, if_neg c2] at h
      simp only [Option.some.injEq, Prod.mk.injEq] at h
      obtain ⟨rfl, rfl⟩ := h
      clear HV HW HT c1 c2
      go_enter Try.func23, Try.ntmps23
      go_wp2_with (first
        | ((with_reducible refine gate_dst (N := 3) rfl ?_); refine box_event ?hg (N := 3) ?hd (cs := #[.int .i64 p, .int .i64 o]) (t := 31) ?hr ?_; (case hd => rfl); (case hg => rfl); (case hr => first | (go_simp; done) | (go_simp; rfl)); intro gc hgc w1 hbox hb; have BC := Aside0.mk hbox; have HB := Aside0.mk hb; clear hbox hb hgc)
        | ((with_reducible refine gate_dst (N := 4) rfl ?_); refine box_event ?hg (N := 4) ?hd (cs := #[.int .i64 a1]) (t := 2) ?hr ?_; (case hd => rfl); (case hg => rfl); (case hr => first | (go_simp; done) | (go_simp; rfl)); intro gh hgh w2 hbox hb; have BH := Aside0.mk hbox; have BC2 := Aside0.mk (blk_below BC.out hb); have HB2 := Aside0.mk (below_step HB.out hb); clear hbox hb hgh BC HB; have hx0 := (blk_cell BC2.out 0).trans rfl; have hx1 := (blk_cell BC2.out 1).trans rfl)
        | (go_at_call 24; refine (impl_ValidClock.calls p o true _ HV1.out).mono ?_; rintro e w3 ⟨rfl, hb⟩; clear hx0 hx1; have BC3 := Aside0.mk (blk_below BC2.out hb); have BH3 := Aside0.mk (blk_below BH.out hb); have HB3 := Aside0.mk (below_step HB2.out hb); clear hb BC2 BH HB2; have hx0 := (blk_cell BC3.out 0).trans rfl; have hy0 := (blk_cell BH3.out 0).trans rfl)
        | (go_at_call 40; refine (impl_within.calls a1 0 p false _ HF.out).mono ?_; rintro e w4 ⟨rfl, hd⟩; clear hx0 hy0; have BC4 := Aside0.mk (blk_of_drawn BC3.out hd); have BH4 := Aside0.mk (blk_of_drawn BH3.out hd); have HB4 := Aside0.mk (impl_WaveOf.drawn HB3.out hd); clear hd BC3 BH3 HB3))
      go_ret2
      exact ⟨rfl, HB4.out⟩
  · have HF := Aside0.mk (HV.out.trans (by rw [decide_eq_false c1] : some (decide _) = some false))
    unfold impl_WaveOf.f at h
    rw [if_neg c1] at h
    simp only [Option.some.injEq, Prod.mk.injEq] at h
    obtain ⟨rfl, rfl⟩ := h
    clear HV HW HT c1
    go_enter Try.func23, Try.ntmps23
    go_wp2_with (first
      | ((with_reducible refine gate_dst (N := 3) rfl ?_); refine box_event ?hg (N := 3) ?hd (cs := #[.int .i64 p, .int .i64 o]) (t := 31) ?hr ?_; (case hd => rfl); (case hg => rfl); (case hr => first | (go_simp; done) | (go_simp; rfl)); intro gc hgc w1 hbox hb; have BC := Aside0.mk hbox; have HB := Aside0.mk hb; clear hbox hb hgc)
      | ((with_reducible refine gate_dst (N := 4) rfl ?_); refine box_event ?hg (N := 4) ?hd (cs := #[.int .i64 a1]) (t := 2) ?hr ?_; (case hd => rfl); (case hg => rfl); (case hr => first | (go_simp; done) | (go_simp; rfl)); intro gh hgh w2 hbox hb; have BH := Aside0.mk hbox; have BC2 := Aside0.mk (blk_below BC.out hb); have HB2 := Aside0.mk (below_step HB.out hb); clear hbox hb hgh BC HB; have hx0 := (blk_cell BC2.out 0).trans rfl; have hx1 := (blk_cell BC2.out 1).trans rfl)
      | (go_at_call 24; refine (impl_ValidClock.calls p o false _ HF.out).mono ?_; rintro e w3 ⟨rfl, hb⟩; clear hx0 hx1; have BC3 := Aside0.mk (blk_below BC2.out hb); have BH3 := Aside0.mk (blk_below BH.out hb); have HB3 := Aside0.mk (below_step HB2.out hb); clear hb BC2 BH HB2; have hx0 := (blk_cell BC3.out 0).trans rfl; have hy0 := (blk_cell BH3.out 0).trans rfl))
    go_ret2
    exact ⟨rfl, HB3.out⟩

end Go.Proofs.Ytfoedfigjcmjbaa.A
