-- Printed by this session's oprint.py through the kit's printer.
import Derived.Test.YtbemhcdklmcbcaaDoorA0
import Derived.Test.YtbemhcdklmcbcaaDoorA36
import Derived.Test.YtbemhcdklmcbcaaDoorA41
namespace Go.Proofs.YtbemhcdklmcbcaaDoor.A
open Go.RowKit Go.Proofs.YtbemhcdklmcbcaaDoorW.PrintWords Go.Proofs.YtbemhcdklmcbcaaDoorW.PrintLast Go.Proofs.YtbemhcdklmcbcaaDoorW.PrintMore
attribute [local go_sem] max2_int min2_int max_two min_two max_three min_three max_four min_four   -- for this text's walks alone
set_option linter.unusedVariables false
set_option linter.unusedSimpArgs false

/-! ### impl_EvenPattern: function 17 -/
-- given: proved by hand (evenpattern.tpl)
/-- The mark of slot i. -/
def impl_EvenPattern.lev (s m : Int) (i : Nat) : Bool := decide ((i : Int) * m / s < ((i : Int) + 1) * m / s)
def impl_EvenPattern.f (s m : Int) : Option (ByteArray × Bool) :=
  if 1 ≤ s ∧ s ≤ 64 then (if 0 ≤ m ∧ m ≤ s then some (impl_waveOf.text s.toNat (impl_EvenPattern.lev s m), true) else some (⟨#[]⟩, false)) else some (⟨#[]⟩, false)
theorem within_eq' (a b c : Int) : impl_within.f a b c = some (decide (b ≤ a ∧ a ≤ c)) := by
  unfold impl_within.f
  by_cases h : a ≥ b
  · rw [if_pos h]; have h' : b ≤ a := h; simp [h']
  · rw [if_neg h]; have h' : ¬ b ≤ a := h; simp [h']
def boxI (x : Int) : Obj := .cells #[.int .i64 x] 2 (0, 0)
theorem blk_of_drawn {w1 w2 : World} {g : Nat} {ob : Obj} (h : w1.heap[g]? = some ob) (k : Drawn0 w1 w2) : w2.heap[g]? = some ob := by obtain ⟨m, rfl⟩ := k; exact h
theorem below_drawn0 {w w1 w2 : World} (h : Below w.heap.size w w1) (k : Drawn0 w1 w2) : Below w.heap.size w w2 := by
  obtain ⟨m, rfl⟩ := k; exact pw_below_drewN h m
def impl_EvenPattern.Inv (gm gs : Nat) (s m : Int) (W : World) : Prop := W.heap[gm]? = some (boxI m) ∧ W.heap[gs]? = some (boxI s)
set_option maxHeartbeats 1600000 in
set_option maxRecDepth 100000 in
theorem impl_EvenPattern.level (gm gs : Nat) (s m : Int) (i : Nat) (W : World) (hI : impl_EvenPattern.Inv gm gs s m W) (hs : 1 ≤ s) (hs' : s ≤ 64) (hm : 0 ≤ m) (hm' : m ≤ s) (hi : i ≤ 64) :
    Calls Tryd.prog 44 #[.int .i64 (i : Int), .pointer (some ⟨gm, 0, none⟩), .pointer (some ⟨gs, 0, none⟩)] W fun e W' => e = .returned (.bool (impl_EvenPattern.lev s m i)) ∧ ∃ k, W' = W.drewN k := by
  obtain ⟨hc, hh⟩ := hI
  have hc0 : W.cell? ⟨gm, 0, none⟩ = some (.int .i64 m) := (blk_cell hc 0).trans rfl
  have hh0 : W.cell? ⟨gs, 0, none⟩ = some (.int .i64 s) := (blk_cell hh 0).trans rfl
  clear hc hh
  have HF := Aside0.mk (show impl_EvenPattern.lev s m i = decide ((i : Int) * m / s < ((i : Int) + 1) * m / s) from rfl)
  have p1 := Int.mul_nonneg (show 0 ≤ (i : Int) by omega) hm
  have p2 : (i : Int) * m ≤ 64 * 64 := Int.mul_le_mul (by omega) (by omega) (by omega) (by omega)
  have e1 : ((i : Int) + 1) * m = (i : Int) * m + m := by grind
  have q1 : 0 ≤ (i : Int) * m / s := Int.ediv_nonneg p1 (by omega)
  have q2 : (i : Int) * m / s ≤ (i : Int) * m := Int.ediv_le_self _ p1
  have q3 : 0 ≤ ((i : Int) + 1) * m / s := Int.ediv_nonneg (by omega) (by omega)
  have q4 : ((i : Int) + 1) * m / s ≤ ((i : Int) + 1) * m := Int.ediv_le_self _ (by omega)
  have t1 : Int.tdiv ((i : Int) * m) s = (i : Int) * m / s := Int.tdiv_eq_ediv_of_nonneg p1
  have t2 : Int.tdiv (((i : Int) + 1) * m) s = ((i : Int) + 1) * m / s := Int.tdiv_eq_ediv_of_nonneg (by omega)
  obtain ⟨Q1, hQ1⟩ : ∃ Q, (i : Int) * m / s = Q := ⟨_, rfl⟩
  obtain ⟨Q2, hQ2⟩ : ∃ Q, ((i : Int) + 1) * m / s = Q := ⟨_, rfl⟩
  rw [hQ1] at HF q1 q2 t1
  rw [hQ2] at HF q3 q4 t2
  have w0 : IntKind.i64.wrap ((i : Int) + 1) = (i : Int) + 1 := by simp only [IntKind.wrap_i64]; omega
  have w1 : IntKind.i64.wrap ((i : Int) * m) = (i : Int) * m := by simp only [IntKind.wrap_i64]; omega
  have w2 : IntKind.i64.wrap (((i : Int) + 1) * m) = ((i : Int) + 1) * m := by simp only [IntKind.wrap_i64]; omega
  have w3 : IntKind.i64.wrap Q1 = Q1 := by simp only [IntKind.wrap_i64]; omega
  have w4 : IntKind.i64.wrap Q2 = Q2 := by simp only [IntKind.wrap_i64]; omega
  have hp0 : ¬ s = 0 := by omega
  have hp0' : (s == 0) = false := beq_eq_false_iff_ne.2 hp0
  clear hQ1 hQ2 p1 p2 e1 q1 q2 q3 q4 hs hs' hm hm' hi
  cases hb : decide (Q1 < Q2)
  · rw [hb] at HF
    go_enter Tryd.func44, Tryd.ntmps44
    go_wp2
    go_quiet (fail)
    try go_wp2
    go_ret
    exact ⟨by rw [HF.out]; first | rfl | simp, ⟨_, rfl⟩⟩
  · rw [hb] at HF
    go_enter Tryd.func44, Tryd.ntmps44
    go_wp2
    go_quiet (fail)
    try go_wp2
    go_ret
    exact ⟨by rw [HF.out]; first | rfl | simp, ⟨_, rfl⟩⟩
set_option maxHeartbeats 1600000 in
set_option maxRecDepth 100000 in
theorem impl_EvenPattern.calls (s : Int) (m : Int) (r1 : ByteArray) (r2 : Bool) (w : World) (h : impl_EvenPattern.f s m = some (r1, r2)) :
    Calls Tryd.prog 17 #[.int .i64 s, .int .i64 m] w fun e w' => e = .returned (.tuple #[.string r1, .bool r2]) ∧ Below w.heap.size w w' := by
  have HV := Aside0.mk (within_eq' s 1 64)
  have HW := Aside0.mk (within_eq' m 0 s)
  by_cases c1 : 1 ≤ s ∧ s ≤ 64
  · have HV1 := Aside0.mk (HV.out.trans (by rw [decide_eq_true c1] : some (decide _) = some true))
    by_cases c2 : 0 ≤ m ∧ m ≤ s
    · have HW1 := Aside0.mk (HW.out.trans (by rw [decide_eq_true c2] : some (decide _) = some true))
      unfold impl_EvenPattern.f at h
      rw [if_pos c1, if_pos c2] at h
      simp only [Option.some.injEq, Prod.mk.injEq] at h
      obtain ⟨rfl, rfl⟩ := h
      obtain ⟨n, rfl⟩ := Int.eq_ofNat_of_zero_le (show 0 ≤ s by omega)
      rw [Int.toNat_natCast]
      have C := Aside0.mk (And.intro c1 c2)
      clear HV HW c1 c2
      go_enter Tryd.func17, Tryd.ntmps17
      go_wp2_with (first
        | ((with_reducible refine gate_dst (N := 2) rfl ?_); refine box_event ?hg (N := 2) ?hd (cs := #[.int .i64 (n : Int)]) (t := 2) ?hr ?_; (case hd => rfl); (case hg => rfl); (case hr => first | (go_simp; done) | (go_simp; rfl)); intro gs hgs w1 hbox hb; have S1 := Aside0.mk hbox; have HB := Aside0.mk hb; clear hbox hb hgs)
        | ((with_reducible refine gate_dst (N := 3) rfl ?_); refine box_event ?hg (N := 3) ?hd (cs := #[.int .i64 m]) (t := 2) ?hr ?_; (case hd => rfl); (case hg => rfl); (case hr => first | (go_simp; done) | (go_simp; rfl)); intro gm hgm w2 hbox hb; have M2 := Aside0.mk hbox; have S2 := Aside0.mk (blk_below S1.out hb); have HB2 := Aside0.mk (below_step HB.out hb); clear hbox hb hgm S1 HB; have x0 := (blk_cell S2.out 0).trans rfl; have x1 := (blk_cell M2.out 0).trans rfl)
        | (go_at_call 36; (with_reducible refine (impl_within.calls (n : Int) 1 64 true _ HV1.out).mono ?_); rintro e w3 ⟨rfl, hd⟩; clear x0 x1; have M3 := Aside0.mk (blk_of_drawn M2.out hd); have S3 := Aside0.mk (blk_of_drawn S2.out hd); have HB3 := Aside0.mk (below_drawn0 HB2.out hd); clear hd HB2; have x0 := (blk_cell S3.out 0).trans rfl; have x1 := (blk_cell M3.out 0).trans rfl)
        | (go_at_call 36; (with_reducible refine (impl_within.calls m 0 (n : Int) true _ HW1.out).mono ?_); rintro e w4 ⟨rfl, hd⟩; clear x0 x1; have M4 := Aside0.mk (blk_of_drawn M3.out hd); have S4 := Aside0.mk (blk_of_drawn S3.out hd); have HB4 := Aside0.mk (below_drawn0 HB3.out hd); clear hd HB3; have x0 := (blk_cell S4.out 0).trans rfl; have x1 := (blk_cell M4.out 0).trans rfl)
        | (go_at_call 41; refine (impl_waveOf.calls 44 #[.pointer (some ⟨gm, 0, none⟩), .pointer (some ⟨gs, 0, none⟩)] (enters_of Tryd.func44 (by kernel_rfl) rfl) n (by have := C.out; omega) (impl_EvenPattern.lev n m) (fun _ W => impl_EvenPattern.Inv gm gs n m W) w.heap.size w4 (HB4.out.size) (fun _ W W' hk hI => ⟨(hk gm (blk_lt M4.out)).trans hI.1, (hk gs (blk_lt S4.out)).trans hI.2⟩) (fun i W hi _ hI => (impl_EvenPattern.level gm gs n m i W hI (by have := C.out; omega) (by have := C.out; omega) (by have := C.out; omega) (by have := C.out; omega) (by have := C.out; omega)).mono fun e W' ⟨he, k, hk⟩ => ⟨he, by subst hk; exact hI, by subst hk; exact pw_below_drewN (Below.refl _ _) _, by subst hk; exact fun _ _ _ => rfl⟩) ⟨M4.out, S4.out⟩).mono ?_; rintro e w5 ⟨rfl, _, hb⟩; have HB5 := Aside0.mk (HB4.out.trans hb); clear hb))
      go_ret2
      exact ⟨rfl, HB5.out⟩
    · have HW1 := Aside0.mk (HW.out.trans (by rw [decide_eq_false c2] : some (decide _) = some false))
      unfold impl_EvenPattern.f at h
      rw [if_pos c1, if_neg c2] at h
      simp only [Option.some.injEq, Prod.mk.injEq] at h
      obtain ⟨rfl, rfl⟩ := h
      clear HV HW c1 c2
      go_enter Tryd.func17, Tryd.ntmps17
      go_wp2_with (first
        | ((with_reducible refine gate_dst (N := 2) rfl ?_); refine box_event ?hg (N := 2) ?hd (cs := #[.int .i64 s]) (t := 2) ?hr ?_; (case hd => rfl); (case hg => rfl); (case hr => first | (go_simp; done) | (go_simp; rfl)); intro gs hgs w1 hbox hb; have S1 := Aside0.mk hbox; have HB := Aside0.mk hb; clear hbox hb hgs)
        | ((with_reducible refine gate_dst (N := 3) rfl ?_); refine box_event ?hg (N := 3) ?hd (cs := #[.int .i64 m]) (t := 2) ?hr ?_; (case hd => rfl); (case hg => rfl); (case hr => first | (go_simp; done) | (go_simp; rfl)); intro gm hgm w2 hbox hb; have M2 := Aside0.mk hbox; have S2 := Aside0.mk (blk_below S1.out hb); have HB2 := Aside0.mk (below_step HB.out hb); clear hbox hb hgm S1 HB; have x0 := (blk_cell S2.out 0).trans rfl; have x1 := (blk_cell M2.out 0).trans rfl)
        | (go_at_call 36; (with_reducible refine (impl_within.calls s 1 64 true _ HV1.out).mono ?_); rintro e w3 ⟨rfl, hd⟩; clear x0 x1; have M3 := Aside0.mk (blk_of_drawn M2.out hd); have S3 := Aside0.mk (blk_of_drawn S2.out hd); have HB3 := Aside0.mk (below_drawn0 HB2.out hd); clear hd HB2; have x0 := (blk_cell S3.out 0).trans rfl; have x1 := (blk_cell M3.out 0).trans rfl)
        | (go_at_call 36; (with_reducible refine (impl_within.calls m 0 s false _ HW1.out).mono ?_); rintro e w4 ⟨rfl, hd⟩; clear x0 x1; have M4 := Aside0.mk (blk_of_drawn M3.out hd); have S4 := Aside0.mk (blk_of_drawn S3.out hd); have HB4 := Aside0.mk (below_drawn0 HB3.out hd); clear hd HB3; have x0 := (blk_cell S4.out 0).trans rfl; have x1 := (blk_cell M4.out 0).trans rfl))
      go_ret2
      exact ⟨rfl, HB4.out⟩
  · have HV1 := Aside0.mk (HV.out.trans (by rw [decide_eq_false c1] : some (decide _) = some false))
    unfold impl_EvenPattern.f at h
    rw [if_neg c1] at h
    simp only [Option.some.injEq, Prod.mk.injEq] at h
    obtain ⟨rfl, rfl⟩ := h
    clear HV HW c1
    go_enter Tryd.func17, Tryd.ntmps17
    go_wp2_with (first
      | ((with_reducible refine gate_dst (N := 2) rfl ?_); refine box_event ?hg (N := 2) ?hd (cs := #[.int .i64 s]) (t := 2) ?hr ?_; (case hd => rfl); (case hg => rfl); (case hr => first | (go_simp; done) | (go_simp; rfl)); intro gs hgs w1 hbox hb; have S1 := Aside0.mk hbox; have HB := Aside0.mk hb; clear hbox hb hgs)
      | ((with_reducible refine gate_dst (N := 3) rfl ?_); refine box_event ?hg (N := 3) ?hd (cs := #[.int .i64 m]) (t := 2) ?hr ?_; (case hd => rfl); (case hg => rfl); (case hr => first | (go_simp; done) | (go_simp; rfl)); intro gm hgm w2 hbox hb; have M2 := Aside0.mk hbox; have S2 := Aside0.mk (blk_below S1.out hb); have HB2 := Aside0.mk (below_step HB.out hb); clear hbox hb hgm S1 HB; have x0 := (blk_cell S2.out 0).trans rfl; have x1 := (blk_cell M2.out 0).trans rfl)
      | (go_at_call 36; (with_reducible refine (impl_within.calls s 1 64 false _ HV1.out).mono ?_); rintro e w3 ⟨rfl, hd⟩; clear x0 x1; have M3 := Aside0.mk (blk_of_drawn M2.out hd); have S3 := Aside0.mk (blk_of_drawn S2.out hd); have HB3 := Aside0.mk (below_drawn0 HB2.out hd); clear hd HB2; have x0 := (blk_cell S3.out 0).trans rfl; have x1 := (blk_cell M3.out 0).trans rfl))
    go_ret2
    exact ⟨rfl, HB3.out⟩

end Go.Proofs.YtbemhcdklmcbcaaDoor.A
