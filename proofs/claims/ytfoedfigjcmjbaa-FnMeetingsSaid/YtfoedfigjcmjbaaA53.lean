-- Printed by this session's oprint.py through the kit's printer.
import Derived.Test.YtfoedfigjcmjbaaA0
import Derived.Test.YtfoedfigjcmjbaaA24
import Derived.Test.YtfoedfigjcmjbaaA40
import Derived.Test.YtfoedfigjcmjbaaA62
namespace Go.Proofs.Ytfoedfigjcmjbaa.A
open Go.RowKit Go.Proofs.YtfoedfigjcmjbaaW.PrintWords Go.Proofs.YtfoedfigjcmjbaaW.PrintLast Go.Proofs.YtfoedfigjcmjbaaW.PrintMore
attribute [local go_sem] max2_int min2_int max_two min_two max_three min_three max_four min_four   -- for this text's walks alone
set_option linter.unusedVariables false
set_option linter.unusedSimpArgs false

/-! ### impl_areClocks: function 53 -/
-- given: proved by hand (areClocks.tpl)
def impl_areClocks.ok (c : S31) : Bool := decide ((1 ≤ c.f0 ∧ c.f0 ≤ 100000) ∧ (0 ≤ c.f1 ∧ c.f1 ≤ 100000))
def impl_areClocks.f (l0 : List S31) : Option Bool := some (decide (1 ≤ (l0.length : Int) ∧ (l0.length : Int) ≤ 6) && l0.all impl_areClocks.ok)
theorem impl_areClocks.within_eq (a b c : Int) : impl_within.f a b c = some (decide (b ≤ a ∧ a ≤ c)) := by
  unfold impl_within.f
  by_cases h : a ≥ b
  · rw [if_pos h]; have h' : b ≤ a := h; simp [h']
  · rw [if_neg h]; have h' : ¬ b ≤ a := h; simp [h']
theorem impl_areClocks.bad_eq (c : S31) : impl_areClocks_1.f c.f0 c.f1 = some (!impl_areClocks.ok c) := by
  unfold impl_areClocks_1.f impl_ValidClock.f impl_areClocks.ok
  rw [impl_areClocks.within_eq, impl_areClocks.within_eq]; simp only [Option.bind_some]
  by_cases h : 1 ≤ c.f0 ∧ c.f0 ≤ 100000 <;> by_cases k : 0 ≤ c.f1 ∧ c.f1 ≤ 100000 <;> simp [h, k]
theorem impl_areClocks.len_le {l0 : List S31} {w : World} {A0 : Option Addr} (h : Kd.C k31 w A0 l0.length l0) : l0.length ≤ 9223372036854775807 := Kd.C_max h
def impl_areClocks.Found (l0 : List S31) (w : World) (e : Ending) (w' : World) : Prop := ∃ r : Int, e = .returned (.int .i64 r) ∧ (decide (r ≥ 0) = !(l0.all impl_areClocks.ok)) ∧ Below w.heap.size w w'
theorem impl_areClocks.all_take {l0 : List S31} {k : Nat} (hk : k < l0.length) (h : (l0.take k).all impl_areClocks.ok = true) (hx : impl_areClocks.ok (rd_T31 l0 k) = true) : (l0.take (k + 1)).all impl_areClocks.ok = true := by
  rw [List.take_succ_eq_append_getElem hk, List.all_append, h]
  have : rd_T31 l0 k = l0[k] := by simp [rd_T31, hk]
  rw [this] at hx
  simp [hx]
theorem impl_areClocks.all_bad {l0 : List S31} {k : Nat} (hk : k < l0.length) (hx : impl_areClocks.ok (rd_T31 l0 k) = false) : l0.all impl_areClocks.ok = false := by
  have : rd_T31 l0 k = l0[k] := by simp [rd_T31, hk]
  rw [this] at hx
  rw [List.all_eq_false]
  exact ⟨_, List.getElem_mem hk, by simp [hx]⟩
set_option maxHeartbeats 1600000 in
set_option maxRecDepth 100000 in
theorem impl_areClocks.index (A0 : Option Addr) (c0 : Nat) (l0 : List S31) (w : World) (hr0 : Kd.C k31 w A0 l0.length l0) (hc0 : l0.length ≤ c0) :
    Calls Try.prog 63 #[.slice A0 l0.length c0, .func (.func 62) #[] #[]] w (impl_areClocks.Found l0 w) := by
  have HR0 := Aside0.mk hr0
  clear hr0
  have hlen := Kd.C_max HR0.out
  have hu31 := Try.underlying31
  go_enter Try.func63, Try.ntmps63
  go_wp2
  go_loopw [8] (fun v8 wr => ∃ k : Nat, k ≤ l0.length ∧ v8 = .int .i64 k ∧ Aside0 ((l0.take k).all impl_areClocks.ok = true) ∧ Below w.heap.size w wr) (fun v8 _ => l0.length - (intOf v8).toNat)
  case atStart => exact ⟨0, Nat.zero_le _, rfl, ⟨by simp⟩, Below.refl _ _⟩
  case round =>
    obtain ⟨k, hk, rfl, HA, hb⟩ := hrel
    by_cases hlt : k < l0.length
    · obtain ⟨ad, rfl, hx0, hx1⟩ := at_T31 (Kd.C_below HR0.out hb) (k : Int) (by omega) (by omega)
      rw [Int.toNat_natCast] at hx0 hx1
      have hbad := impl_areClocks.bad_eq (rd_T31 l0 k)
      cases hok : impl_areClocks.ok (rd_T31 l0 k) with
      | true =>
        rw [hok] at hbad
        have HT := Aside0.mk (impl_areClocks.all_take hlt HA.out hok)
        have HBD := Aside0.mk hbad
        clear HA hbad hok
        go_wp2_with (go_at_call 62; refine (impl_areClocks_1.calls _ _ _ _ HBD.out).mono ?_; rintro e w1 ⟨rfl, hb1⟩)
        go_roundw
        case rel => exact ⟨k + 1, by omega, by go_num, HT, below_then hb hb.size hb1⟩
        case measure => simp [intOf]; omega
      | false =>
        rw [hok] at hbad
        have HT := Aside0.mk (impl_areClocks.all_bad hlt hok)
        have HBD := Aside0.mk hbad
        clear HA hbad hok
        go_wp2_with (go_at_call 62; refine (impl_areClocks_1.calls _ _ _ _ HBD.out).mono ?_; rintro e w1 ⟨rfl, hb1⟩)
        go_ret
        exact ⟨k, rfl, by rw [HT.out]; simp, below_then hb hb.size hb1⟩
    · go_wp2
      go_ret
      refine ⟨-1, rfl, ?_, hb⟩
      have : l0.take k = l0 := List.take_of_length_le (by omega)
      rw [← this, HA.out]; simp
set_option maxHeartbeats 1600000 in
set_option maxRecDepth 100000 in
theorem impl_areClocks.contains (A0 : Option Addr) (c0 : Nat) (l0 : List S31) (w : World) (hr0 : Kd.C k31 w A0 l0.length l0) (hc0 : l0.length ≤ c0) :
    Calls Try.prog 61 #[.slice A0 l0.length c0, .func (.func 62) #[] #[]] w fun e w' => e = .returned (.bool (!(l0.all impl_areClocks.ok))) ∧ Below w.heap.size w w' := by
  have HI := Aside0.mk (impl_areClocks.index A0 c0 l0 w hr0 hc0)
  clear hr0 hc0
  go_enter Try.func61, Try.ntmps61
  go_wp2_with (go_at_call 63; refine HI.out.mono ?_; rintro e w1 ⟨r, rfl, hr, hb⟩; have HE := Aside0.mk hr; clear hr)
  go_ret
  exact ⟨by rw [← HE.out]; rfl, hb⟩
set_option maxHeartbeats 1600000 in
set_option maxRecDepth 100000 in
theorem impl_areClocks.calls (A0 : Option Addr) (c0 : Nat) (l0 : List S31) (r : Bool) (w : World) (hr0 : Kd.C k31 w A0 l0.length l0) (hc0 : l0.length ≤ c0) (h : impl_areClocks.f l0 = some r) :
    Calls Try.prog 53 #[.slice A0 l0.length c0] w fun e w' => e = .returned (.bool r) ∧ Below w.heap.size w w' := by
  obtain rfl := Option.some.inj h
  clear h
  have hw := impl_areClocks.within_eq (l0.length : Int) 1 6
  have hlen := Kd.C_max hr0
  by_cases hg : 1 ≤ (l0.length : Int) ∧ (l0.length : Int) ≤ 6
  · rw [decide_eq_true hg] at hw
    have HW := Aside0.mk hw
    have HG := Aside0.mk (decide_eq_true hg)
    have HC := Aside0.mk hr0
    clear hw hg hr0
    go_enter Try.func53, Try.ntmps53
    go_wp2_with (first
      | (go_at_call 40; refine (impl_within.calls _ _ _ _ _ HW.out).mono ?_; rintro e w1 ⟨rfl, ⟨m, rfl⟩⟩)
      | (go_at_call 61; refine (impl_areClocks.contains _ _ _ _ (Kd.C_drewN HC.out _) (by assumption)).mono ?_; rintro e w1 ⟨rfl, hb⟩))
    go_ret
    exact ⟨by rw [HG.out]; simp, below_step (pw_below_drewN (Below.refl _ _) _) hb⟩
  · rw [decide_eq_false hg] at hw
    have HW := Aside0.mk hw
    have HG := Aside0.mk (decide_eq_false hg)
    clear hw hg hr0
    go_enter Try.func53, Try.ntmps53
    go_wp2_with (go_at_call 40; refine (impl_within.calls _ _ _ _ _ HW.out).mono ?_; rintro e w1 ⟨rfl, ⟨m, rfl⟩⟩)
    go_ret
    exact ⟨by rw [HG.out]; simp, pw_below_drewN (Below.refl _ _) _⟩

end Go.Proofs.Ytfoedfigjcmjbaa.A
