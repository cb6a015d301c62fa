-- Printed by this session's oprint.py through the kit's printer.
import Derived.Test.YtgmnbpdfdagniaaZ22
import Derived.Test.YtgmnbpdfdagniaaA9
import Derived.Test.YtgmnbpdfdagniaaQ3
namespace Go.Proofs.Ytgmnbpdfdagniaa.A
open Go.RowKit Go.Proofs.YtgmnbpdfdagniaaW.PrintWords Go.Proofs.YtgmnbpdfdagniaaW.PrintLast Go.Proofs.YtgmnbpdfdagniaaW.PrintMore
attribute [local go_sem] max2_int min2_int max_two min_two max_three min_three max_four min_four   -- for this text's walks alone
set_option linter.unusedVariables false
set_option linter.unusedSimpArgs false

/-! ### spec_IsSafeQueue: function 12 -/
-- given: proved by hand (specissafequeue.tpl)
def spec_IsSafeQueue.f (k : Nat) (q0 q1 : Int) : Option Bool := if 100000 ≤ k then (if validQ q0 q1 = true then (brF 100000 q0 q1).bind fun r => some (!r.2) else some false) else none
theorem spec_IsSafeQueue.mono : ∀ q0 q1 k, LeO (spec_IsSafeQueue.f k q0 q1) (spec_IsSafeQueue.f (k + 1) q0 q1) := by
  intro q0 q1 k
  unfold spec_IsSafeQueue.f
  by_cases h : 100000 ≤ k
  · rw [if_pos h, if_pos (show 100000 ≤ k + 1 by omega)]; exact LeO.refl _
  · rw [if_neg h]; exact LeO.none _
set_option maxHeartbeats 1600000 in
theorem spec_IsSafeQueue.calls (k : Nat) (a0_0 : Int) (a0_1 : Int) (r : Bool) (w : World) (h : spec_IsSafeQueue.f k a0_0 a0_1 = some r) :
    Calls Try.prog 12 #[.agg #[.int .i64 a0_0, .int .i64 a0_1]] w fun e w' => e = .returned (.bool r) ∧ Below w.heap.size w w' := by
  unfold spec_IsSafeQueue.f at h
  by_cases hk : 100000 ≤ k
  · rw [if_pos hk] at h
    have HQ := Aside0.mk (blk_new w (boxQ a0_0 a0_1))
    have HB := Aside0.mk (below_alloc (Below.refl w.heap.size w) (boxQ a0_0 a0_1))
    obtain ⟨FU, hFU⟩ : ∃ FU : Nat, 100000 = FU := ⟨_, rfl⟩
    rw [hFU] at h
    clear hFU hk
    by_cases hv : validQ a0_0 a0_1 = true
    · rw [if_pos hv] at h
      replace h := Option.bind_eq_some_iff.1 h
      obtain ⟨⟨r1, r2⟩, h1, h⟩ := h
      have H := Aside0.mk h1
      have HV := Aside0.mk hv
      have hr := Option.some.inj h
      dsimp only at hr
      subst hr
      clear h hv h1
      go_enter Try.func12, Try.ntmps12
      go_wp2_with (first
        | (go_at_call 23; refine (valid_q w.heap.size a0_0 a0_1 _ ?hq).mono ?_; (case hq => exact HQ.out); rintro e w2 ⟨rfl, hB⟩; rw [HV.out]; have Q2 := Aside0.mk (blk_below HQ.out hB); have B2 := Aside0.mk (below_step HB.out hB); clear hB)
        | (go_at_call 24; refine (brF.calls FU w.heap.size a0_0 a0_1 r1 r2 _ ?hq H.out).mono ?_; (case hq => exact Q2.out); rintro e w3 ⟨rfl, hB⟩; have B3 := Aside0.mk (below_step B2.out hB); clear hB))
      go_ret
      exact ⟨rfl, B3.out⟩
    · rw [if_neg hv] at h
      have HV := Aside0.mk (show validQ a0_0 a0_1 = false by simpa using hv)
      have hr := Option.some.inj h
      subst hr
      clear h hv
      go_enter Try.func12, Try.ntmps12
      go_wp2_with (first
        | (go_at_call 23; refine (valid_q w.heap.size a0_0 a0_1 _ ?hq).mono ?_; (case hq => exact HQ.out); rintro e w2 ⟨rfl, hB⟩; rw [HV.out]; have B2 := Aside0.mk (below_step HB.out hB); clear hB))
      go_ret
      exact ⟨rfl, B2.out⟩
  · rw [if_neg hk] at h; cases h

end Go.Proofs.Ytgmnbpdfdagniaa.A
