-- Printed by this session's oprint.py through the kit's printer.
import Derived.Test.YtgmnbpdfdagniaaZ22
import Derived.Test.YtgmnbpdfdagniaaQ3
namespace Go.Proofs.Ytgmnbpdfdagniaa.A
open Go.RowKit Go.Proofs.YtgmnbpdfdagniaaW.PrintWords Go.Proofs.YtgmnbpdfdagniaaW.PrintLast Go.Proofs.YtgmnbpdfdagniaaW.PrintMore
attribute [local go_sem] max2_int min2_int max_two min_two max_three min_three max_four min_four   -- for this text's walks alone
set_option linter.unusedVariables false
set_option linter.unusedSimpArgs false

/-! ### spec_QueueFault: function 9 -/
-- given: proved by hand (specqueuefault.tpl)
def validQ (q0 q1 : Int) : Bool := decide ((q0 = 2 ∨ q0 = 4) ∧ 0 ≤ q1 ∧ q1 ≤ 1)
def spec_QueueFault.f (k : Nat) (q0 q1 : Int) : Option (ByteArray × Bool) := if 100000 ≤ k then (if validQ q0 q1 = true then brF 100000 q0 q1 else some (ByteArray.empty, false)) else none
theorem spec_QueueFault.mono : ∀ q0 q1 k, LeO (spec_QueueFault.f k q0 q1) (spec_QueueFault.f (k + 1) q0 q1) := by
  intro q0 q1 k
  unfold spec_QueueFault.f
  by_cases h : 100000 ≤ k
  · rw [if_pos h, if_pos (show 100000 ≤ k + 1 by omega)]; exact LeO.refl _
  · rw [if_neg h]; exact LeO.none _
theorem validQ_is (q0 q1 : Int) : spec_l05Queue.f q0 q1 = some (validQ q0 q1, q0, q1) := by
  have hi : spec_l00In.f q1 0 1 = some (decide (0 ≤ q1 ∧ q1 ≤ 1)) := by
    unfold spec_l00In.f
    by_cases h : q1 ≥ 0
    · rw [if_pos h]; congr 1; rw [decide_eq_decide]; omega
    · rw [if_neg h, decide_eq_false (fun z => h z.1)]
  unfold spec_l05Queue.f validQ
  by_cases h2 : q0 = 2
  · rw [if_pos h2, hi, Option.bind_some]; simp [h2]
  · rw [if_neg h2]
    by_cases h4 : q0 = 4
    · rw [if_pos h4, hi, Option.bind_some]; simp [h4]
    · rw [if_neg h4]; simp [h2, h4]
theorem valid_q (g : Nat) (q0 q1 : Int) (w : World) (hq : w.heap[g]? = some (boxQ q0 q1)) :
    Calls Try.prog 23 #[.pointer (some ⟨g, 0, none⟩)] w fun e w' => e = .returned (.bool (validQ q0 q1)) ∧ Below w.heap.size w w' := by
  refine (spec_l05Queue.calls g q0 q1 (validQ q0 q1) q0 q1 (bare w) w ⟨hq, Nat.zero_le _⟩ (bare_below w) (validQ_is q0 q1)).mono ?_
  rintro e w' ⟨he, hI, hB, hK⟩
  exact ⟨he, quiet_of_keep hq hI.1 hB hK⟩
set_option maxHeartbeats 1600000 in
theorem spec_QueueFault.calls (k : Nat) (a0_0 : Int) (a0_1 : Int) (r1 : ByteArray) (r2 : Bool) (w : World) (h : spec_QueueFault.f k a0_0 a0_1 = some (r1, r2)) :
    Calls Try.prog 9 #[.agg #[.int .i64 a0_0, .int .i64 a0_1]] w fun e w' => e = .returned (.tuple #[.string r1, .bool r2]) ∧ Below w.heap.size w w' := by
  unfold spec_QueueFault.f at h
  by_cases hk : 100000 ≤ k
  · rw [if_pos hk] at h
    have HQ := Aside0.mk (blk_new w (boxQ a0_0 a0_1))
    have HB := Aside0.mk (below_alloc (Below.refl w.heap.size w) (boxQ a0_0 a0_1))
    obtain ⟨FU, hFU⟩ : ∃ FU : Nat, 100000 = FU := ⟨_, rfl⟩
    rw [hFU] at h
    clear hFU hk
    by_cases hv : validQ a0_0 a0_1 = true
    · rw [if_pos hv] at h
      have H := Aside0.mk h
      have HV := Aside0.mk hv
      clear h hv
      go_enter Try.func9, Try.ntmps9
      go_wp2_with (first
        | (go_at_call 23; refine (valid_q w.heap.size a0_0 a0_1 _ ?hq).mono ?_; (case hq => exact HQ.out); rintro e w2 ⟨rfl, hB⟩; rw [HV.out]; have Q2 := Aside0.mk (blk_below HQ.out hB); have B2 := Aside0.mk (below_step HB.out hB); clear hB)
        | (go_at_call 24; refine (brF.calls FU w.heap.size a0_0 a0_1 r1 r2 _ ?hq H.out).mono ?_; (case hq => exact Q2.out); rintro e w3 ⟨rfl, hB⟩; have B3 := Aside0.mk (below_step B2.out hB); clear hB))
      go_ret2
      exact ⟨rfl, B3.out⟩
    · rw [if_neg hv] at h
      have HV := Aside0.mk (show validQ a0_0 a0_1 = false by simpa using hv)
      have hr := Option.some.inj h
      injection hr with e1 e2
      subst e1
      subst e2
      clear h hv
      go_enter Try.func9, Try.ntmps9
      go_wp2_with (first
        | (go_at_call 23; refine (valid_q w.heap.size a0_0 a0_1 _ ?hq).mono ?_; (case hq => exact HQ.out); rintro e w2 ⟨rfl, hB⟩; rw [HV.out]; have B2 := Aside0.mk (below_step HB.out hB); clear hB))
      go_ret2
      exact ⟨rfl, B2.out⟩
  · rw [if_neg hk] at h; cases h

end Go.Proofs.Ytgmnbpdfdagniaa.A
