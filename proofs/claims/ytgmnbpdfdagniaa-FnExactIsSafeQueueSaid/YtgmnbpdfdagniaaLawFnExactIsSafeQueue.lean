/- The row of the law FnExactIsSafeQueue: for every input it returns true, and each argument reads behind the call as it read before; out of its pure statement. Written by this session's row2.py. No conditions. -/
import Derived.Test.YtgmnbpdfdagniaaRows
import Derived.Test.YtgmnbpdfdagniaaA4
import Derived.Test.YtgmnbpdfdagniaaPureFnExactIsSafeQueue
import Derived.Test.YtgmnbpdfdagniaaZ22
import Derived.Test.YtgmnbpdfdagniaaAPureOfFnExactIsSafeQueue
import Derived.WalkKit
import Derived.ProofKit
import Derived.OpenShut
import Derived.ShutString
import Derived.ChangeOld
import Derived.Below
import Derived.SizedLaws
namespace Go.Proofs.Ytgmnbpdfdagniaa.fnExactIsSafeQueue
open Go.ChangeShapes Go.WideShapes Go.ChangeAt Go.RowKit Go.Proofs.Ytgmnbpdfdagniaa.O Go.Proofs.YtgmnbpdfdagniaaW.PrintWords
open Go.ChangeMaps (open_string shut_string)
open Go.Proofs.Ytgmnbpdfdagniaa.A
set_option linter.unusedVariables false
theorem own : ownKnob Try.prog.godebug = none := by kernel_rfl
theorem laidOut : laidOutB Try.prog = true := by kernel_rfl
set_option maxHeartbeats 2000000 in
set_option maxRecDepth 100000 in
theorem lifted (os : Os) (started : os.Started) (H : Type) (enc : TypeId × Value → H) :
    ReturnsInHanded {} Try.checked os 4 .any (Rows.fnExactIsSafeQueueSpec.pre6 enc Try.prog Try.f4 Rows.fnExactIsSafeQueueRow.domain false) (Rows.fnExactIsSafeQueueSpec.post enc Try.prog Try.f4 false true false false) := by
  refine returnsInHanded_of_change_sized (C := Try.checked) own started (by kernel_rfl) Try.func4
    (ChangeSpec.witness6 (enc := enc) (C := Try.checked) false ⟨#[], #[.agg #[.int .i64 0, .int .i64 0]], []⟩ 12 (by kernel_rfl) (by kernel_rfl) (by kernel_rfl) (by kernel_rfl)) ?_
  intro W base args ds gs before hval0 hW hcnd hsz0 _
  have hval : ∀ (j : Nat) t v, Try.f4.params[j]? = some t → args[j]? = some v → Value.okWide Try.prog W .any base t v := hval0
  have hW' := hW
  obtain ⟨p, q, hA0, hV, rfl, hfz, hnd⟩ := hW
  have hA : DataW.TrodAll enc Try.prog W 0 (fun _ => true) true Try.f4.params.toList args.toList ds p := hA0
  rw [Try.params4] at hA hval
  obtain ⟨v0, vs0, d0, ds0, p0, q0, hargs, rfl, rfl, h0, r0⟩ := trodAll_cons hA
  obtain ⟨rfl, rfl, rfl⟩ := trodAll_nil r0
  obtain rfl : args = #[v0] := by cases args; simp_all
  obtain ⟨rfl, rfl⟩ := trodVars_none hV
  have k0 := h0
  have lt0 : ∀ x ∈ p0, x.block < W.heap.size := by obtain ⟨m, hm⟩ := k0; exact DataW.trod_lt m _ _ _ hm
  obtain ⟨x0, hK0, hw0⟩ : ∃ x : S23, (k23).K W x v0.cells.toList ∧ Wf_T23 x := Opens.arg (Opens.mono (open_T23 W) (fun _ h => h)) h0
  obtain ⟨cs0, rfl, hsz0⟩ := okWide_struct Try.underlying23 (hval 0 23 v0 rfl rfl)
  have e0 : (Value.agg cs0).cells.toList = cs0.toList := by simp [Value.cells]
  rw [e0] at hK0
  have hcs0 := k23_open hK0
  obtain rfl : cs0 = #[.int .i64 x0.f0, .int .i64 x0.f1] := by cases cs0; simp_all
  clear hA0 hval0 hsz0
  obtain ⟨k, h⟩ := Pure.FnExactIsSafeQueue x0 hw0
  refine (laws_FnExactIsSafeQueue.calls k x0.f0 x0.f1 true W  h).mono fun e W' ⟨he, hbd⟩ => ?_
  have bel : Below W.heap.size W W' := hbd
  subst he
  exact ⟨_, rfl, _, _, _, [], _, [], hW', trodAll_mk1 (shut_bool Try.underlying4 _), (trodAll_cons_mk (Below.trod laidOut (by kernel_rfl) (of_decide_eq_true (by kernel_rfl)) k0 bel lt0) trodAll_mk0), rfl, bel.frame _, fun h => by cases h⟩
theorem over : Rows.fnExactIsSafeQueueRow.holds Try.pinned (OpenSpec.ofChange Rows.fnExactIsSafeQueueSpec) :=
  OpenClaim.holds_of_wide 4 Try.f4 rfl rfl rfl rfl rfl rfl rfl ⟨rfl, rfl, rfl, rfl, rfl⟩ rfl rfl rfl rfl rfl (by kernel_rfl) Try.func4 (by kernel_rfl)
    (of_decide_eq_true (by kernel_rfl)) (by unfold Func.isWrapper; first | (rw [if_pos (by decide +kernel)]; kernel_rfl) | (rw [if_neg (by decide +kernel)]; exact ⟨rfl, rfl⟩))
    (fun os started H enc _ => lifted os started H enc)
theorem proved : Rows.FnExactIsSafeQueueSaid := over
#print axioms proved
end Go.Proofs.Ytgmnbpdfdagniaa.fnExactIsSafeQueue
namespace Go.Proofs.Ytgmnbpdfdagniaa
/-- The row, under a short name, for the claim. -/
theorem fnExactIsSafeQueue_holds : Rows.FnExactIsSafeQueueSaid := fnExactIsSafeQueue.proved
end Go.Proofs.Ytgmnbpdfdagniaa
