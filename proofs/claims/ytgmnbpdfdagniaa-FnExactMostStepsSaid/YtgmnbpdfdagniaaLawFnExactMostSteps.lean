/- The row of the law FnExactMostSteps: for every input it returns true, and each argument reads behind the call as it read before; out of its pure statement. Written by this session's row2.py. No conditions. -/
import Derived.Test.YtgmnbpdfdagniaaRows
import Derived.Test.YtgmnbpdfdagniaaA8
import Derived.Test.YtgmnbpdfdagniaaZ47
import Derived.Test.YtgmnbpdfdagniaaZ24
import Derived.WalkKit
import Derived.ProofKit
import Derived.OpenShut
import Derived.ShutString
import Derived.ChangeOld
import Derived.Below
import Derived.SizedLaws
namespace Go.Proofs.Ytgmnbpdfdagniaa.fnExactMostSteps
open Go.ChangeShapes Go.WideShapes Go.ChangeAt Go.RowKit Go.Proofs.Ytgmnbpdfdagniaa.O Go.Proofs.YtgmnbpdfdagniaaW.PrintWords
open Go.ChangeMaps (open_string shut_string)
open Go.Proofs.Ytgmnbpdfdagniaa.A
set_option linter.unusedVariables false
theorem own : ownKnob Try.prog.godebug = none := by kernel_rfl
theorem laidOut : laidOutB Try.prog = true := by kernel_rfl
set_option maxHeartbeats 2000000 in
set_option maxRecDepth 100000 in
theorem lifted (os : Os) (started : os.Started) (H : Type) (enc : TypeId × Value → H) :
    ReturnsInHanded {} Try.checked os 8 .any (Rows.fnExactMostStepsSpec.pre6 enc Try.prog Try.f8 Rows.fnExactMostStepsRow.domain false) (Rows.fnExactMostStepsSpec.post enc Try.prog Try.f8 false true false false) := by
  refine returnsInHanded_of_change_sized (C := Try.checked) own started (by kernel_rfl) Try.func8
    (ChangeSpec.witness6 (enc := enc) (C := Try.checked) false ⟨#[], #[.agg #[.int .i64 0, .int .i64 0, .int .i64 0, .int .i64 0], .int .i64 0], []⟩ 12 (by kernel_rfl) (by kernel_rfl) (by kernel_rfl) (by kernel_rfl)) ?_
  intro W base args ds gs before hval0 hW hcnd hsz0 _
  have hval : ∀ (j : Nat) t v, Try.f8.params[j]? = some t → args[j]? = some v → Value.okWide Try.prog W .any base t v := hval0
  have hW' := hW
  obtain ⟨p, q, hA0, hV, rfl, hfz, hnd⟩ := hW
  have hA : DataW.TrodAll enc Try.prog W 0 (fun _ => true) true Try.f8.params.toList args.toList ds p := hA0
  rw [Try.params8] at hA hval
  obtain ⟨v0, vs0, d0, ds0, p0, q0, hargs, rfl, rfl, h0, r0⟩ := trodAll_cons hA
  obtain ⟨v1, vs1, d1, ds1, p1, q1, rfl, rfl, rfl, h1, r1⟩ := trodAll_cons r0
  obtain ⟨rfl, rfl, rfl⟩ := trodAll_nil r1
  obtain rfl : args = #[v0, v1] := by cases args; simp_all
  obtain ⟨rfl, rfl⟩ := trodVars_none hV
  have k0 := h0
  have lt0 : ∀ x ∈ p0, x.block < W.heap.size := by obtain ⟨m, hm⟩ := k0; exact DataW.trod_lt m _ _ _ hm
  obtain ⟨x0, hK0, hw0⟩ : ∃ x : S31, (k31).K W x v0.cells.toList ∧ Wf_T31 x := Opens.arg (Opens.mono (open_T31 W) (fun _ h => h)) h0
  obtain ⟨cs0, rfl, hsz0⟩ := okWide_struct Try.underlying31 (hval 0 31 v0 rfl rfl)
  have e0 : (Value.agg cs0).cells.toList = cs0.toList := by simp [Value.cells]
  rw [e0] at hK0
  have hcs0 := k31_open hK0
  obtain rfl : cs0 = #[.int .i64 x0.f0, .int .i64 x0.f1, .int .i64 x0.f2, .int .i64 x0.f3] := by cases cs0; simp_all
  have k1 := h1
  have lt1 : ∀ x ∈ p1, x.block < W.heap.size := by obtain ⟨m, hm⟩ := k1; exact DataW.trod_lt m _ _ _ hm
  obtain ⟨x1, hK1, hw1⟩ : ∃ x : Int, ((Kd.int .i64)).K W x v1.cells.toList ∧ Wf_i64 x := Opens.arg (Opens.mono (Opens.int Try.underlying2) (fun _ h => h)) h1
  obtain ⟨b1, rfl, _, _, y1⟩ := open_int Try.underlying2 (hval 1 2 v1 rfl rfl) h1
  have hcs1 : [Value.int .i64 b1] = [Value.int .i64 x1] := hK1
  simp at hcs1
  obtain rfl : x1 = b1 := hcs1.symm
  clear hA0 hval0 hsz0
  have h := Pure.FnExactMostSteps x0 x1 hw0 hw1
  refine (laws_FnExactMostSteps.calls x0.f0 x0.f1 x0.f2 x0.f3 _ true W  h).mono fun e W' ⟨he, hbd⟩ => ?_
  have bel : Below W.heap.size W W' := hbd
  subst he
  exact ⟨_, rfl, _, _, _, [], _, [], hW', trodAll_mk1 (shut_bool Try.underlying4 _), (trodAll_cons_mk (Below.trod laidOut (by kernel_rfl) (of_decide_eq_true (by kernel_rfl)) k0 bel lt0) (trodAll_cons_mk (Below.trod laidOut (by kernel_rfl) (of_decide_eq_true (by kernel_rfl)) k1 bel lt1) trodAll_mk0)), rfl, bel.frame _, fun h => by cases h⟩
theorem over : Rows.fnExactMostStepsRow.holds Try.pinned (OpenSpec.ofChange Rows.fnExactMostStepsSpec) :=
  OpenClaim.holds_of_wide 8 Try.f8 rfl rfl rfl rfl rfl rfl rfl ⟨rfl, rfl, rfl, rfl, rfl⟩ rfl rfl rfl rfl rfl (by kernel_rfl) Try.func8 (by kernel_rfl)
    (of_decide_eq_true (by kernel_rfl)) (by unfold Func.isWrapper; first | (rw [if_pos (by decide +kernel)]; kernel_rfl) | (rw [if_neg (by decide +kernel)]; exact ⟨rfl, rfl⟩))
    (fun os started H enc _ => lifted os started H enc)
theorem proved : Rows.FnExactMostStepsSaid := over
#print axioms proved
end Go.Proofs.Ytgmnbpdfdagniaa.fnExactMostSteps
namespace Go.Proofs.Ytgmnbpdfdagniaa
/-- The row, under a short name, for the claim. -/
theorem fnExactMostSteps_holds : Rows.FnExactMostStepsSaid := fnExactMostSteps.proved
end Go.Proofs.Ytgmnbpdfdagniaa
