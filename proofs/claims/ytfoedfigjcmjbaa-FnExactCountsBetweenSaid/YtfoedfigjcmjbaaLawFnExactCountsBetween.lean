/- The row of the law FnExactCountsBetween: for every input it returns true, and each argument reads behind the call as it read before; out of its pure statement. Written by this session's row2.py. No conditions. -/
import Derived.Test.YtfoedfigjcmjbaaRows
import Derived.Test.YtfoedfigjcmjbaaA6
import Derived.Test.YtfoedfigjcmjbaaPureFnExactCountsBetween
import Derived.Test.YtfoedfigjcmjbaaAOpens
import Derived.Test.YtfoedfigjcmjbaaAPureOfFnExactCountsBetween
import Derived.WalkKit
import Derived.ProofKit
import Derived.OpenShut
import Derived.ShutString
import Derived.ChangeOld
import Derived.Below
import Derived.SizedLaws
namespace Go.Proofs.Ytfoedfigjcmjbaa.fnExactCountsBetween
open Go.ChangeShapes Go.WideShapes Go.ChangeAt Go.RowKit Go.Proofs.Ytfoedfigjcmjbaa.O Go.Proofs.YtfoedfigjcmjbaaW.PrintWords
open Go.ChangeMaps (open_string shut_string)
open Go.Proofs.Ytfoedfigjcmjbaa.A
set_option linter.unusedVariables false
theorem own : ownKnob Try.prog.godebug = none := by kernel_rfl
theorem laidOut : laidOutB Try.prog = true := by kernel_rfl
set_option maxHeartbeats 2000000 in
set_option maxRecDepth 100000 in
theorem lifted (os : Os) (started : os.Started) (H : Type) (enc : TypeId × Value → H) :
    ReturnsInHanded {} Try.checked os 6 .any (Rows.fnExactCountsBetweenSpec.pre6 enc Try.prog Try.f6 Rows.fnExactCountsBetweenRow.domain false) (Rows.fnExactCountsBetweenSpec.post enc Try.prog Try.f6 false true false false) := by
  refine returnsInHanded_of_change_sized (C := Try.checked) own started (by kernel_rfl) Try.func6
    (ChangeSpec.witness6 (enc := enc) (C := Try.checked) false ⟨#[], #[.agg #[.int .i64 0, .int .i64 0], .agg #[.int .i64 0, .int .i64 0], .int .i64 0, .int .i64 0], []⟩ 12 (by kernel_rfl) (by kernel_rfl) (by kernel_rfl) (by kernel_rfl)) ?_
  intro W base args ds gs before hval0 hW hcnd hsz0 _
  have hval : ∀ (j : Nat) t v, Try.f6.params[j]? = some t → args[j]? = some v → Value.okWide Try.prog W .any base t v := hval0
  have hW' := hW
  obtain ⟨p, q, hA0, hV, rfl, hfz, hnd⟩ := hW
  have hA : DataW.TrodAll enc Try.prog W 0 (fun _ => true) true Try.f6.params.toList args.toList ds p := hA0
  rw [Try.params6] at hA hval
  obtain ⟨v0, vs0, d0, ds0, p0, q0, hargs, rfl, rfl, h0, r0⟩ := trodAll_cons hA
  obtain ⟨v1, vs1, d1, ds1, p1, q1, rfl, rfl, rfl, h1, r1⟩ := trodAll_cons r0
  obtain ⟨v2, vs2, d2, ds2, p2, q2, rfl, rfl, rfl, h2, r2⟩ := trodAll_cons r1
  obtain ⟨v3, vs3, d3, ds3, p3, q3, rfl, rfl, rfl, h3, r3⟩ := trodAll_cons r2
  obtain ⟨rfl, rfl, rfl⟩ := trodAll_nil r3
  obtain rfl : args = #[v0, v1, v2, v3] := by cases args; simp_all
  obtain ⟨rfl, rfl⟩ := trodVars_none hV
  have k0 := h0
  have lt0 : ∀ x ∈ p0, x.block < W.heap.size := by obtain ⟨m, hm⟩ := k0; exact DataW.trod_lt m _ _ _ hm
  obtain ⟨x0, hK0, hw0⟩ : ∃ x : S43, (k43).K W x v0.cells.toList ∧ Wf_T43 x := Opens.arg (Opens.mono (open_T43 W) (fun _ h => h)) h0
  obtain ⟨cs0, rfl, hsz0⟩ := okWide_struct Try.underlying43 (hval 0 43 v0 rfl rfl)
  have e0 : (Value.agg cs0).cells.toList = cs0.toList := by simp [Value.cells]
  rw [e0] at hK0
  have hcs0 := k43_open hK0
  obtain rfl : cs0 = #[.int .i64 x0.f0, .int .i64 x0.f1] := by cases cs0; simp_all
  have k1 := h1
  have lt1 : ∀ x ∈ p1, x.block < W.heap.size := by obtain ⟨m, hm⟩ := k1; exact DataW.trod_lt m _ _ _ hm
  obtain ⟨x1, hK1, hw1⟩ : ∃ x : S43, (k43).K W x v1.cells.toList ∧ Wf_T43 x := Opens.arg (Opens.mono (open_T43 W) (fun _ h => h)) h1
  obtain ⟨cs1, rfl, hsz1⟩ := okWide_struct Try.underlying43 (hval 1 43 v1 rfl rfl)
  have e1 : (Value.agg cs1).cells.toList = cs1.toList := by simp [Value.cells]
  rw [e1] at hK1
  have hcs1 := k43_open hK1
  obtain rfl : cs1 = #[.int .i64 x1.f0, .int .i64 x1.f1] := by cases cs1; simp_all
  have k2 := h2
  have lt2 : ∀ x ∈ p2, x.block < W.heap.size := by obtain ⟨m, hm⟩ := k2; exact DataW.trod_lt m _ _ _ hm
  obtain ⟨x2, hK2, hw2⟩ : ∃ x : Int, ((Kd.int .i64)).K W x v2.cells.toList ∧ Wf_i64 x := Opens.arg (Opens.mono (Opens.int Try.underlying2) (fun _ h => h)) h2
  obtain ⟨b2, rfl, _, _, y2⟩ := open_int Try.underlying2 (hval 2 2 v2 rfl rfl) h2
  have hcs2 : [Value.int .i64 b2] = [Value.int .i64 x2] := hK2
  simp at hcs2
  obtain rfl : x2 = b2 := hcs2.symm
  have k3 := h3
  have lt3 : ∀ x ∈ p3, x.block < W.heap.size := by obtain ⟨m, hm⟩ := k3; exact DataW.trod_lt m _ _ _ hm
  obtain ⟨x3, hK3, hw3⟩ : ∃ x : Int, ((Kd.int .i64)).K W x v3.cells.toList ∧ Wf_i64 x := Opens.arg (Opens.mono (Opens.int Try.underlying2) (fun _ h => h)) h3
  obtain ⟨b3, rfl, _, _, y3⟩ := open_int Try.underlying2 (hval 3 2 v3 rfl rfl) h3
  have hcs3 : [Value.int .i64 b3] = [Value.int .i64 x3] := hK3
  simp at hcs3
  obtain rfl : x3 = b3 := hcs3.symm
  clear hA0 hval0 hsz0
  obtain ⟨k, h⟩ := Pure.FnExactCountsBetween x0 x1 x2 x3 hw0 hw1 hw2 hw3
  refine (laws_FnExactCountsBetween.calls k x0.f0 x0.f1 x1.f0 x1.f1 _ _ true W  h).mono fun e W' ⟨he, hbd⟩ => ?_
  have bel : Below W.heap.size W W' := hbd
  subst he
  exact ⟨_, rfl, _, _, _, [], _, [], hW', trodAll_mk1 (shut_bool Try.underlying4 _), (trodAll_cons_mk (Below.trod laidOut (by kernel_rfl) (of_decide_eq_true (by kernel_rfl)) k0 bel lt0) (trodAll_cons_mk (Below.trod laidOut (by kernel_rfl) (of_decide_eq_true (by kernel_rfl)) k1 bel lt1) (trodAll_cons_mk (Below.trod laidOut (by kernel_rfl) (of_decide_eq_true (by kernel_rfl)) k2 bel lt2) (trodAll_cons_mk (Below.trod laidOut (by kernel_rfl) (of_decide_eq_true (by kernel_rfl)) k3 bel lt3) trodAll_mk0)))), rfl, bel.frame _, fun h => by cases h⟩
theorem over : Rows.fnExactCountsBetweenRow.holds Try.pinned (OpenSpec.ofChange Rows.fnExactCountsBetweenSpec) :=
  OpenClaim.holds_of_wide 6 Try.f6 rfl rfl rfl rfl rfl rfl rfl ⟨rfl, rfl, rfl, rfl, rfl⟩ rfl rfl rfl rfl rfl (by kernel_rfl) Try.func6 (by kernel_rfl)
    (of_decide_eq_true (by kernel_rfl)) (by unfold Func.isWrapper; first | (rw [if_pos (by decide +kernel)]; kernel_rfl) | (rw [if_neg (by decide +kernel)]; exact ⟨rfl, rfl⟩))
    (fun os started H enc _ => lifted os started H enc)
theorem proved : Rows.FnExactCountsBetweenSaid := over
#print axioms proved
end Go.Proofs.Ytfoedfigjcmjbaa.fnExactCountsBetween
namespace Go.Proofs.Ytfoedfigjcmjbaa
/-- The row, under a short name, for the claim. -/
theorem fnExactCountsBetween_holds : Rows.FnExactCountsBetweenSaid := fnExactCountsBetween.proved
end Go.Proofs.Ytfoedfigjcmjbaa
