-- Printed by this session's oprint.py through the kit's printer.
import Derived.Test.YtfoedfigjcmjbaaA0
import Derived.Test.YtfoedfigjcmjbaaA16
import Derived.Test.YtfoedfigjcmjbaaA17
import Derived.Test.YtfoedfigjcmjbaaA18
import Derived.Test.YtfoedfigjcmjbaaA20
import Derived.Test.YtfoedfigjcmjbaaA21
import Derived.Test.YtfoedfigjcmjbaaA22
import Derived.Test.YtfoedfigjcmjbaaA23
import Derived.Test.YtfoedfigjcmjbaaA24
namespace Go.Proofs.Ytfoedfigjcmjbaa.A
open Go.RowKit Go.Proofs.YtfoedfigjcmjbaaW.PrintWords Go.Proofs.YtfoedfigjcmjbaaW.PrintLast Go.Proofs.YtfoedfigjcmjbaaW.PrintMore
attribute [local go_sem] max2_int min2_int max_two min_two max_three min_three max_four min_four   -- for this text's walks alone
set_option linter.unusedVariables false
set_option linter.unusedSimpArgs false

/-! ### laws_FnClockEdges: function 5 -/
mutual
def laws_FnClockEdges.l0 : Nat → List Int → Int → Int → Int → Bool → Int → Bool → Int → Int → Int → Int → Option (Bool)
  | 0, _, _, _, _, _, _, _, _, _, _, _ => none
  | k + 1, x1, x6, x7, x8, x9, x10, x11, x12, x13, x235000, x235001 => if x13 < x7 then (if x13 ≥ x235001 then (if x235000 = 0 then (none) else (laws_FnClockEdges.j1 k x1 x6 x7 x8 x9 x10 x11 x12 x13 ((Int.tmod (wrap64 (x13 - x235001)) x235000) == 0) x235000 x235001)) else (laws_FnClockEdges.j1 k x1 x6 x7 x8 x9 x10 x11 x12 x13 false x235000 x235001)) else ((laws_r8At.f x1 2 50).bind fun t241 => ((impl_EdgeAt.f x235000 x235001 t241).bind fun bt242 => ((impl_CountEdgesIn.f k x235000 x235001 0 bt242.1).bind fun bt244 => ((laws_r8At.f x1 3 (wrap64 (x235000 + 1))).bind fun t246 => ((impl_WaveOf.f x235000 x235001 t246 120).bind fun bt247 => (if x9 = true then (if x11 = true then (if bt242.2 = true then (if bt244.2 = true then (if bt247.2 = true then (if x12 = x10 then (if x8 < x6 then (none) else (if x8 < x235001 then (none) else (if x235000 = 0 then (none) else (if (Int.tmod (wrap64 (x8 - x235001)) x235000) = 0 then (if bt244.1 = t241 then (if bt242.1 = (wrap64 (x235001 + (wrap64 (t241 * x235000)))) then (if (bt247.1.size : Int) = 120 then ((impl_ValidClock.f x235000 x235001).bind fun t249 => (laws_FnClockEdges.j2 k t246 bt247.1 (!t249) x235000 x235001)) else (none)) else (none)) else (none)) else (none))))) else (none)) else (none)) else (none)) else (none)) else (none)) else (none)))))))
def laws_FnClockEdges.j1 : Nat → List Int → Int → Int → Int → Bool → Int → Bool → Int → Int → Bool → Int → Int → Option (Bool)
  | 0, _, _, _, _, _, _, _, _, _, _, _, _ => none
  | k + 1, x1, x6, x7, x8, x9, x10, x11, x12, x13, x14, x235000, x235001 => if x14 = true then (if x13 < x8 then (some false) else (laws_FnClockEdges.l0 k x1 x6 x7 x8 x9 x10 x11 (wrap64 (x12 + 1)) (wrap64 (x13 + 1)) x235000 x235001)) else (laws_FnClockEdges.l0 k x1 x6 x7 x8 x9 x10 x11 x12 (wrap64 (x13 + 1)) x235000 x235001)
def laws_FnClockEdges.j2 : Nat → Int → ByteArray → Bool → Int → Int → Option (Bool)
  | 0, _, _, _, _, _ => none
  | k + 1, x20, x21, x169, x235000, x235001 => if x169 = true then (some false) else (laws_FnClockEdges.l1 k x20 x21 0 x235000 x235001)
def laws_FnClockEdges.l1 : Nat → Int → ByteArray → Int → Int → Int → Option (Bool)
  | 0, _, _, _, _, _ => none
  | k + 1, x20, x21, x23, x235000, x235001 => if x23 < 120 then (if x23 ≥ x235001 then (if x235000 = 0 then (none) else (if 0 ≤ x23 then (if x23 < (x21.size : Int) then (if (((bt x21 x23) == 49) != (decide ((Int.tmod (wrap64 (x23 - x235001)) x235000) < x20))) = true then (some false) else (laws_FnClockEdges.l1 k x20 x21 (wrap64 (x23 + 1)) x235000 x235001)) else (none)) else (none))) else (if 0 ≤ x23 then (if x23 < (x21.size : Int) then (if (((bt x21 x23) == 49) != false) = true then (some false) else (laws_FnClockEdges.l1 k x20 x21 (wrap64 (x23 + 1)) x235000 x235001)) else (none)) else (none))) else (some true)
end
def laws_FnClockEdges.f (k : Nat) (l0 : List Int) (l1 : List Int) : Option (Bool) := (laws_r8Long.f l0 l1).bind fun t231 => (if t231 = true then (some true) else ((spec_R8Clock.f l0).bind fun bt232 => ((laws_r8At.f l1 0 100).bind fun t235 => ((laws_r8At.f l1 1 100).bind fun t236 => ((impl_NextEdge.f bt232.1 bt232.2 t235).bind fun bt237 => ((impl_CountEdgesIn.f k bt232.1 bt232.2 t235 (wrap64 (t235 + t236))).bind fun bt239 => (laws_FnClockEdges.l0 k l1 t235 (wrap64 (t235 + t236)) bt237.1 bt237.2 bt239.1 bt239.2 0 t235 bt232.1 bt232.2)))))))
theorem laws_FnClockEdges.mono_l : ∀ k, (∀ y0 y1 y2 y3 y4 y5 y6 y7 y8 y9 y10, LeO (laws_FnClockEdges.l0 k y0 y1 y2 y3 y4 y5 y6 y7 y8 y9 y10) (laws_FnClockEdges.l0 (k + 1) y0 y1 y2 y3 y4 y5 y6 y7 y8 y9 y10)) ∧ (∀ y0 y1 y2 y3 y4 y5 y6 y7 y8 y9 y10 y11, LeO (laws_FnClockEdges.j1 k y0 y1 y2 y3 y4 y5 y6 y7 y8 y9 y10 y11) (laws_FnClockEdges.j1 (k + 1) y0 y1 y2 y3 y4 y5 y6 y7 y8 y9 y10 y11)) ∧ (∀ y0 y1 y2 y3 y4, LeO (laws_FnClockEdges.j2 k y0 y1 y2 y3 y4) (laws_FnClockEdges.j2 (k + 1) y0 y1 y2 y3 y4)) ∧ (∀ y0 y1 y2 y3 y4, LeO (laws_FnClockEdges.l1 k y0 y1 y2 y3 y4) (laws_FnClockEdges.l1 (k + 1) y0 y1 y2 y3 y4))
  | 0 => ⟨fun _ _ _ _ _ _ _ _ _ _ _ r h => by simp [laws_FnClockEdges.l0] at h, fun _ _ _ _ _ _ _ _ _ _ _ _ r h => by simp [laws_FnClockEdges.j1] at h, fun _ _ _ _ _ r h => by simp [laws_FnClockEdges.j2] at h, fun _ _ _ _ _ r h => by simp [laws_FnClockEdges.l1] at h⟩
  | k + 1 => by
    obtain ⟨ih0, ih1, ih2, ih3⟩ := laws_FnClockEdges.mono_l k
    refine ⟨?_, ?_, ?_, ?_⟩
    · intro y0 y1 y2 y3 y4 y5 y6 y7 y8 y9 y10
      unfold laws_FnClockEdges.l0
      repeat' first
      | (with_reducible exact ih0 _ _ _ _ _ _ _ _ _ _ _)
      | (with_reducible exact ih1 _ _ _ _ _ _ _ _ _ _ _ _)
      | (with_reducible exact ih2 _ _ _ _ _)
      | (with_reducible exact ih3 _ _ _ _ _)
      | (with_reducible exact impl_CountEdgesIn.mono _ _ _ _ _)
      | (with_reducible exact LeO.refl _)
      | (with_reducible exact LeO.none _)
      | (with_reducible refine LeO.ite ?_ ?_)
      | (with_reducible refine LeO.bind ?_ (fun _ => ?_))
      | exact ih0 _ _ _ _ _ _ _ _ _ _ _
      | exact ih1 _ _ _ _ _ _ _ _ _ _ _ _
      | exact ih2 _ _ _ _ _
      | exact ih3 _ _ _ _ _
      | exact impl_CountEdgesIn.mono _ _ _ _ _
      | exact LeO.none _
      | refine LeO.ite ?_ ?_
      | refine LeO.bind ?_ (fun _ => ?_)
    · intro y0 y1 y2 y3 y4 y5 y6 y7 y8 y9 y10 y11
      unfold laws_FnClockEdges.j1
      repeat' first
      | (with_reducible exact ih0 _ _ _ _ _ _ _ _ _ _ _)
      | (with_reducible exact ih1 _ _ _ _ _ _ _ _ _ _ _ _)
      | (with_reducible exact ih2 _ _ _ _ _)
      | (with_reducible exact ih3 _ _ _ _ _)
      | (with_reducible exact impl_CountEdgesIn.mono _ _ _ _ _)
      | (with_reducible exact LeO.refl _)
      | (with_reducible exact LeO.none _)
      | (with_reducible refine LeO.ite ?_ ?_)
      | (with_reducible refine LeO.bind ?_ (fun _ => ?_))
      | exact ih0 _ _ _ _ _ _ _ _ _ _ _
      | exact ih1 _ _ _ _ _ _ _ _ _ _ _ _
      | exact ih2 _ _ _ _ _
      | exact ih3 _ _ _ _ _
      | exact impl_CountEdgesIn.mono _ _ _ _ _
      | exact LeO.none _
      | refine LeO.ite ?_ ?_
      | refine LeO.bind ?_ (fun _ => ?_)
    · intro y0 y1 y2 y3 y4
      unfold laws_FnClockEdges.j2
      repeat' first
      | (with_reducible exact ih0 _ _ _ _ _ _ _ _ _ _ _)
      | (with_reducible exact ih1 _ _ _ _ _ _ _ _ _ _ _ _)
      | (with_reducible exact ih2 _ _ _ _ _)
      | (with_reducible exact ih3 _ _ _ _ _)
      | (with_reducible exact impl_CountEdgesIn.mono _ _ _ _ _)
      | (with_reducible exact LeO.refl _)
      | (with_reducible exact LeO.none _)
      | (with_reducible refine LeO.ite ?_ ?_)
      | (with_reducible refine LeO.bind ?_ (fun _ => ?_))
      | exact ih0 _ _ _ _ _ _ _ _ _ _ _
      | exact ih1 _ _ _ _ _ _ _ _ _ _ _ _
      | exact ih2 _ _ _ _ _
      | exact ih3 _ _ _ _ _
      | exact impl_CountEdgesIn.mono _ _ _ _ _
      | exact LeO.none _
      | refine LeO.ite ?_ ?_
      | refine LeO.bind ?_ (fun _ => ?_)
    · intro y0 y1 y2 y3 y4
      unfold laws_FnClockEdges.l1
      repeat' first
      | (with_reducible exact ih0 _ _ _ _ _ _ _ _ _ _ _)
      | (with_reducible exact ih1 _ _ _ _ _ _ _ _ _ _ _ _)
      | (with_reducible exact ih2 _ _ _ _ _)
      | (with_reducible exact ih3 _ _ _ _ _)
      | (with_reducible exact impl_CountEdgesIn.mono _ _ _ _ _)
      | (with_reducible exact LeO.refl _)
      | (with_reducible exact LeO.none _)
      | (with_reducible refine LeO.ite ?_ ?_)
      | (with_reducible refine LeO.bind ?_ (fun _ => ?_))
      | exact ih0 _ _ _ _ _ _ _ _ _ _ _
      | exact ih1 _ _ _ _ _ _ _ _ _ _ _ _
      | exact ih2 _ _ _ _ _
      | exact ih3 _ _ _ _ _
      | exact impl_CountEdgesIn.mono _ _ _ _ _
      | exact LeO.none _
      | refine LeO.ite ?_ ?_
      | refine LeO.bind ?_ (fun _ => ?_)
theorem laws_FnClockEdges.mono : ∀ a0 a1 k, LeO (laws_FnClockEdges.f k a0 a1) (laws_FnClockEdges.f (k + 1) a0 a1) := by
  intro a0 a1 k
  obtain ⟨ih0, ih1, ih2, ih3⟩ := laws_FnClockEdges.mono_l k
  unfold laws_FnClockEdges.f
  repeat' first
      | (with_reducible exact ih0 _ _ _ _ _ _ _ _ _ _ _)
      | (with_reducible exact ih1 _ _ _ _ _ _ _ _ _ _ _ _)
      | (with_reducible exact ih2 _ _ _ _ _)
      | (with_reducible exact ih3 _ _ _ _ _)
      | (with_reducible exact impl_CountEdgesIn.mono _ _ _ _ _)
      | (with_reducible exact LeO.refl _)
      | (with_reducible exact LeO.none _)
      | (with_reducible refine LeO.ite ?_ ?_)
      | (with_reducible refine LeO.bind ?_ (fun _ => ?_))
      | exact ih0 _ _ _ _ _ _ _ _ _ _ _
      | exact ih1 _ _ _ _ _ _ _ _ _ _ _ _
      | exact ih2 _ _ _ _ _
      | exact ih3 _ _ _ _ _
      | exact impl_CountEdgesIn.mono _ _ _ _ _
      | exact LeO.none _
      | refine LeO.ite ?_ ?_
      | refine LeO.bind ?_ (fun _ => ?_)
set_option maxHeartbeats 8000000 in
set_option maxRecDepth 100000 in
theorem laws_FnClockEdges.calls (k : Nat) (A0 : Option Addr) (c0 : Nat) (l0 : List Int) (A1 : Option Addr) (c1 : Nat) (l1 : List Int) (r : Bool) (w : World) (hr0 : Kd.C (Kd.int .u8) w A0 l0.length l0) (hc0 : l0.length ≤ c0) (hr1 : Kd.C (Kd.int .u8) w A1 l1.length l1) (hc1 : l1.length ≤ c1) (h : laws_FnClockEdges.f k l0 l1 = some r) :
    Calls Try.prog 5 #[.slice A0 l0.length c0, .slice A1 l1.length c1] w fun e w' => e = .returned (.bool r) ∧ Below w.heap.size w w' := by
  have hu31 := Try.underlying31
  have HR0 := Aside0.mk hr0
  have HC0 := Aside0.mk hc0
  clear hr0 hc0
  have HR1 := Aside0.mk hr1
  have HC1 := Aside0.mk hc1
  clear hr1 hc1
  have HB := Aside0.mk (Below.refl w.heap.size w)
  have H : ((laws_r8Long.f l0 l1).bind fun t231 => (if t231 = true then (some true) else ((spec_R8Clock.f l0).bind fun bt232 => ((laws_r8At.f l1 0 100).bind fun t235 => ((laws_r8At.f l1 1 100).bind fun t236 => ((impl_NextEdge.f bt232.1 bt232.2 t235).bind fun bt237 => ((impl_CountEdgesIn.f k bt232.1 bt232.2 t235 (wrap64 (t235 + t236))).bind fun bt239 => (laws_FnClockEdges.l0 k l1 t235 (wrap64 (t235 + t236)) bt237.1 bt237.2 bt239.1 bt239.2 0 t235 bt232.1 bt232.2)))))))) = some r := h
  clear h
  replace H := Option.bind_eq_some_iff.mp H
  obtain ⟨t231, A30, H⟩ := H
  replace H : (if t231 = true then (some true) else ((spec_R8Clock.f l0).bind fun bt232 => ((laws_r8At.f l1 0 100).bind fun t235 => ((laws_r8At.f l1 1 100).bind fun t236 => ((impl_NextEdge.f bt232.1 bt232.2 t235).bind fun bt237 => ((impl_CountEdgesIn.f k bt232.1 bt232.2 t235 (wrap64 (t235 + t236))).bind fun bt239 => (laws_FnClockEdges.l0 k l1 t235 (wrap64 (t235 + t236)) bt237.1 bt237.2 bt239.1 bt239.2 0 t235 bt232.1 bt232.2))))))) = some r := H
  have A3 := Aside0.mk A30
  clear A30
  by_cases c4 : t231 = true
  · subst c4
    have H1 : (some true) = some r := by rw [if_pos rfl] at H; exact H
    clear H
    have H := H1
    clear H1
    as_aux_lemma =>
      obtain rfl := Option.some.inj H
      go_enter Try.func5, Try.ntmps5
      go_wp2_with (first | ((with_reducible refine gate_callee (f := 16) rfl ?_); refine goesL_ (some 27) rfl rfl Try.func16 (by kernel_rfl) rfl #[.slice A0 l0.length c0, .slice A1 l1.length c1] rfl (by (try simp only [List.map_toArray, List.map_cons, List.map_nil]); first | done | rfl | (simp only [List.length_drop, List.length_take]; rfl)) ?_; (with_reducible refine (laws_r8Long.calls _ _ l0 _ _ l1 true _ ?side1 ?side2 ?side3 ?side4 A3.out).mono ?_); (case side1 => repeat (first | exact HR0.out | (with_reducible refine Kd.C_alloc ?_ _) | (with_reducible refine Kd.C_drewN ?_ _) | (with_reducible refine Kd.C_drew ?_))); (case side2 => exact HC0.out); (case side3 => repeat (first | exact HR1.out | (with_reducible refine Kd.C_alloc ?_ _) | (with_reducible refine Kd.C_drewN ?_ _) | (with_reducible refine Kd.C_drew ?_))); (case side4 => exact HC1.out); rintro e w' ⟨rfl, ⟨nd, rfl⟩⟩; refine ⟨_, rfl, ?_⟩))
      go_ret
      exact ⟨by first | rfl | (simp [errW_none, errW_some] <;> rfl) | (simp [*, errW_none, errW_some] <;> rfl), by repeat (first | (with_reducible first | exact HB.out | apply below_alloc | apply pw_below_drewN | apply below_drew1) | exact HB.out)⟩
  · replace c4 := Bool.eq_false_iff.mpr c4
    subst c4
    have H1 : ((spec_R8Clock.f l0).bind fun bt232 => ((laws_r8At.f l1 0 100).bind fun t235 => ((laws_r8At.f l1 1 100).bind fun t236 => ((impl_NextEdge.f bt232.1 bt232.2 t235).bind fun bt237 => ((impl_CountEdgesIn.f k bt232.1 bt232.2 t235 (wrap64 (t235 + t236))).bind fun bt239 => (laws_FnClockEdges.l0 k l1 t235 (wrap64 (t235 + t236)) bt237.1 bt237.2 bt239.1 bt239.2 0 t235 bt232.1 bt232.2)))))) = some r := by rw [if_neg (show ¬ (false = true) by decide)] at H; exact H
    clear H
    have H := H1
    clear H1
    replace H := Option.bind_eq_some_iff.mp H
    obtain ⟨⟨t232, t233⟩, A50, H⟩ := H
    replace H : ((laws_r8At.f l1 0 100).bind fun t235 => ((laws_r8At.f l1 1 100).bind fun t236 => ((impl_NextEdge.f t232 t233 t235).bind fun bt237 => ((impl_CountEdgesIn.f k t232 t233 t235 (wrap64 (t235 + t236))).bind fun bt239 => (laws_FnClockEdges.l0 k l1 t235 (wrap64 (t235 + t236)) bt237.1 bt237.2 bt239.1 bt239.2 0 t235 t232 t233))))) = some r := H
    have A5 := Aside0.mk A50
    clear A50
    replace H := Option.bind_eq_some_iff.mp H
    obtain ⟨t235, A60, H⟩ := H
    replace H : ((laws_r8At.f l1 1 100).bind fun t236 => ((impl_NextEdge.f t232 t233 t235).bind fun bt237 => ((impl_CountEdgesIn.f k t232 t233 t235 (wrap64 (t235 + t236))).bind fun bt239 => (laws_FnClockEdges.l0 k l1 t235 (wrap64 (t235 + t236)) bt237.1 bt237.2 bt239.1 bt239.2 0 t235 t232 t233)))) = some r := H
    have A6 := Aside0.mk A60
    clear A60
    replace H := Option.bind_eq_some_iff.mp H
    obtain ⟨t236, A70, H⟩ := H
    replace H : ((impl_NextEdge.f t232 t233 t235).bind fun bt237 => ((impl_CountEdgesIn.f k t232 t233 t235 (wrap64 (t235 + t236))).bind fun bt239 => (laws_FnClockEdges.l0 k l1 t235 (wrap64 (t235 + t236)) bt237.1 bt237.2 bt239.1 bt239.2 0 t235 t232 t233))) = some r := H
    have A7 := Aside0.mk A70
    clear A70
    replace H := Option.bind_eq_some_iff.mp H
    obtain ⟨⟨t237, t238⟩, A80, H⟩ := H
    replace H : ((impl_CountEdgesIn.f k t232 t233 t235 (wrap64 (t235 + t236))).bind fun bt239 => (laws_FnClockEdges.l0 k l1 t235 (wrap64 (t235 + t236)) t237 t238 bt239.1 bt239.2 0 t235 t232 t233)) = some r := H
    have A8 := Aside0.mk A80
    clear A80
    replace H := Option.bind_eq_some_iff.mp H
    obtain ⟨⟨t239, t240⟩, A90, H⟩ := H
    replace H : (laws_FnClockEdges.l0 k l1 t235 (wrap64 (t235 + t236)) t237 t238 t239 t240 0 t235 t232 t233) = some r := H
    have A9 := Aside0.mk A90
    clear A90
    have H' := Aside0.mk H
    clear H
    go_enter Try.func5, Try.ntmps5
    go_wp2_with (first | ((with_reducible refine gate_callee (f := 16) rfl ?_); refine goesL_ (some 27) rfl rfl Try.func16 (by kernel_rfl) rfl #[.slice A0 l0.length c0, .slice A1 l1.length c1] rfl (by (try simp only [List.map_toArray, List.map_cons, List.map_nil]); first | done | rfl | (simp only [List.length_drop, List.length_take]; rfl)) ?_; (with_reducible refine (laws_r8Long.calls _ _ l0 _ _ l1 false _ ?side1 ?side2 ?side3 ?side4 A3.out).mono ?_); (case side1 => repeat (first | exact HR0.out | (with_reducible refine Kd.C_alloc ?_ _) | (with_reducible refine Kd.C_drewN ?_ _) | (with_reducible refine Kd.C_drew ?_))); (case side2 => exact HC0.out); (case side3 => repeat (first | exact HR1.out | (with_reducible refine Kd.C_alloc ?_ _) | (with_reducible refine Kd.C_drewN ?_ _) | (with_reducible refine Kd.C_drew ?_))); (case side4 => exact HC1.out); rintro e w' ⟨rfl, ⟨nd, rfl⟩⟩; refine ⟨_, rfl, ?_⟩) | ((with_reducible refine gate_callee (f := 17) rfl ?_); refine goesL_ (some 29) rfl rfl Try.func17 (by kernel_rfl) rfl #[.slice A0 l0.length c0] rfl (by (try simp only [List.map_toArray, List.map_cons, List.map_nil]); first | done | rfl | (simp only [List.length_drop, List.length_take]; rfl)) ?_; (with_reducible refine (spec_R8Clock.calls _ _ l0 t232 t233 _ ?side1 ?side2 A5.out).mono ?_); (case side1 => repeat (first | exact HR0.out | (with_reducible refine Kd.C_alloc ?_ _) | (with_reducible refine Kd.C_drewN ?_ _) | (with_reducible refine Kd.C_drew ?_))); (case side2 => exact HC0.out); rintro e w10 ⟨rfl, hb⟩; refine ⟨_, rfl, ?_⟩; have n0_ := Aside0.mk (below_step (by repeat (first | (with_reducible first | exact HB.out | apply below_alloc | apply pw_below_drewN | apply below_drew1) | exact HB.out)) hb); clear HB; have HB := n0_; clear n0_; (try clear hb); (try clear hb2); (try clear hk); (try clear hi)) | ((with_reducible refine gate_dst (N := 5) rfl ?_); (try (refine gate_guard (by rfl) ?_; dsimp only)); refine box_event ?hg (N := 5) ?hd (cs := #[.int .i64 0, .int .i64 0]) (t := 31) ?hr ?_; (case hd => rfl); (case hg => rfl); (case hr => first | (go_simp; done) | (go_simp; rfl)); intro gb234 hg w11 hbox hb; have n0_ := Aside0.mk (below_step (by repeat (first | (with_reducible first | exact HB.out | apply below_alloc | apply pw_below_drewN | apply below_drew1) | exact HB.out)) hb); have n1_ := Aside0.mk (hbox); have n2_ := Aside0.mk ((by rw [hg]; exact (below_size (by repeat (first | (with_reducible first | exact HB.out | apply below_alloc | apply pw_below_drewN | apply below_drew1) | exact HB.out))) : w.heap.size ≤ gb234)); have n3_ := Aside0.mk ((by rw [hg]; exact (below_size (by repeat (first | (with_reducible first | exact HB.out | apply below_alloc | apply pw_below_drewN | apply below_drew1) | exact HB.out))) : w.heap.size ≤ gb234)); clear HB; have HB := n0_; have BK234 := n1_; have GW234 := n2_; have GE234 := n3_; clear n0_ n1_ n2_ n3_; clear hb hbox hg; have hcz12_0 : w11.cell? ⟨gb234, 0, none⟩ = some (.int .i64 0) := (blk_cell BK234.out 0).trans rfl; have hcz12_1 : w11.cell? ⟨gb234, 1, none⟩ = some (.int .i64 0) := (blk_cell BK234.out 1).trans rfl; have hfz12_0 := blk_frozen BK234.out 0; have hfz12_1 := blk_frozen BK234.out 1) | ((with_reducible refine gate_callee (f := 18) rfl ?_); refine goesL_ (some 31) rfl rfl Try.func18 (by kernel_rfl) rfl #[.slice A1 l1.length c1, .int .i64 0, .int .i64 100] rfl (by (try simp only [List.map_toArray, List.map_cons, List.map_nil]); first | done | rfl | (simp only [List.length_drop, List.length_take]; rfl)) ?_; (with_reducible refine (laws_r8At.calls _ _ l1 0 100 t235 _ ?side1 ?side2 A6.out).mono ?_); (case side1 => exact Kd.C_below HR1.out (by repeat (first | (with_reducible first | exact HB.out | apply below_alloc | apply pw_below_drewN | apply below_drew1 | refine below_set ?_ GE234.out) | exact HB.out))); (case side2 => exact HC1.out); rintro e w' ⟨rfl, ⟨nd, rfl⟩⟩; refine ⟨_, rfl, ?_⟩) | ((with_reducible refine gate_callee (f := 18) rfl ?_); refine goesL_ (some 34) rfl rfl Try.func18 (by kernel_rfl) rfl #[.slice A1 l1.length c1, .int .i64 1, .int .i64 100] rfl (by (try simp only [List.map_toArray, List.map_cons, List.map_nil]); first | done | rfl | (simp only [List.length_drop, List.length_take]; rfl)) ?_; (with_reducible refine (laws_r8At.calls _ _ l1 1 100 t236 _ ?side1 ?side2 A7.out).mono ?_); (case side1 => exact Kd.C_below HR1.out (by repeat (first | (with_reducible first | exact HB.out | apply below_alloc | apply pw_below_drewN | apply below_drew1 | refine below_set ?_ GE234.out) | exact HB.out))); (case side2 => exact HC1.out); rintro e w' ⟨rfl, ⟨nd, rfl⟩⟩; refine ⟨_, rfl, ?_⟩) | ((with_reducible refine gate_callee (f := 22) rfl ?_); refine goesL_ (some 39) rfl rfl Try.func22 (by kernel_rfl) rfl #[.agg #[.int .i64 t232, .int .i64 t233], .int .i64 t235] rfl (by (try simp only [List.map_toArray, List.map_cons, List.map_nil]); first | done | rfl | (simp only [List.length_drop, List.length_take]; rfl)) ?_; (with_reducible refine (impl_NextEdge.calls t232 t233 t235 t237 t238 _ A8.out).mono ?_); rintro e w13 ⟨rfl, hb⟩; refine ⟨_, rfl, ?_⟩; have n0_ := Aside0.mk (blk_below (g := gb234) (o := .cells #[.int .i64 t232, .int .i64 t233] 31 (0, 0)) (by (with_reducible repeat (first | refine blk_drewN ?_ _ | refine blk_drew ?_ | refine blk_alloc ?_ _)); refine blk_put (cs := #[.int .i64 t232, .int .i64 0]) ?_ 1 _ rfl; (with_reducible repeat (first | refine blk_drewN ?_ _ | refine blk_drew ?_ | refine blk_alloc ?_ _)); refine blk_put (cs := #[.int .i64 0, .int .i64 0]) ?_ 0 _ rfl; (with_reducible repeat (first | refine blk_drewN ?_ _ | refine blk_drew ?_ | refine blk_alloc ?_ _)); exact BK234.out) hb); have n1_ := Aside0.mk (below_step (by repeat (first | (with_reducible first | exact HB.out | apply below_alloc | apply pw_below_drewN | apply below_drew1 | refine below_set ?_ GE234.out) | exact HB.out)) hb); clear BK234; clear HB; have BK234 := n0_; have HB := n1_; clear n0_ n1_; (try clear hb); (try clear hb2); (try clear hk); (try clear hi); have hcz14_0 : w13.cell? ⟨gb234, 0, none⟩ = some (.int .i64 t232) := (blk_cell BK234.out 0).trans rfl; have hcz14_1 : w13.cell? ⟨gb234, 1, none⟩ = some (.int .i64 t233) := (blk_cell BK234.out 1).trans rfl; have hfz14_0 := blk_frozen BK234.out 0; have hfz14_1 := blk_frozen BK234.out 1) | ((with_reducible refine gate_callee (f := 21) rfl ?_); refine goesL_ (some 46) rfl rfl Try.func21 (by kernel_rfl) rfl #[.agg #[.int .i64 t232, .int .i64 t233], .int .i64 t235, .int .i64 (wrap64 (t235 + t236))] rfl (by (try simp only [List.map_toArray, List.map_cons, List.map_nil]); first | done | rfl | (simp only [List.length_drop, List.length_take]; rfl)) ?_; (with_reducible refine (impl_CountEdgesIn.calls k t232 t233 t235 (wrap64 (t235 + t236)) t239 t240 _ A9.out).mono ?_); rintro e w15 ⟨rfl, hb⟩; refine ⟨_, rfl, ?_⟩; have n0_ := Aside0.mk (blk_below (g := gb234) (o := .cells #[.int .i64 t232, .int .i64 t233] 31 (0, 0)) (by (with_reducible repeat (first | refine blk_drewN ?_ _ | refine blk_drew ?_ | refine blk_alloc ?_ _)); exact BK234.out) hb); have n1_ := Aside0.mk (below_step (by repeat (first | (with_reducible first | exact HB.out | apply below_alloc | apply pw_below_drewN | apply below_drew1 | refine below_set ?_ GE234.out) | exact HB.out)) hb); clear BK234; clear HB; have BK234 := n0_; have HB := n1_; clear n0_ n1_; (try clear hb); (try clear hb2); (try clear hk); (try clear hi)))
    go_loopg [12, 13] k (fun kq v12 v13 w' => ∃ (x12_1 : Int) (x13_1 : Int), v12 = .int .i64 x12_1 ∧ v13 = .int .i64 x13_1 ∧ Aside0 (laws_FnClockEdges.l0 kq l1 t235 (wrap64 (t235 + t236)) t237 t238 t239 t240 x12_1 x13_1 t232 t233 = some r) ∧ Aside0 (kq ≤ k) ∧ Aside0 (w'.heap[gb234]? = some (.cells #[.int .i64 t232, .int .i64 t233] 31 (0, 0))) ∧ Aside0 (Below w.heap.size w w'))
    case atStart => exact ⟨(0), (t235), (by first | rfl | (simp; done) | (simp [*]; done)), (by first | rfl | (simp; done) | (simp [*]; done)), H', ⟨Nat.le_refl _⟩, ⟨by (with_reducible repeat (first | refine blk_drewN ?_ _ | refine blk_drew ?_ | refine blk_alloc ?_ _)); exact BK234.out⟩, ⟨by repeat (first | (with_reducible first | exact HB.out | apply below_alloc | apply pw_below_drewN | apply below_drew1 | refine below_set ?_ GE234.out) | exact HB.out)⟩⟩
    case round =>
      clear H'
      try clear c1
      try clear c2
      try clear p2
      try clear c4
      try clear c5
      try clear p6
      try clear hcz12_0
      try clear hcz12_1
      try clear hcz14_0
      try clear hcz14_1
      try clear hfz12_0
      try clear hfz12_1
      try clear hfz14_0
      try clear hfz14_1
      obtain ⟨x12_1, x13_1, rfl, rfl, HA, HK1, BK234, HB⟩ := hrel
      cases gk with
      | zero => exact absurd HA.out (by simp [laws_FnClockEdges.l0])
      | succ k1 =>
        have H := HA.out
        clear HA
        simp only [laws_FnClockEdges.l0] at H
        by_cases c16 : x13_1 < (wrap64 (t235 + t236))
        · rw [if_pos c16] at H
          have c16b0 : decide (x13_1 < (wrap64 (t235 + t236))) = true := decide_eq_true c16
          clear c16
          have HC17 := Aside0.mk H
          clear H
          go_upto_region 12 with (fail)
          go_cut [14] (fun v14 wc => ∃ (kq : Nat) (x14_16 : Bool), v14 = .bool x14_16 ∧ Aside0 (laws_FnClockEdges.j1 kq l1 t235 (wrap64 (t235 + t236)) t237 t238 t239 t240 x12_1 x13_1 x14_16 t232 t233 = some r) ∧ Aside0 (kq ≤ k1) ∧ Aside0 (wc.heap[gb234]? = some (.cells #[.int .i64 t232, .int .i64 t233] 31 (0, 0))) ∧ Aside0 (Below w.heap.size w wc))
          case first =>
            have H := HC17.out
            clear HC17
            by_cases c18 : x13_1 ≥ t233
            · rw [if_pos c18] at H
              have c18b0 : decide (t233 ≤ x13_1) = true := decide_eq_true c18
              clear c18
              (first | rw [c18b0] | (simp only [i64_w, i32_w]; rw [c18b0]) | skip)
              by_cases c19 : t232 = 0
              · rw [if_pos c19] at H
                exact absurd H (by simp)
              · rw [if_neg c19] at H
                have c19b0 : (t232 == 0) = false := beq_eq_false_iff_ne.mpr c19
                have c19b1 : (t232 != 0) = true := bne_iff_ne.mpr c19
                as_aux_lemma =>
                  have H' := Aside0.mk H
                  clear H
                  have hcz20_0 : wr.cell? ⟨gb234, 0, none⟩ = some (.int .i64 t232) := (blk_cell BK234.out 0).trans rfl
                  have hcz20_1 : wr.cell? ⟨gb234, 1, none⟩ = some (.int .i64 t233) := (blk_cell BK234.out 1).trans rfl
                  have hfz20_0 := blk_frozen BK234.out 0
                  have hfz20_1 := blk_frozen BK234.out 1
                  go_wp2
                  go_meet
                  case rel => exact ⟨_, (((Int.tmod (wrap64 (x13_1 - t233)) t232) == 0)), (by first | rfl | (simp; done) | (simp [*]; done)), H', ⟨by have := HK1.out; first | omega | exact Nat.le_refl _⟩, ⟨by (with_reducible repeat (first | refine blk_drewN ?_ _ | refine blk_drew ?_ | refine blk_alloc ?_ _)); exact BK234.out⟩, ⟨by repeat (first | (with_reducible first | exact HB.out | apply below_alloc | apply pw_below_drewN | apply below_drew1 | refine below_set ?_ GE234.out) | exact HB.out)⟩⟩
            · rw [if_neg c18] at H
              have c18b0 : decide (t233 ≤ x13_1) = false := decide_eq_false c18
              clear c18
              (first | rw [c18b0] | (simp only [i64_w, i32_w]; rw [c18b0]) | skip)
              as_aux_lemma =>
                have H' := Aside0.mk H
                clear H
                have hcz21_0 : wr.cell? ⟨gb234, 0, none⟩ = some (.int .i64 t232) := (blk_cell BK234.out 0).trans rfl
                have hcz21_1 : wr.cell? ⟨gb234, 1, none⟩ = some (.int .i64 t233) := (blk_cell BK234.out 1).trans rfl
                have hfz21_0 := blk_frozen BK234.out 0
                have hfz21_1 := blk_frozen BK234.out 1
                go_wp2
                go_meet
                case rel => exact ⟨_, (false), (by first | rfl | (simp; done) | (simp [*]; done)), H', ⟨by have := HK1.out; first | omega | exact Nat.le_refl _⟩, ⟨by (with_reducible repeat (first | refine blk_drewN ?_ _ | refine blk_drew ?_ | refine blk_alloc ?_ _)); exact BK234.out⟩, ⟨by repeat (first | (with_reducible first | exact HB.out | apply below_alloc | apply pw_below_drewN | apply below_drew1 | refine below_set ?_ GE234.out) | exact HB.out)⟩⟩
          case rest =>
            clear HC17
            try clear c1
            try clear c2
            try clear p2
            try clear c4
            try clear c5
            try clear p6
            try clear c16
            try clear c16b0
            try clear c17
            try clear c18
            try clear c18b0
            try clear c19
            try clear c19b0
            try clear c19b1
            try clear c21
            try clear hcz12_0
            try clear hcz12_1
            try clear hcz14_0
            try clear hcz14_1
            try clear hcz20_0
            try clear hcz20_1
            try clear hcz21_0
            try clear hcz21_1
            try clear hfz12_0
            try clear hfz12_1
            try clear hfz14_0
            try clear hfz14_1
            try clear hfz20_0
            try clear hfz20_1
            try clear hfz21_0
            try clear hfz21_1
            try clear p2
            try clear p6
            obtain ⟨kq, x14_16, rfl, HA, HJ16, BK234, HB⟩ := hcut
            cases kq with
            | zero => exact absurd HA.out (by simp [laws_FnClockEdges.j1])
            | succ kj16 =>
              have H := HA.out
              clear HA
              simp only [laws_FnClockEdges.j1] at H
              by_cases c22 : x14_16 = true
              · subst c22
                have H1 : (if x13_1 < t237 then (some false) else (laws_FnClockEdges.l0 kj16 l1 t235 (wrap64 (t235 + t236)) t237 t238 t239 t240 (wrap64 (x12_1 + 1)) (wrap64 (x13_1 + 1)) t232 t233)) = some r := by rw [if_pos rfl] at H; exact H
                clear H
                have H := H1
                clear H1
                by_cases c23 : x13_1 < t237
                · rw [if_pos c23] at H
                  have c23b0 : decide (x13_1 < t237) = true := decide_eq_true c23
                  clear c23
                  as_aux_lemma =>
                    obtain rfl := Option.some.inj H
                    go_wp2
                    go_ret
                    exact ⟨by first | rfl | (simp [errW_none, errW_some] <;> rfl) | (simp [*, errW_none, errW_some] <;> rfl), by repeat (first | (with_reducible first | exact HB.out | apply below_alloc | apply pw_below_drewN | apply below_drew1 | refine below_set ?_ GE234.out) | exact HB.out)⟩
                · rw [if_neg c23] at H
                  have c23b0 : decide (x13_1 < t237) = false := decide_eq_false c23
                  clear c23
                  as_aux_lemma =>
                    have H' := Aside0.mk H
                    clear H
                    go_wp2
                    go_roundg kj16
                    case measure => have := HK1.out; have := HJ16.out; omega
                    case rel => exact ⟨(wrap64 (x12_1 + 1)), (wrap64 (x13_1 + 1)), (by first | rfl | (simp; done) | (simp [*]; done)), (by first | rfl | (simp; done) | (simp [*]; done)), H', ⟨by have := HK1.out; have := HJ16.out; omega⟩, ⟨by (with_reducible repeat (first | refine blk_drewN ?_ _ | refine blk_drew ?_ | refine blk_alloc ?_ _)); exact BK234.out⟩, ⟨by repeat (first | (with_reducible first | exact HB.out | apply below_alloc | apply pw_below_drewN | apply below_drew1 | refine below_set ?_ GE234.out) | exact HB.out)⟩⟩
              · replace c22 := Bool.eq_false_iff.mpr c22
                subst c22
                have H1 : (laws_FnClockEdges.l0 kj16 l1 t235 (wrap64 (t235 + t236)) t237 t238 t239 t240 x12_1 (wrap64 (x13_1 + 1)) t232 t233) = some r := by rw [if_neg (show ¬ (false = true) by decide)] at H; exact H
                clear H
                have H := H1
                clear H1
                as_aux_lemma =>
                  have H' := Aside0.mk H
                  clear H
                  go_wp2
                  go_roundg kj16
                  case measure => have := HK1.out; have := HJ16.out; omega
                  case rel => exact ⟨(x12_1), (wrap64 (x13_1 + 1)), (by first | rfl | (simp; done) | (simp [*]; done)), (by first | rfl | (simp; done) | (simp [*]; done)), H', ⟨by have := HK1.out; have := HJ16.out; omega⟩, ⟨by (with_reducible repeat (first | refine blk_drewN ?_ _ | refine blk_drew ?_ | refine blk_alloc ?_ _)); exact BK234.out⟩, ⟨by repeat (first | (with_reducible first | exact HB.out | apply below_alloc | apply pw_below_drewN | apply below_drew1 | refine below_set ?_ GE234.out) | exact HB.out)⟩⟩
        · rw [if_neg c16] at H
          have c16b0 : decide (x13_1 < (wrap64 (t235 + t236))) = false := decide_eq_false c16
          clear c16
          replace H := Option.bind_eq_some_iff.mp H
          obtain ⟨t241, A240, H⟩ := H
          replace H : ((impl_EdgeAt.f t232 t233 t241).bind fun bt242 => ((impl_CountEdgesIn.f k1 t232 t233 0 bt242.1).bind fun bt244 => ((laws_r8At.f l1 3 (wrap64 (t232 + 1))).bind fun t246 => ((impl_WaveOf.f t232 t233 t246 120).bind fun bt247 => (if t238 = true then (if t240 = true then (if bt242.2 = true then (if bt244.2 = true then (if bt247.2 = true then (if x12_1 = t239 then (if t237 < t235 then (none) else (if t237 < t233 then (none) else (if t232 = 0 then (none) else (if (Int.tmod (wrap64 (t237 - t233)) t232) = 0 then (if bt244.1 = t241 then (if bt242.1 = (wrap64 (t233 + (wrap64 (t241 * t232)))) then (if (bt247.1.size : Int) = 120 then ((impl_ValidClock.f t232 t233).bind fun t249 => (laws_FnClockEdges.j2 k1 t246 bt247.1 (!t249) t232 t233)) else (none)) else (none)) else (none)) else (none))))) else (none)) else (none)) else (none)) else (none)) else (none)) else (none)))))) = some r := H
          have A24 := Aside0.mk A240
          clear A240
          replace H := Option.bind_eq_some_iff.mp H
          obtain ⟨⟨t242, t243⟩, A250, H⟩ := H
          replace H : ((impl_CountEdgesIn.f k1 t232 t233 0 t242).bind fun bt244 => ((laws_r8At.f l1 3 (wrap64 (t232 + 1))).bind fun t246 => ((impl_WaveOf.f t232 t233 t246 120).bind fun bt247 => (if t238 = true then (if t240 = true then (if t243 = true then (if bt244.2 = true then (if bt247.2 = true then (if x12_1 = t239 then (if t237 < t235 then (none) else (if t237 < t233 then (none) else (if t232 = 0 then (none) else (if (Int.tmod (wrap64 (t237 - t233)) t232) = 0 then (if bt244.1 = t241 then (if t242 = (wrap64 (t233 + (wrap64 (t241 * t232)))) then (if (bt247.1.size : Int) = 120 then ((impl_ValidClock.f t232 t233).bind fun t249 => (laws_FnClockEdges.j2 k1 t246 bt247.1 (!t249) t232 t233)) else (none)) else (none)) else (none)) else (none))))) else (none)) else (none)) else (none)) else (none)) else (none)) else (none))))) = some r := H
          have A25 := Aside0.mk A250
          clear A250
          replace H := Option.bind_eq_some_iff.mp H
          obtain ⟨⟨t244, t245⟩, A260, H⟩ := H
          replace H : ((laws_r8At.f l1 3 (wrap64 (t232 + 1))).bind fun t246 => ((impl_WaveOf.f t232 t233 t246 120).bind fun bt247 => (if t238 = true then (if t240 = true then (if t243 = true then (if t245 = true then (if bt247.2 = true then (if x12_1 = t239 then (if t237 < t235 then (none) else (if t237 < t233 then (none) else (if t232 = 0 then (none) else (if (Int.tmod (wrap64 (t237 - t233)) t232) = 0 then (if t244 = t241 then (if t242 = (wrap64 (t233 + (wrap64 (t241 * t232)))) then (if (bt247.1.size : Int) = 120 then ((impl_ValidClock.f t232 t233).bind fun t249 => (laws_FnClockEdges.j2 k1 t246 bt247.1 (!t249) t232 t233)) else (none)) else (none)) else (none)) else (none))))) else (none)) else (none)) else (none)) else (none)) else (none)) else (none)))) = some r := H
          have A26 := Aside0.mk A260
          clear A260
          replace H := Option.bind_eq_some_iff.mp H
          obtain ⟨t246, A270, H⟩ := H
          replace H : ((impl_WaveOf.f t232 t233 t246 120).bind fun bt247 => (if t238 = true then (if t240 = true then (if t243 = true then (if t245 = true then (if bt247.2 = true then (if x12_1 = t239 then (if t237 < t235 then (none) else (if t237 < t233 then (none) else (if t232 = 0 then (none) else (if (Int.tmod (wrap64 (t237 - t233)) t232) = 0 then (if t244 = t241 then (if t242 = (wrap64 (t233 + (wrap64 (t241 * t232)))) then (if (bt247.1.size : Int) = 120 then ((impl_ValidClock.f t232 t233).bind fun t249 => (laws_FnClockEdges.j2 k1 t246 bt247.1 (!t249) t232 t233)) else (none)) else (none)) else (none)) else (none))))) else (none)) else (none)) else (none)) else (none)) else (none)) else (none))) = some r := H
          have A27 := Aside0.mk A270
          clear A270
          replace H := Option.bind_eq_some_iff.mp H
          obtain ⟨⟨t247, t248⟩, A280, H⟩ := H
          replace H : (if t238 = true then (if t240 = true then (if t243 = true then (if t245 = true then (if t248 = true then (if x12_1 = t239 then (if t237 < t235 then (none) else (if t237 < t233 then (none) else (if t232 = 0 then (none) else (if (Int.tmod (wrap64 (t237 - t233)) t232) = 0 then (if t244 = t241 then (if t242 = (wrap64 (t233 + (wrap64 (t241 * t232)))) then (if (t247.size : Int) = 120 then ((impl_ValidClock.f t232 t233).bind fun t249 => (laws_FnClockEdges.j2 k1 t246 t247 (!t249) t232 t233)) else (none)) else (none)) else (none)) else (none))))) else (none)) else (none)) else (none)) else (none)) else (none)) else (none)) = some r := H
          have A28 := Aside0.mk A280
          clear A280
          have HC29 := Aside0.mk H
          clear H
          go_upto_region 22 with (first | ((with_reducible refine gate_callee (f := 18) rfl ?_); refine goesL_ (some 76) rfl rfl Try.func18 (by kernel_rfl) rfl #[.slice A1 l1.length c1, .int .i64 2, .int .i64 50] rfl (by (try simp only [List.map_toArray, List.map_cons, List.map_nil]); first | done | rfl | (simp only [List.length_drop, List.length_take]; rfl)) ?_; (with_reducible refine (laws_r8At.calls _ _ l1 2 50 t241 _ ?side1 ?side2 A24.out).mono ?_); (case side1 => repeat (first | exact (Kd.C_below HR1.out HB.out) | (with_reducible refine Kd.C_alloc ?_ _) | (with_reducible refine Kd.C_drewN ?_ _) | (with_reducible refine Kd.C_drew ?_))); (case side2 => exact HC1.out); rintro e w' ⟨rfl, ⟨nd, rfl⟩⟩; refine ⟨_, rfl, ?_⟩; have hcz30_0 : wr.cell? ⟨gb234, 0, none⟩ = some (.int .i64 t232) := (blk_cell BK234.out 0).trans rfl; have hcz30_1 : wr.cell? ⟨gb234, 1, none⟩ = some (.int .i64 t233) := (blk_cell BK234.out 1).trans rfl; have hfz30_0 := blk_frozen BK234.out 0; have hfz30_1 := blk_frozen BK234.out 1) | ((with_reducible refine gate_callee (f := 20) rfl ?_); refine goesL_ (some 80) rfl rfl Try.func20 (by kernel_rfl) rfl #[.agg #[.int .i64 t232, .int .i64 t233], .int .i64 t241] rfl (by (try simp only [List.map_toArray, List.map_cons, List.map_nil]); first | done | rfl | (simp only [List.length_drop, List.length_take]; rfl)) ?_; (with_reducible refine (impl_EdgeAt.calls t232 t233 t241 t242 t243 _ A25.out).mono ?_); rintro e w31 ⟨rfl, hb⟩; refine ⟨_, rfl, ?_⟩; have n0_ := Aside0.mk (blk_below (g := gb234) (o := .cells #[.int .i64 t232, .int .i64 t233] 31 (0, 0)) (by (with_reducible repeat (first | refine blk_drewN ?_ _ | refine blk_drew ?_ | refine blk_alloc ?_ _)); exact BK234.out) hb); have n1_ := Aside0.mk (below_step (by repeat (first | (with_reducible first | exact HB.out | apply below_alloc | apply pw_below_drewN | apply below_drew1 | refine below_set ?_ GE234.out) | exact HB.out)) hb); clear BK234; clear HB; have BK234 := n0_; have HB := n1_; clear n0_ n1_; (try clear hb); (try clear hb2); (try clear hk); (try clear hi); have hcz32_0 : w31.cell? ⟨gb234, 0, none⟩ = some (.int .i64 t232) := (blk_cell BK234.out 0).trans rfl; have hcz32_1 : w31.cell? ⟨gb234, 1, none⟩ = some (.int .i64 t233) := (blk_cell BK234.out 1).trans rfl; have hfz32_0 := blk_frozen BK234.out 0; have hfz32_1 := blk_frozen BK234.out 1) | ((with_reducible refine gate_callee (f := 21) rfl ?_); refine goesL_ (some 86) rfl rfl Try.func21 (by kernel_rfl) rfl #[.agg #[.int .i64 t232, .int .i64 t233], .int .i64 0, .int .i64 t242] rfl (by (try simp only [List.map_toArray, List.map_cons, List.map_nil]); first | done | rfl | (simp only [List.length_drop, List.length_take]; rfl)) ?_; (with_reducible refine (impl_CountEdgesIn.calls k1 t232 t233 0 t242 t244 t245 _ A26.out).mono ?_); rintro e w33 ⟨rfl, hb⟩; refine ⟨_, rfl, ?_⟩; have n0_ := Aside0.mk (blk_below (g := gb234) (o := .cells #[.int .i64 t232, .int .i64 t233] 31 (0, 0)) (by (with_reducible repeat (first | refine blk_drewN ?_ _ | refine blk_drew ?_ | refine blk_alloc ?_ _)); exact BK234.out) hb); have n1_ := Aside0.mk (below_step (by repeat (first | (with_reducible first | exact HB.out | apply below_alloc | apply pw_below_drewN | apply below_drew1 | refine below_set ?_ GE234.out) | exact HB.out)) hb); clear BK234; clear HB; have BK234 := n0_; have HB := n1_; clear n0_ n1_; (try clear hb); (try clear hb2); (try clear hk); (try clear hi); have hcz34_0 : w33.cell? ⟨gb234, 0, none⟩ = some (.int .i64 t232) := (blk_cell BK234.out 0).trans rfl; have hcz34_1 : w33.cell? ⟨gb234, 1, none⟩ = some (.int .i64 t233) := (blk_cell BK234.out 1).trans rfl; have hfz34_0 := blk_frozen BK234.out 0; have hfz34_1 := blk_frozen BK234.out 1) | ((with_reducible refine gate_callee (f := 18) rfl ?_); refine goesL_ (some 93) rfl rfl Try.func18 (by kernel_rfl) rfl #[.slice A1 l1.length c1, .int .i64 3, .int .i64 (wrap64 (t232 + 1))] rfl (by (try simp only [List.map_toArray, List.map_cons, List.map_nil]); first | done | rfl | (simp only [List.length_drop, List.length_take]; rfl)) ?_; (with_reducible refine (laws_r8At.calls _ _ l1 3 (wrap64 (t232 + 1)) t246 _ ?side1 ?side2 A27.out).mono ?_); (case side1 => repeat (first | exact (Kd.C_below HR1.out HB.out) | (with_reducible refine Kd.C_alloc ?_ _) | (with_reducible refine Kd.C_drewN ?_ _) | (with_reducible refine Kd.C_drew ?_))); (case side2 => exact HC1.out); rintro e w' ⟨rfl, ⟨nd, rfl⟩⟩; refine ⟨_, rfl, ?_⟩) | ((with_reducible refine gate_callee (f := 23) rfl ?_); refine goesL_ (some 97) rfl rfl Try.func23 (by kernel_rfl) rfl #[.agg #[.int .i64 t232, .int .i64 t233], .int .i64 t246, .int .i64 120] rfl (by (try simp only [List.map_toArray, List.map_cons, List.map_nil]); first | done | rfl | (simp only [List.length_drop, List.length_take]; rfl)) ?_; (with_reducible refine (impl_WaveOf.calls t232 t233 t246 120 t247 t248 _ A28.out).mono ?_); rintro e w35 ⟨rfl, hb⟩; refine ⟨_, rfl, ?_⟩; have n0_ := Aside0.mk (blk_below (g := gb234) (o := .cells #[.int .i64 t232, .int .i64 t233] 31 (0, 0)) (by (with_reducible repeat (first | refine blk_drewN ?_ _ | refine blk_drew ?_ | refine blk_alloc ?_ _)); exact BK234.out) hb); have n1_ := Aside0.mk (below_step (by repeat (first | (with_reducible first | exact HB.out | apply below_alloc | apply pw_below_drewN | apply below_drew1 | refine below_set ?_ GE234.out) | exact HB.out)) hb); clear BK234; clear HB; have BK234 := n0_; have HB := n1_; clear n0_ n1_; (try clear hb); (try clear hb2); (try clear hk); (try clear hi)))
          (try simp only [Act.put, List.setIfInBounds_toArray, List.set_cons_zero, List.set_cons_succ])
          go_cut [169] (fun v169 wc => ∃ (kq : Nat) (x169_28 : Bool), v169 = .bool x169_28 ∧ Aside0 (laws_FnClockEdges.j2 kq t246 t247 x169_28 t232 t233 = some r) ∧ Aside0 (kq ≤ k1) ∧ Aside0 (wc.heap[gb234]? = some (.cells #[.int .i64 t232, .int .i64 t233] 31 (0, 0))) ∧ Aside0 (Below w.heap.size w wc))
          case first =>
            have H := HC29.out
            clear HC29
            by_cases c36 : t238 = true
            · subst c36
              have H1 : (if t240 = true then (if t243 = true then (if t245 = true then (if t248 = true then (if x12_1 = t239 then (if t237 < t235 then (none) else (if t237 < t233 then (none) else (if t232 = 0 then (none) else (if (Int.tmod (wrap64 (t237 - t233)) t232) = 0 then (if t244 = t241 then (if t242 = (wrap64 (t233 + (wrap64 (t241 * t232)))) then (if (t247.size : Int) = 120 then ((impl_ValidClock.f t232 t233).bind fun t249 => (laws_FnClockEdges.j2 k1 t246 t247 (!t249) t232 t233)) else (none)) else (none)) else (none)) else (none))))) else (none)) else (none)) else (none)) else (none)) else (none)) = some r := by rw [if_pos rfl] at H; exact H
              clear H
              have H := H1
              clear H1
              by_cases c37 : t240 = true
              · subst c37
                have H1 : (if t243 = true then (if t245 = true then (if t248 = true then (if x12_1 = t239 then (if t237 < t235 then (none) else (if t237 < t233 then (none) else (if t232 = 0 then (none) else (if (Int.tmod (wrap64 (t237 - t233)) t232) = 0 then (if t244 = t241 then (if t242 = (wrap64 (t233 + (wrap64 (t241 * t232)))) then (if (t247.size : Int) = 120 then ((impl_ValidClock.f t232 t233).bind fun t249 => (laws_FnClockEdges.j2 k1 t246 t247 (!t249) t232 t233)) else (none)) else (none)) else (none)) else (none))))) else (none)) else (none)) else (none)) else (none)) = some r := by rw [if_pos rfl] at H; exact H
                clear H
                have H := H1
                clear H1
                by_cases c38 : t243 = true
                · subst c38
                  have H1 : (if t245 = true then (if t248 = true then (if x12_1 = t239 then (if t237 < t235 then (none) else (if t237 < t233 then (none) else (if t232 = 0 then (none) else (if (Int.tmod (wrap64 (t237 - t233)) t232) = 0 then (if t244 = t241 then (if t242 = (wrap64 (t233 + (wrap64 (t241 * t232)))) then (if (t247.size : Int) = 120 then ((impl_ValidClock.f t232 t233).bind fun t249 => (laws_FnClockEdges.j2 k1 t246 t247 (!t249) t232 t233)) else (none)) else (none)) else (none)) else (none))))) else (none)) else (none)) else (none)) = some r := by rw [if_pos rfl] at H; exact H
                  clear H
                  have H := H1
                  clear H1
                  by_cases c39 : t245 = true
                  · subst c39
                    have H1 : (if t248 = true then (if x12_1 = t239 then (if t237 < t235 then (none) else (if t237 < t233 then (none) else (if t232 = 0 then (none) else (if (Int.tmod (wrap64 (t237 - t233)) t232) = 0 then (if t244 = t241 then (if t242 = (wrap64 (t233 + (wrap64 (t241 * t232)))) then (if (t247.size : Int) = 120 then ((impl_ValidClock.f t232 t233).bind fun t249 => (laws_FnClockEdges.j2 k1 t246 t247 (!t249) t232 t233)) else (none)) else (none)) else (none)) else (none))))) else (none)) else (none)) = some r := by rw [if_pos rfl] at H; exact H
                    clear H
                    have H := H1
                    clear H1
                    by_cases c40 : t248 = true
                    · subst c40
                      have H1 : (if x12_1 = t239 then (if t237 < t235 then (none) else (if t237 < t233 then (none) else (if t232 = 0 then (none) else (if (Int.tmod (wrap64 (t237 - t233)) t232) = 0 then (if t244 = t241 then (if t242 = (wrap64 (t233 + (wrap64 (t241 * t232)))) then (if (t247.size : Int) = 120 then ((impl_ValidClock.f t232 t233).bind fun t249 => (laws_FnClockEdges.j2 k1 t246 t247 (!t249) t232 t233)) else (none)) else (none)) else (none)) else (none))))) else (none)) = some r := by rw [if_pos rfl] at H; exact H
                      clear H
                      have H := H1
                      clear H1
                      by_cases c41 : x12_1 = t239
                      · rw [if_pos c41] at H
                        have c41b0 : (x12_1 == t239) = true := beq_iff_eq.mpr c41
                        have c41b1 : (x12_1 != t239) = false := bne_eq_false_iff_eq.mpr c41
                        clear c41
                        (first | rw [c41b0] | (simp only [i64_w, i32_w]; rw [c41b0]) | skip)
                        by_cases c42 : t237 < t235
                        · rw [if_pos c42] at H
                          have c42b0 : decide (t237 < t235) = true := decide_eq_true c42
                          clear c42
                          exact absurd H (by simp)
                        · rw [if_neg c42] at H
                          have c42b0 : decide (t237 < t235) = false := decide_eq_false c42
                          clear c42
                          by_cases c43 : t237 < t233
                          · rw [if_pos c43] at H
                            have c43b0 : decide (t237 < t233) = true := decide_eq_true c43
                            clear c43
                            exact absurd H (by simp)
                          · rw [if_neg c43] at H
                            have c43b0 : decide (t237 < t233) = false := decide_eq_false c43
                            clear c43
                            by_cases c45 : t232 = 0
                            · rw [if_pos c45] at H
                              exact absurd H (by simp)
                            · rw [if_neg c45] at H
                              have c45b0 : (t232 == 0) = false := beq_eq_false_iff_ne.mpr c45
                              have c45b1 : (t232 != 0) = true := bne_iff_ne.mpr c45
                              by_cases c46 : (Int.tmod (wrap64 (t237 - t233)) t232) = 0
                              · rw [if_pos c46] at H
                                have c46b0 : ((Int.tmod (wrap64 (t237 - t233)) t232) == 0) = true := beq_iff_eq.mpr c46
                                have c46b1 : ((Int.tmod (wrap64 (t237 - t233)) t232) != 0) = false := bne_eq_false_iff_eq.mpr c46
                                clear c46
                                by_cases c47 : t244 = t241
                                · rw [if_pos c47] at H
                                  have c47b0 : (t244 == t241) = true := beq_iff_eq.mpr c47
                                  have c47b1 : (t244 != t241) = false := bne_eq_false_iff_eq.mpr c47
                                  clear c47
                                  by_cases c48 : t242 = (wrap64 (t233 + (wrap64 (t241 * t232))))
                                  · rw [if_pos c48] at H
                                    have c48b0 : (t242 == (wrap64 (t233 + (wrap64 (t241 * t232))))) = true := beq_iff_eq.mpr c48
                                    have c48b1 : (t242 != (wrap64 (t233 + (wrap64 (t241 * t232))))) = false := bne_eq_false_iff_eq.mpr c48
                                    clear c48
                                    by_cases c49 : (t247.size : Int) = 120
                                    · rw [if_pos c49] at H
                                      have c49b0 : ((t247.size : Int) == 120) = true := beq_iff_eq.mpr c49
                                      have c49b1 : ((t247.size : Int) != 120) = false := bne_eq_false_iff_eq.mpr c49
                                      clear c49
                                      replace H := Option.bind_eq_some_iff.mp H
                                      obtain ⟨t249, A500, H⟩ := H
                                      replace H : (laws_FnClockEdges.j2 k1 t246 t247 (!t249) t232 t233) = some r := H
                                      have A50 := Aside0.mk A500
                                      clear A500
                                      as_aux_lemma =>
                                        have H' := Aside0.mk H
                                        clear H
                                        have hcz51_0 : w35.cell? ⟨gb234, 0, none⟩ = some (.int .i64 t232) := (blk_cell BK234.out 0).trans rfl
                                        have hcz51_1 : w35.cell? ⟨gb234, 1, none⟩ = some (.int .i64 t233) := (blk_cell BK234.out 1).trans rfl
                                        have hfz51_0 := blk_frozen BK234.out 0
                                        have hfz51_1 := blk_frozen BK234.out 1
                                        go_wp2_with (first | (go_at_call 24; (with_reducible refine (impl_ValidClock.calls t232 t233 t249 _ A50.out).mono ?_); rintro e w52 ⟨rfl, hb⟩; have n0_ := Aside0.mk (blk_below (g := gb234) (o := .cells #[.int .i64 t232, .int .i64 t233] 31 (0, 0)) (by (with_reducible repeat (first | refine blk_drewN ?_ _ | refine blk_drew ?_ | refine blk_alloc ?_ _)); exact BK234.out) hb); have n1_ := Aside0.mk (below_step (by repeat (first | (with_reducible first | exact HB.out | apply below_alloc | apply pw_below_drewN | apply below_drew1 | refine below_set ?_ GE234.out) | exact HB.out)) hb); clear BK234; clear HB; have BK234 := n0_; have HB := n1_; clear n0_ n1_; (try clear hb); (try clear hb2); (try clear hk); (try clear hi)))
                                        go_meet
                                        case rel => exact ⟨_, (!t249), (by first | rfl | (simp; done) | (simp [*]; done)), H', ⟨by have := HK1.out; first | omega | exact Nat.le_refl _⟩, ⟨by (with_reducible repeat (first | refine blk_drewN ?_ _ | refine blk_drew ?_ | refine blk_alloc ?_ _)); exact BK234.out⟩, ⟨by repeat (first | (with_reducible first | exact HB.out | apply below_alloc | apply pw_below_drewN | apply below_drew1 | refine below_set ?_ GE234.out) | exact HB.out)⟩⟩
                                    · rw [if_neg c49] at H
                                      have c49b0 : ((t247.size : Int) == 120) = false := beq_eq_false_iff_ne.mpr c49
                                      have c49b1 : ((t247.size : Int) != 120) = true := bne_iff_ne.mpr c49
                                      exact absurd H (by simp)
                                  · rw [if_neg c48] at H
                                    have c48b0 : (t242 == (wrap64 (t233 + (wrap64 (t241 * t232))))) = false := beq_eq_false_iff_ne.mpr c48
                                    have c48b1 : (t242 != (wrap64 (t233 + (wrap64 (t241 * t232))))) = true := bne_iff_ne.mpr c48
                                    exact absurd H (by simp)
                                · rw [if_neg c47] at H
                                  have c47b0 : (t244 == t241) = false := beq_eq_false_iff_ne.mpr c47
                                  have c47b1 : (t244 != t241) = true := bne_iff_ne.mpr c47
                                  exact absurd H (by simp)
                              · rw [if_neg c46] at H
                                have c46b0 : ((Int.tmod (wrap64 (t237 - t233)) t232) == 0) = false := beq_eq_false_iff_ne.mpr c46
                                have c46b1 : ((Int.tmod (wrap64 (t237 - t233)) t232) != 0) = true := bne_iff_ne.mpr c46
                                exact absurd H (by simp)
                      · rw [if_neg c41] at H
                        have c41b0 : (x12_1 == t239) = false := beq_eq_false_iff_ne.mpr c41
                        have c41b1 : (x12_1 != t239) = true := bne_iff_ne.mpr c41
                        (first | rw [c41b0] | (simp only [i64_w, i32_w]; rw [c41b0]) | skip)
                        exact absurd H (by simp)
                    · replace c40 := Bool.eq_false_iff.mpr c40
                      subst c40
                      have H1 : (none) = some r := by rw [if_neg (show ¬ (false = true) by decide)] at H; exact H
                      clear H
                      have H := H1
                      clear H1
                      exact absurd H (by simp)
                  · replace c39 := Bool.eq_false_iff.mpr c39
                    subst c39
                    have H1 : (none) = some r := by rw [if_neg (show ¬ (false = true) by decide)] at H; exact H
                    clear H
                    have H := H1
                    clear H1
                    exact absurd H (by simp)
                · replace c38 := Bool.eq_false_iff.mpr c38
                  subst c38
                  have H1 : (none) = some r := by rw [if_neg (show ¬ (false = true) by decide)] at H; exact H
                  clear H
                  have H := H1
                  clear H1
                  exact absurd H (by simp)
              · replace c37 := Bool.eq_false_iff.mpr c37
                subst c37
                have H1 : (none) = some r := by rw [if_neg (show ¬ (false = true) by decide)] at H; exact H
                clear H
                have H := H1
                clear H1
                exact absurd H (by simp)
            · replace c36 := Bool.eq_false_iff.mpr c36
              subst c36
              have H1 : (none) = some r := by rw [if_neg (show ¬ (false = true) by decide)] at H; exact H
              clear H
              have H := H1
              clear H1
              exact absurd H (by simp)
          case rest =>
            clear HC29
            try clear c1
            try clear c2
            try clear p2
            try clear c3
            try clear c4
            try clear c5
            try clear p6
            try clear c16
            try clear c16b0
            try clear c17
            try clear c18
            try clear c18b0
            try clear c19
            try clear c19b0
            try clear c19b1
            try clear c20
            try clear c21
            try clear c22
            try clear c23
            try clear c23b0
            try clear c36
            try clear c37
            try clear c38
            try clear c39
            try clear c40
            try clear c41
            try clear c41b0
            try clear c41b1
            try clear c42
            try clear c42b0
            try clear c43
            try clear c43b0
            try clear c45
            try clear c45b0
            try clear c45b1
            try clear c46
            try clear c46b0
            try clear c46b1
            try clear c47
            try clear c47b0
            try clear c47b1
            try clear c48
            try clear c48b0
            try clear c48b1
            try clear c49
            try clear c49b0
            try clear c49b1
            try clear hcz12_0
            try clear hcz12_1
            try clear hcz14_0
            try clear hcz14_1
            try clear hcz20_0
            try clear hcz20_1
            try clear hcz21_0
            try clear hcz21_1
            try clear hcz30_0
            try clear hcz30_1
            try clear hcz32_0
            try clear hcz32_1
            try clear hcz34_0
            try clear hcz34_1
            try clear hcz44_0
            try clear hcz44_1
            try clear hcz51_0
            try clear hcz51_1
            try clear hcz53_0
            try clear hcz53_1
            try clear hcz54_0
            try clear hcz54_1
            try clear hcz55_0
            try clear hcz55_1
            try clear hcz56_0
            try clear hcz56_1
            try clear hfz12_0
            try clear hfz12_1
            try clear hfz14_0
            try clear hfz14_1
            try clear hfz20_0
            try clear hfz20_1
            try clear hfz21_0
            try clear hfz21_1
            try clear hfz30_0
            try clear hfz30_1
            try clear hfz32_0
            try clear hfz32_1
            try clear hfz34_0
            try clear hfz34_1
            try clear hfz44_0
            try clear hfz44_1
            try clear hfz51_0
            try clear hfz51_1
            try clear hfz53_0
            try clear hfz53_1
            try clear hfz54_0
            try clear hfz54_1
            try clear hfz55_0
            try clear hfz55_1
            try clear hfz56_0
            try clear hfz56_1
            try clear p2
            try clear p6
            obtain ⟨kq, x169_28, rfl, HA, HJ28, BK234, HB⟩ := hcut
            cases kq with
            | zero => exact absurd HA.out (by simp [laws_FnClockEdges.j2])
            | succ kj28 =>
              have H := HA.out
              clear HA
              simp only [laws_FnClockEdges.j2] at H
              by_cases c57 : x169_28 = true
              · subst c57
                have H1 : (some false) = some r := by rw [if_pos rfl] at H; exact H
                clear H
                have H := H1
                clear H1
                as_aux_lemma =>
                  obtain rfl := Option.some.inj H
                  go_wp2
                  go_ret
                  exact ⟨by first | rfl | (simp [errW_none, errW_some] <;> rfl) | (simp [*, errW_none, errW_some] <;> rfl), by repeat (first | (with_reducible first | exact HB.out | apply below_alloc | apply pw_below_drewN | apply below_drew1 | refine below_set ?_ GE234.out) | exact HB.out)⟩
              · replace c57 := Bool.eq_false_iff.mpr c57
                subst c57
                have H1 : (laws_FnClockEdges.l1 kj28 t246 t247 0 t232 t233) = some r := by rw [if_neg (show ¬ (false = true) by decide)] at H; exact H
                clear H
                have H := H1
                clear H1
                have H' := Aside0.mk H
                clear H
                go_wp2
                go_loopg [23] kj28 (fun kq v23 w' => ∃ (x23_3 : Int), v23 = .int .i64 x23_3 ∧ Aside0 (laws_FnClockEdges.l1 kq t246 t247 x23_3 t232 t233 = some r) ∧ Aside0 (kq ≤ kj28) ∧ Aside0 (w'.heap[gb234]? = some (.cells #[.int .i64 t232, .int .i64 t233] 31 (0, 0))) ∧ Aside0 (Below w.heap.size w w'))
                case atStart => exact ⟨(0), (by first | rfl | (simp; done) | (simp [*]; done)), H', ⟨Nat.le_refl _⟩, ⟨by (with_reducible repeat (first | refine blk_drewN ?_ _ | refine blk_drew ?_ | refine blk_alloc ?_ _)); exact BK234.out⟩, ⟨by repeat (first | (with_reducible first | exact HB.out | apply below_alloc | apply pw_below_drewN | apply below_drew1 | refine below_set ?_ GE234.out) | exact HB.out)⟩⟩
                case round =>
                  clear H'
                  try clear c1
                  try clear c2
                  try clear p2
                  try clear c3
                  try clear c4
                  try clear c5
                  try clear p6
                  try clear c16
                  try clear c16b0
                  try clear c17
                  try clear c18
                  try clear c18b0
                  try clear c19
                  try clear c19b0
                  try clear c19b1
                  try clear c20
                  try clear c21
                  try clear c22
                  try clear c23
                  try clear c23b0
                  try clear c36
                  try clear c37
                  try clear c38
                  try clear c39
                  try clear c40
                  try clear c41
                  try clear c41b0
                  try clear c41b1
                  try clear c42
                  try clear c42b0
                  try clear c43
                  try clear c43b0
                  try clear c45
                  try clear c45b0
                  try clear c45b1
                  try clear c46
                  try clear c46b0
                  try clear c46b1
                  try clear c47
                  try clear c47b0
                  try clear c47b1
                  try clear c48
                  try clear c48b0
                  try clear c48b1
                  try clear c49
                  try clear c49b0
                  try clear c49b1
                  try clear c57
                  try clear hcz12_0
                  try clear hcz12_1
                  try clear hcz14_0
                  try clear hcz14_1
                  try clear hcz20_0
                  try clear hcz20_1
                  try clear hcz21_0
                  try clear hcz21_1
                  try clear hcz30_0
                  try clear hcz30_1
                  try clear hcz32_0
                  try clear hcz32_1
                  try clear hcz34_0
                  try clear hcz34_1
                  try clear hcz44_0
                  try clear hcz44_1
                  try clear hcz51_0
                  try clear hcz51_1
                  try clear hcz53_0
                  try clear hcz53_1
                  try clear hcz54_0
                  try clear hcz54_1
                  try clear hcz55_0
                  try clear hcz55_1
                  try clear hcz56_0
                  try clear hcz56_1
                  try clear hfz12_0
                  try clear hfz12_1
                  try clear hfz14_0
                  try clear hfz14_1
                  try clear hfz20_0
                  try clear hfz20_1
                  try clear hfz21_0
                  try clear hfz21_1
                  try clear hfz30_0
                  try clear hfz30_1
                  try clear hfz32_0
                  try clear hfz32_1
                  try clear hfz34_0
                  try clear hfz34_1
                  try clear hfz44_0
                  try clear hfz44_1
                  try clear hfz51_0
                  try clear hfz51_1
                  try clear hfz53_0
                  try clear hfz53_1
                  try clear hfz54_0
                  try clear hfz54_1
                  try clear hfz55_0
                  try clear hfz55_1
                  try clear hfz56_0
                  try clear hfz56_1
                  try clear p2
                  try clear p6
                  obtain ⟨x23_3, rfl, HA, HK3, BK234, HB⟩ := hrel
                  cases gk with
                  | zero => exact absurd HA.out (by simp [laws_FnClockEdges.l1])
                  | succ k3 =>
                    have H := HA.out
                    clear HA
                    simp only [laws_FnClockEdges.l1] at H
                    by_cases c58 : x23_3 < 120
                    · rw [if_pos c58] at H
                      have c58b0 : decide (x23_3 < 120) = true := decide_eq_true c58
                      clear c58
                      by_cases c59 : x23_3 ≥ t233
                      · rw [if_pos c59] at H
                        have c59b0 : decide (t233 ≤ x23_3) = true := decide_eq_true c59
                        clear c59
                        by_cases c60 : t232 = 0
                        · rw [if_pos c60] at H
                          exact absurd H (by simp)
                        · rw [if_neg c60] at H
                          have c60b0 : (t232 == 0) = false := beq_eq_false_iff_ne.mpr c60
                          have c60b1 : (t232 != 0) = true := bne_iff_ne.mpr c60
                          by_cases c61 : 0 ≤ x23_3
                          · rw [if_pos c61] at H
                            have c61b0 : decide (0 ≤ x23_3) = true := decide_eq_true c61
                            clear c61
                            by_cases c62 : x23_3 < (t247.size : Int)
                            · rw [if_pos c62] at H
                              have c62b0 : decide (x23_3 < (t247.size : Int)) = true := decide_eq_true c62
                              clear c62
                              by_cases c64 : (((bt t247 x23_3) == 49) != (decide ((Int.tmod (wrap64 (x23_3 - t233)) t232) < t246))) = true
                              · rw [if_pos c64] at H
                                have c64b0 : (((bt t247 x23_3) == 49) != (decide ((Int.tmod (wrap64 (x23_3 - t233)) t232) < t246))) = true := c64
                                (try (have c64b1 : decide (((bt t247 x23_3) == 49) = (decide ((Int.tmod (wrap64 (x23_3 - t233)) t232) < t246))) = false := by simpa using c64))
                                (try (have c64b2 : (((bt t247 x23_3) == 49) == (decide ((Int.tmod (wrap64 (x23_3 - t233)) t232) < t246))) = false := by simpa using c64))
                                (try (have c64b3 : ¬ (((bt t247 x23_3) == 49) = (decide ((Int.tmod (wrap64 (x23_3 - t233)) t232) < t246))) := by simpa using c64))
                                clear c64
                                as_aux_lemma =>
                                  obtain rfl := Option.some.inj H
                                  have hcz65_0 : wr.cell? ⟨gb234, 0, none⟩ = some (.int .i64 t232) := (blk_cell BK234.out 0).trans rfl
                                  have hcz65_1 : wr.cell? ⟨gb234, 1, none⟩ = some (.int .i64 t233) := (blk_cell BK234.out 1).trans rfl
                                  have hfz65_0 := blk_frozen BK234.out 0
                                  have hfz65_1 := blk_frozen BK234.out 1
                                  have p63 : 0 ≤ (x23_3 : Int) := of_decide_eq_true (by first | (with_reducible assumption) | assumption)
                                  have q63 : x23_3 < (t247.size : Int) := of_decide_eq_true (by first | (with_reducible assumption) | assumption)
                                  have hx63 := bt_at t247 x23_3
                                  replace p63 := eq_true p63
                                  replace q63 := eq_true q63
                                  go_wp2
                                  go_ret
                                  exact ⟨by first | rfl | (simp [errW_none, errW_some] <;> rfl) | (simp [*, errW_none, errW_some] <;> rfl), by repeat (first | (with_reducible first | exact HB.out | apply below_alloc | apply pw_below_drewN | apply below_drew1 | refine below_set ?_ GE234.out) | exact HB.out)⟩
                              · rw [if_neg c64] at H
                                have c64b0 : (((bt t247 x23_3) == 49) != (decide ((Int.tmod (wrap64 (x23_3 - t233)) t232) < t246))) = false := by simpa using c64
                                (try (have c64b1 : decide (((bt t247 x23_3) == 49) = (decide ((Int.tmod (wrap64 (x23_3 - t233)) t232) < t246))) = true := by simpa using c64))
                                (try (have c64b2 : (((bt t247 x23_3) == 49) == (decide ((Int.tmod (wrap64 (x23_3 - t233)) t232) < t246))) = true := by simpa using c64))
                                clear c64
                                as_aux_lemma =>
                                  have H' := Aside0.mk H
                                  clear H
                                  have hcz66_0 : wr.cell? ⟨gb234, 0, none⟩ = some (.int .i64 t232) := (blk_cell BK234.out 0).trans rfl
                                  have hcz66_1 : wr.cell? ⟨gb234, 1, none⟩ = some (.int .i64 t233) := (blk_cell BK234.out 1).trans rfl
                                  have hfz66_0 := blk_frozen BK234.out 0
                                  have hfz66_1 := blk_frozen BK234.out 1
                                  have p63 : 0 ≤ (x23_3 : Int) := of_decide_eq_true (by first | (with_reducible assumption) | assumption)
                                  have q63 : x23_3 < (t247.size : Int) := of_decide_eq_true (by first | (with_reducible assumption) | assumption)
                                  have hx63 := bt_at t247 x23_3
                                  replace p63 := eq_true p63
                                  replace q63 := eq_true q63
                                  go_wp2
                                  go_roundg k3
                                  case measure => have := HK1.out; have := HJ28.out; have := HK3.out; omega
                                  case rel => exact ⟨(wrap64 (x23_3 + 1)), (by first | rfl | (simp; done) | (simp [*]; done)), H', ⟨by have := HK1.out; have := HJ28.out; have := HK3.out; omega⟩, ⟨by (with_reducible repeat (first | refine blk_drewN ?_ _ | refine blk_drew ?_ | refine blk_alloc ?_ _)); exact BK234.out⟩, ⟨by repeat (first | (with_reducible first | exact HB.out | apply below_alloc | apply pw_below_drewN | apply below_drew1 | refine below_set ?_ GE234.out) | exact HB.out)⟩⟩
                            · rw [if_neg c62] at H
                              exact absurd H (by simp)
                          · rw [if_neg c61] at H
                            exact absurd H (by simp)
                      · rw [if_neg c59] at H
                        have c59b0 : decide (t233 ≤ x23_3) = false := decide_eq_false c59
                        clear c59
                        by_cases c67 : 0 ≤ x23_3
                        · rw [if_pos c67] at H
                          have c67b0 : decide (0 ≤ x23_3) = true := decide_eq_true c67
                          clear c67
                          by_cases c68 : x23_3 < (t247.size : Int)
                          · rw [if_pos c68] at H
                            have c68b0 : decide (x23_3 < (t247.size : Int)) = true := decide_eq_true c68
                            clear c68
                            by_cases c70 : (((bt t247 x23_3) == 49) != false) = true
                            · rw [if_pos c70] at H
                              have c70b0 : (((bt t247 x23_3) == 49) != false) = true := c70
                              (try (have c70b1 : decide (((bt t247 x23_3) == 49) = false) = false := by simpa using c70))
                              (try (have c70b2 : (((bt t247 x23_3) == 49) == false) = false := by simpa using c70))
                              (try (have c70b3 : ¬ (((bt t247 x23_3) == 49) = false) := by simpa using c70))
                              clear c70
                              as_aux_lemma =>
                                obtain rfl := Option.some.inj H
                                have hcz71_0 : wr.cell? ⟨gb234, 0, none⟩ = some (.int .i64 t232) := (blk_cell BK234.out 0).trans rfl
                                have hcz71_1 : wr.cell? ⟨gb234, 1, none⟩ = some (.int .i64 t233) := (blk_cell BK234.out 1).trans rfl
                                have hfz71_0 := blk_frozen BK234.out 0
                                have hfz71_1 := blk_frozen BK234.out 1
                                have p69 : 0 ≤ (x23_3 : Int) := of_decide_eq_true (by first | (with_reducible assumption) | assumption)
                                have q69 : x23_3 < (t247.size : Int) := of_decide_eq_true (by first | (with_reducible assumption) | assumption)
                                have hx69 := bt_at t247 x23_3
                                replace p69 := eq_true p69
                                replace q69 := eq_true q69
                                go_wp2
                                go_ret
                                exact ⟨by first | rfl | (simp [errW_none, errW_some] <;> rfl) | (simp [*, errW_none, errW_some] <;> rfl), by repeat (first | (with_reducible first | exact HB.out | apply below_alloc | apply pw_below_drewN | apply below_drew1 | refine below_set ?_ GE234.out) | exact HB.out)⟩
                            · rw [if_neg c70] at H
                              have c70b0 : (((bt t247 x23_3) == 49) != false) = false := by simpa using c70
                              (try (have c70b1 : decide (((bt t247 x23_3) == 49) = false) = true := by simpa using c70))
                              (try (have c70b2 : (((bt t247 x23_3) == 49) == false) = true := by simpa using c70))
                              clear c70
                              as_aux_lemma =>
                                have H' := Aside0.mk H
                                clear H
                                have hcz72_0 : wr.cell? ⟨gb234, 0, none⟩ = some (.int .i64 t232) := (blk_cell BK234.out 0).trans rfl
                                have hcz72_1 : wr.cell? ⟨gb234, 1, none⟩ = some (.int .i64 t233) := (blk_cell BK234.out 1).trans rfl
                                have hfz72_0 := blk_frozen BK234.out 0
                                have hfz72_1 := blk_frozen BK234.out 1
                                have p69 : 0 ≤ (x23_3 : Int) := of_decide_eq_true (by first | (with_reducible assumption) | assumption)
                                have q69 : x23_3 < (t247.size : Int) := of_decide_eq_true (by first | (with_reducible assumption) | assumption)
                                have hx69 := bt_at t247 x23_3
                                replace p69 := eq_true p69
                                replace q69 := eq_true q69
                                go_wp2
                                go_roundg k3
                                case measure => have := HK1.out; have := HJ28.out; have := HK3.out; omega
                                case rel => exact ⟨(wrap64 (x23_3 + 1)), (by first | rfl | (simp; done) | (simp [*]; done)), H', ⟨by have := HK1.out; have := HJ28.out; have := HK3.out; omega⟩, ⟨by (with_reducible repeat (first | refine blk_drewN ?_ _ | refine blk_drew ?_ | refine blk_alloc ?_ _)); exact BK234.out⟩, ⟨by repeat (first | (with_reducible first | exact HB.out | apply below_alloc | apply pw_below_drewN | apply below_drew1 | refine below_set ?_ GE234.out) | exact HB.out)⟩⟩
                          · rw [if_neg c68] at H
                            exact absurd H (by simp)
                        · rw [if_neg c67] at H
                          exact absurd H (by simp)
                    · rw [if_neg c58] at H
                      have c58b0 : decide (x23_3 < 120) = false := decide_eq_false c58
                      clear c58
                      as_aux_lemma =>
                        obtain rfl := Option.some.inj H
                        go_wp2
                        go_ret
                        exact ⟨by first | rfl | (simp [errW_none, errW_some] <;> rfl) | (simp [*, errW_none, errW_some] <;> rfl), by repeat (first | (with_reducible first | exact HB.out | apply below_alloc | apply pw_below_drewN | apply below_drew1 | refine below_set ?_ GE234.out) | exact HB.out)⟩

/-- THE ONE PURE STATEMENT of laws_FnClockEdges: yours. -/
def laws_FnClockEdges.Pure : Prop := ∀ (l0 : List Int) (l1 : List Int), l0.length ≤ maxLen → l0.length * 1 ≤ 140737488351232 → (∀ x ∈ l0, (Lit.int .u8 x).wf = true) → l1.length ≤ maxLen → l1.length * 1 ≤ 140737488351232 → (∀ x ∈ l1, (Lit.int .u8 x).wf = true) → ∃ k, laws_FnClockEdges.f k l0 l1 = some true
theorem laws_FnClockEdges.walk (P : laws_FnClockEdges.Pure) (a0 : Option Addr) (len0 cap0 : Nat) (z0 : List Int) (a1 : Option Addr) (len1 cap1 : Nat) (z1 : List Int) (w : World) (w0 : (a0 = none ∧ len0 = 0 ∧ cap0 = 0 ∧ z0 = []) ∨ ∃ x, a0 = some x ∧ len0 ≤ cap0 ∧ cap0 ≤ maxLen ∧ z0.length = cap0 ∧ (∀ i, i < z0.length → w.cell? (x.add i) = some (.int .u8 (z0.getD i 0))) ∧ ∀ n ∈ z0, (Lit.int .u8 n).wf = true) (y0 : len0 * 1 ≤ 140737488351232) (w1 : (a1 = none ∧ len1 = 0 ∧ cap1 = 0 ∧ z1 = []) ∨ ∃ x, a1 = some x ∧ len1 ≤ cap1 ∧ cap1 ≤ maxLen ∧ z1.length = cap1 ∧ (∀ i, i < z1.length → w.cell? (x.add i) = some (.int .u8 (z1.getD i 0))) ∧ ∀ n ∈ z1, (Lit.int .u8 n).wf = true) (y1 : len1 * 1 ≤ 140737488351232) :
    Calls Try.prog 5 #[.slice a0 len0 cap0, .slice a1 len1 cap1] w fun e w' => e = .returned (.bool true) ∧ Below w.heap.size w w' := by
  obtain ⟨l0, rfl, hr0, hm0, hw0, hc0⟩ := ReadsInt.ofRowC w0
  obtain ⟨l1, rfl, hr1, hm1, hw1, hc1⟩ := ReadsInt.ofRowC w1
  obtain ⟨k, h⟩ := P l0 l1 hm0 y0 hw0 hm1 y1 hw1
  refine (laws_FnClockEdges.calls k _ _ l0 _ _ l1 true w (Kd.C_of_reads (d := (0 : Int)) (h1 := fun _ => rfl) hr0) hc0 (Kd.C_of_reads (d := (0 : Int)) (h1 := fun _ => rfl) hr1) hc1 h).mono ?_
  rintro e w' ⟨rfl, hd⟩
  exact ⟨rfl, hd⟩

end Go.Proofs.Ytfoedfigjcmjbaa.A
