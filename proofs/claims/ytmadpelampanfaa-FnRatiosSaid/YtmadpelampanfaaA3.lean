-- Printed by this session's oprint.py through the kit's printer.
import Derived.Test.YtmadpelampanfaaA0
import Derived.Test.YtmadpelampanfaaA5
import Derived.Test.YtmadpelampanfaaA6
import Derived.Test.YtmadpelampanfaaA7
import Derived.Test.YtmadpelampanfaaA8
import Derived.Test.YtmadpelampanfaaA9
import Derived.Test.YtmadpelampanfaaA10
import Derived.Test.YtmadpelampanfaaA9000
namespace Go.Proofs.Ytmadpelampanfaa.A
open Go.RowKit Go.Proofs.YtmadpelampanfaaW.PrintWords Go.Proofs.YtmadpelampanfaaW.PrintLast Go.Proofs.YtmadpelampanfaaW.PrintMore
attribute [local go_sem] max2_int min2_int max_two min_two max_three min_three max_four min_four   -- for this text's walks alone
set_option linter.unusedVariables false
set_option linter.unusedSimpArgs false

attribute [local go_sem high] eqA26
/-! ### laws_FnRatios: function 3 -/
mutual
def laws_FnRatios.j0 : Nat → List Int → Int → List Int → Bool → Int → Int → Int → Int → Option (Bool)
  | 0, _, _, _, _, _, _, _, _ => none
  | k + 1, x1, x8, x11, x85, x201000, x201001, x206000, x206001 => if x85 = true then (some false) else ((laws_b10At.f x1 1 x8).bind fun t211 => (if x201001 = 0 then (none) else (laws_FnRatios.l0 k x11 (wrap64 (1 + t211)) (wrap64 (Int.tdiv (wrap64 (x201000 * (wrap64 (1 + t211)))) x201001)) 0 x201000 x201001 x206000 x206001)))
def laws_FnRatios.l0 : Nat → List Int → Int → Int → Int → Int → Int → Int → Int → Option (Bool)
  | 0, _, _, _, _, _, _, _, _ => none
  | k + 1, x11, x13, x14, x15, x201000, x201001, x206000, x206001 => if x15 < 2 then (if (wrap64 ((mx (wrap64 ((wrap64 (x201000 * x13)) - (wrap64 ((wrap64 (x14 + x15)) * x201001)))) (wrap64 (-(wrap64 ((wrap64 (x201000 * x13)) - (wrap64 ((wrap64 (x14 + x15)) * x201001))))))) * x206001)) < (wrap64 ((mx (wrap64 ((wrap64 (x201000 * x206001)) - (wrap64 (x206000 * x201001)))) (wrap64 (-(wrap64 ((wrap64 (x201000 * x206001)) - (wrap64 (x206000 * x201001))))))) * x13)) then (some false) else (laws_FnRatios.l0 k x11 x13 x14 (wrap64 (x15 + 1)) x201000 x201001 x206000 x206001)) else (laws_FnRatios.l1 k x11 1 0 (wrap64 ((x11.length : Int) - 1)) x201000 x201001)
def laws_FnRatios.l1 : Nat → List Int → Int → Int → Int → Int → Int → Option (Bool)
  | 0, _, _, _, _, _, _ => none
  | k + 1, x11, x18, x19, x20, x201000, x201001 => if x20 ≥ 0 then (if 0 ≤ x20 then (if x20 < (x11.length : Int) then (if (rd x11 x20) < 0 then (laws_FnRatios.j3 k x11 x18 x19 x20 true x201000 x201001) else (if (rd x11 x20) > 1099511627776 then (laws_FnRatios.j3 k x11 x18 x19 x20 true x201000 x201001) else (if x20 > 0 then (laws_FnRatios.j3 k x11 x18 x19 x20 (decide ((rd x11 x20) < 1)) x201000 x201001) else (laws_FnRatios.j3 k x11 x18 x19 x20 false x201000 x201001)))) else (none)) else (none)) else ((impl_MakeFraction.f x18 x19).bind fun bt212 => (if bt212.2.2 = true then (some (bt212.1 == x201000 && (bt212.2.1 == x201001))) else (some false)))
def laws_FnRatios.j3 : Nat → List Int → Int → Int → Int → Bool → Int → Int → Option (Bool)
  | 0, _, _, _, _, _, _, _ => none
  | k + 1, x11, x18, x19, x20, x166, x201000, x201001 => if x166 = true then (some false) else (if 0 ≤ x20 then (if x20 < (x11.length : Int) then (if (wrap64 ((wrap64 ((rd x11 x20) * x18)) + x19)) > 1125899906842624 then (some false) else (laws_FnRatios.l1 k x11 (wrap64 ((wrap64 ((rd x11 x20) * x18)) + x19)) x18 (wrap64 (x20 - 1)) x201000 x201001)) else (none)) else (none))
end
def laws_FnRatios.f (k : Nat) (l0 : List Int) (l1 : List Int) : Option (Bool) := (laws_b10Long.f l0 l1).bind fun t193 => (if t193 = true then (some true) else ((laws_b10At.f l0 0 256).bind fun t194 => ((laws_b10At.f l0 1 40).bind fun t195 => ((laws_b10At.f l0 2 256).bind fun t196 => ((impl_MakeFraction.f (wrap64 ((wrap64 (256 * t195)) + t196)) (wrap64 (1 + (wrap64 (3 * t194))))).bind fun bt197 => (if bt197.2.2 = true then (if bt197.1 > (wrap64 (1000 * bt197.2.1)) then (some true) else ((laws_b10At.f l1 0 40).bind fun t201 => ((impl_BestRatio.f bt197.1 bt197.2.1 (wrap64 (1 + t201))).bind fun bt202 => ((impl_RatioSteps.f k bt197.1 bt197.2.1).bind fun bt206 => (if bt202.2.2 = true then (if bt206.2 = true then (if bt202.2.1 > (wrap64 (1 + t201)) then (laws_FnRatios.j0 k l1 (wrap64 (1 + t201)) bt206.1 true bt197.1 bt197.2.1 bt202.1 bt202.2.1) else ((impl_ValidFraction.f k bt202.1 bt202.2.1).bind fun t210 => (if t210 = true then (laws_FnRatios.j0 k l1 (wrap64 (1 + t201)) bt206.1 ((bt206.1.length : Int) == 0) bt197.1 bt197.2.1 bt202.1 bt202.2.1) else (laws_FnRatios.j0 k l1 (wrap64 (1 + t201)) bt206.1 true bt197.1 bt197.2.1 bt202.1 bt202.2.1)))) else (laws_FnRatios.j0 k l1 (wrap64 (1 + t201)) bt206.1 true bt197.1 bt197.2.1 bt202.1 bt202.2.1)) else (laws_FnRatios.j0 k l1 (wrap64 (1 + t201)) bt206.1 true bt197.1 bt197.2.1 bt202.1 bt202.2.1)))))) else (some false)))))))
theorem laws_FnRatios.mono_l : ∀ k, (∀ y0 y1 y2 y3 y4 y5 y6 y7, LeO (laws_FnRatios.j0 k y0 y1 y2 y3 y4 y5 y6 y7) (laws_FnRatios.j0 (k + 1) y0 y1 y2 y3 y4 y5 y6 y7)) ∧ (∀ y0 y1 y2 y3 y4 y5 y6 y7, LeO (laws_FnRatios.l0 k y0 y1 y2 y3 y4 y5 y6 y7) (laws_FnRatios.l0 (k + 1) y0 y1 y2 y3 y4 y5 y6 y7)) ∧ (∀ y0 y1 y2 y3 y4 y5, LeO (laws_FnRatios.l1 k y0 y1 y2 y3 y4 y5) (laws_FnRatios.l1 (k + 1) y0 y1 y2 y3 y4 y5)) ∧ (∀ y0 y1 y2 y3 y4 y5 y6, LeO (laws_FnRatios.j3 k y0 y1 y2 y3 y4 y5 y6) (laws_FnRatios.j3 (k + 1) y0 y1 y2 y3 y4 y5 y6))
  | 0 => ⟨fun _ _ _ _ _ _ _ _ r h => by simp [laws_FnRatios.j0] at h, fun _ _ _ _ _ _ _ _ r h => by simp [laws_FnRatios.l0] at h, fun _ _ _ _ _ _ r h => by simp [laws_FnRatios.l1] at h, fun _ _ _ _ _ _ _ r h => by simp [laws_FnRatios.j3] at h⟩
  | k + 1 => by
    obtain ⟨ih0, ih1, ih2, ih3⟩ := laws_FnRatios.mono_l k
    refine ⟨?_, ?_, ?_, ?_⟩
    · intro y0 y1 y2 y3 y4 y5 y6 y7
      unfold laws_FnRatios.j0
      repeat' first
      | (with_reducible exact ih0 _ _ _ _ _ _ _ _)
      | (with_reducible exact ih1 _ _ _ _ _ _ _ _)
      | (with_reducible exact ih2 _ _ _ _ _ _)
      | (with_reducible exact ih3 _ _ _ _ _ _ _)
      | (with_reducible exact impl_RatioSteps.mono _ _ _)
      | (with_reducible exact impl_ValidFraction.mono _ _ _)
      | (with_reducible exact LeO.refl _)
      | (with_reducible exact LeO.none _)
      | (with_reducible refine LeO.ite ?_ ?_)
      | (with_reducible refine LeO.bind ?_ (fun _ => ?_))
      | exact ih0 _ _ _ _ _ _ _ _
      | exact ih1 _ _ _ _ _ _ _ _
      | exact ih2 _ _ _ _ _ _
      | exact ih3 _ _ _ _ _ _ _
      | exact impl_RatioSteps.mono _ _ _
      | exact impl_ValidFraction.mono _ _ _
      | exact LeO.none _
      | refine LeO.ite ?_ ?_
      | refine LeO.bind ?_ (fun _ => ?_)
    · intro y0 y1 y2 y3 y4 y5 y6 y7
      unfold laws_FnRatios.l0
      repeat' first
      | (with_reducible exact ih0 _ _ _ _ _ _ _ _)
      | (with_reducible exact ih1 _ _ _ _ _ _ _ _)
      | (with_reducible exact ih2 _ _ _ _ _ _)
      | (with_reducible exact ih3 _ _ _ _ _ _ _)
      | (with_reducible exact impl_RatioSteps.mono _ _ _)
      | (with_reducible exact impl_ValidFraction.mono _ _ _)
      | (with_reducible exact LeO.refl _)
      | (with_reducible exact LeO.none _)
      | (with_reducible refine LeO.ite ?_ ?_)
      | (with_reducible refine LeO.bind ?_ (fun _ => ?_))
      | exact ih0 _ _ _ _ _ _ _ _
      | exact ih1 _ _ _ _ _ _ _ _
      | exact ih2 _ _ _ _ _ _
      | exact ih3 _ _ _ _ _ _ _
      | exact impl_RatioSteps.mono _ _ _
      | exact impl_ValidFraction.mono _ _ _
      | exact LeO.none _
      | refine LeO.ite ?_ ?_
      | refine LeO.bind ?_ (fun _ => ?_)
    · intro y0 y1 y2 y3 y4 y5
      unfold laws_FnRatios.l1
      repeat' first
      | (with_reducible exact ih0 _ _ _ _ _ _ _ _)
      | (with_reducible exact ih1 _ _ _ _ _ _ _ _)
      | (with_reducible exact ih2 _ _ _ _ _ _)
      | (with_reducible exact ih3 _ _ _ _ _ _ _)
      | (with_reducible exact impl_RatioSteps.mono _ _ _)
      | (with_reducible exact impl_ValidFraction.mono _ _ _)
      | (with_reducible exact LeO.refl _)
      | (with_reducible exact LeO.none _)
      | (with_reducible refine LeO.ite ?_ ?_)
      | (with_reducible refine LeO.bind ?_ (fun _ => ?_))
      | exact ih0 _ _ _ _ _ _ _ _
      | exact ih1 _ _ _ _ _ _ _ _
      | exact ih2 _ _ _ _ _ _
      | exact ih3 _ _ _ _ _ _ _
      | exact impl_RatioSteps.mono _ _ _
      | exact impl_ValidFraction.mono _ _ _
      | exact LeO.none _
      | refine LeO.ite ?_ ?_
      | refine LeO.bind ?_ (fun _ => ?_)
    · intro y0 y1 y2 y3 y4 y5 y6
      unfold laws_FnRatios.j3
      repeat' first
      | (with_reducible exact ih0 _ _ _ _ _ _ _ _)
      | (with_reducible exact ih1 _ _ _ _ _ _ _ _)
      | (with_reducible exact ih2 _ _ _ _ _ _)
      | (with_reducible exact ih3 _ _ _ _ _ _ _)
      | (with_reducible exact impl_RatioSteps.mono _ _ _)
      | (with_reducible exact impl_ValidFraction.mono _ _ _)
      | (with_reducible exact LeO.refl _)
      | (with_reducible exact LeO.none _)
      | (with_reducible refine LeO.ite ?_ ?_)
      | (with_reducible refine LeO.bind ?_ (fun _ => ?_))
      | exact ih0 _ _ _ _ _ _ _ _
      | exact ih1 _ _ _ _ _ _ _ _
      | exact ih2 _ _ _ _ _ _
      | exact ih3 _ _ _ _ _ _ _
      | exact impl_RatioSteps.mono _ _ _
      | exact impl_ValidFraction.mono _ _ _
      | exact LeO.none _
      | refine LeO.ite ?_ ?_
      | refine LeO.bind ?_ (fun _ => ?_)
theorem laws_FnRatios.mono : ∀ a0 a1 k, LeO (laws_FnRatios.f k a0 a1) (laws_FnRatios.f (k + 1) a0 a1) := by
  intro a0 a1 k
  obtain ⟨ih0, ih1, ih2, ih3⟩ := laws_FnRatios.mono_l k
  unfold laws_FnRatios.f
  repeat' first
      | (with_reducible exact ih0 _ _ _ _ _ _ _ _)
      | (with_reducible exact ih1 _ _ _ _ _ _ _ _)
      | (with_reducible exact ih2 _ _ _ _ _ _)
      | (with_reducible exact ih3 _ _ _ _ _ _ _)
      | (with_reducible exact impl_RatioSteps.mono _ _ _)
      | (with_reducible exact impl_ValidFraction.mono _ _ _)
      | (with_reducible exact LeO.refl _)
      | (with_reducible exact LeO.none _)
      | (with_reducible refine LeO.ite ?_ ?_)
      | (with_reducible refine LeO.bind ?_ (fun _ => ?_))
      | exact ih0 _ _ _ _ _ _ _ _
      | exact ih1 _ _ _ _ _ _ _ _
      | exact ih2 _ _ _ _ _ _
      | exact ih3 _ _ _ _ _ _ _
      | exact impl_RatioSteps.mono _ _ _
      | exact impl_ValidFraction.mono _ _ _
      | exact LeO.none _
      | refine LeO.ite ?_ ?_
      | refine LeO.bind ?_ (fun _ => ?_)
set_option maxHeartbeats 8000000 in
set_option maxRecDepth 100000 in
theorem laws_FnRatios.calls (k : Nat) (A0 : Option Addr) (c0 : Nat) (l0 : List Int) (A1 : Option Addr) (c1 : Nat) (l1 : List Int) (r : Bool) (w : World) (hr0 : Kd.C (Kd.int .u8) w A0 l0.length l0) (hc0 : l0.length ≤ c0) (hr1 : Kd.C (Kd.int .u8) w A1 l1.length l1) (hc1 : l1.length ≤ c1) (h : laws_FnRatios.f k l0 l1 = some r) :
    Calls Try.prog 3 #[.slice A0 l0.length c0, .slice A1 l1.length c1] w fun e w' => e = .returned (.bool r) ∧ Below w.heap.size w w' := by
  have hu26 := Try.underlying26
  have HR0 := Aside0.mk hr0
  have HC0 := Aside0.mk hc0
  clear hr0 hc0
  have HR1 := Aside0.mk hr1
  have HC1 := Aside0.mk hc1
  clear hr1 hc1
  have HB := Aside0.mk (Below.refl w.heap.size w)
  have H : ((laws_b10Long.f l0 l1).bind fun t193 => (if t193 = true then (some true) else ((laws_b10At.f l0 0 256).bind fun t194 => ((laws_b10At.f l0 1 40).bind fun t195 => ((laws_b10At.f l0 2 256).bind fun t196 => ((impl_MakeFraction.f (wrap64 ((wrap64 (256 * t195)) + t196)) (wrap64 (1 + (wrap64 (3 * t194))))).bind fun bt197 => (if bt197.2.2 = true then (if bt197.1 > (wrap64 (1000 * bt197.2.1)) then (some true) else ((laws_b10At.f l1 0 40).bind fun t201 => ((impl_BestRatio.f bt197.1 bt197.2.1 (wrap64 (1 + t201))).bind fun bt202 => ((impl_RatioSteps.f k bt197.1 bt197.2.1).bind fun bt206 => (if bt202.2.2 = true then (if bt206.2 = true then (if bt202.2.1 > (wrap64 (1 + t201)) then (laws_FnRatios.j0 k l1 (wrap64 (1 + t201)) bt206.1 true bt197.1 bt197.2.1 bt202.1 bt202.2.1) else ((impl_ValidFraction.f k bt202.1 bt202.2.1).bind fun t210 => (if t210 = true then (laws_FnRatios.j0 k l1 (wrap64 (1 + t201)) bt206.1 ((bt206.1.length : Int) == 0) bt197.1 bt197.2.1 bt202.1 bt202.2.1) else (laws_FnRatios.j0 k l1 (wrap64 (1 + t201)) bt206.1 true bt197.1 bt197.2.1 bt202.1 bt202.2.1)))) else (laws_FnRatios.j0 k l1 (wrap64 (1 + t201)) bt206.1 true bt197.1 bt197.2.1 bt202.1 bt202.2.1)) else (laws_FnRatios.j0 k l1 (wrap64 (1 + t201)) bt206.1 true bt197.1 bt197.2.1 bt202.1 bt202.2.1)))))) else (some false)))))))) = some r := h
  clear h
  replace H := Option.bind_eq_some_iff.mp H
  obtain ⟨t193, A30, H⟩ := H
  replace H : (if t193 = true then (some true) else ((laws_b10At.f l0 0 256).bind fun t194 => ((laws_b10At.f l0 1 40).bind fun t195 => ((laws_b10At.f l0 2 256).bind fun t196 => ((impl_MakeFraction.f (wrap64 ((wrap64 (256 * t195)) + t196)) (wrap64 (1 + (wrap64 (3 * t194))))).bind fun bt197 => (if bt197.2.2 = true then (if bt197.1 > (wrap64 (1000 * bt197.2.1)) then (some true) else ((laws_b10At.f l1 0 40).bind fun t201 => ((impl_BestRatio.f bt197.1 bt197.2.1 (wrap64 (1 + t201))).bind fun bt202 => ((impl_RatioSteps.f k bt197.1 bt197.2.1).bind fun bt206 => (if bt202.2.2 = true then (if bt206.2 = true then (if bt202.2.1 > (wrap64 (1 + t201)) then (laws_FnRatios.j0 k l1 (wrap64 (1 + t201)) bt206.1 true bt197.1 bt197.2.1 bt202.1 bt202.2.1) else ((impl_ValidFraction.f k bt202.1 bt202.2.1).bind fun t210 => (if t210 = true then (laws_FnRatios.j0 k l1 (wrap64 (1 + t201)) bt206.1 ((bt206.1.length : Int) == 0) bt197.1 bt197.2.1 bt202.1 bt202.2.1) else (laws_FnRatios.j0 k l1 (wrap64 (1 + t201)) bt206.1 true bt197.1 bt197.2.1 bt202.1 bt202.2.1)))) else (laws_FnRatios.j0 k l1 (wrap64 (1 + t201)) bt206.1 true bt197.1 bt197.2.1 bt202.1 bt202.2.1)) else (laws_FnRatios.j0 k l1 (wrap64 (1 + t201)) bt206.1 true bt197.1 bt197.2.1 bt202.1 bt202.2.1)))))) else (some false))))))) = some r := H
  have A3 := Aside0.mk A30
  clear A30
  by_cases c4 : t193 = true
  · subst c4
    have H1 : (some true) = some r := by rw [if_pos rfl] at H; exact H
    clear H
    have H := H1
    clear H1
    obtain rfl := Option.some.inj H
    go_enter Try.func3, Try.ntmps3
    go_wp2_with (first | ((with_reducible refine gate_callee (f := 5) rfl ?_); refine goesL_ (some 26) rfl rfl Try.func5 (by kernel_rfl) rfl #[.slice A0 l0.length c0, .slice A1 l1.length c1] rfl (by (try simp only [List.map_toArray, List.map_cons, List.map_nil]); first | done | rfl | (simp only [List.length_drop, List.length_take]; rfl)) ?_; (with_reducible refine (laws_b10Long.calls _ _ l0 _ _ l1 true _ ?side1 ?side2 ?side3 ?side4 A3.out).mono ?_); (case side1 => repeat (first | exact HR0.out | (with_reducible refine Kd.C_alloc ?_ _) | (with_reducible refine Kd.C_drewN ?_ _) | (with_reducible refine Kd.C_drew ?_))); (case side2 => exact HC0.out); (case side3 => repeat (first | exact HR1.out | (with_reducible refine Kd.C_alloc ?_ _) | (with_reducible refine Kd.C_drewN ?_ _) | (with_reducible refine Kd.C_drew ?_))); (case side4 => exact HC1.out); rintro e w' ⟨rfl, ⟨nd, rfl⟩⟩; refine ⟨_, rfl, ?_⟩))
    go_ret
    exact ⟨by first | rfl | (simp [errW_none, errW_some] <;> rfl) | (simp [*, errW_none, errW_some] <;> rfl), by repeat (first | (with_reducible first | exact HB.out | apply below_alloc | apply pw_below_drewN | apply below_drew1) | exact HB.out)⟩
  · replace c4 := Bool.eq_false_iff.mpr c4
    subst c4
    have H1 : ((laws_b10At.f l0 0 256).bind fun t194 => ((laws_b10At.f l0 1 40).bind fun t195 => ((laws_b10At.f l0 2 256).bind fun t196 => ((impl_MakeFraction.f (wrap64 ((wrap64 (256 * t195)) + t196)) (wrap64 (1 + (wrap64 (3 * t194))))).bind fun bt197 => (if bt197.2.2 = true then (if bt197.1 > (wrap64 (1000 * bt197.2.1)) then (some true) else ((laws_b10At.f l1 0 40).bind fun t201 => ((impl_BestRatio.f bt197.1 bt197.2.1 (wrap64 (1 + t201))).bind fun bt202 => ((impl_RatioSteps.f k bt197.1 bt197.2.1).bind fun bt206 => (if bt202.2.2 = true then (if bt206.2 = true then (if bt202.2.1 > (wrap64 (1 + t201)) then (laws_FnRatios.j0 k l1 (wrap64 (1 + t201)) bt206.1 true bt197.1 bt197.2.1 bt202.1 bt202.2.1) else ((impl_ValidFraction.f k bt202.1 bt202.2.1).bind fun t210 => (if t210 = true then (laws_FnRatios.j0 k l1 (wrap64 (1 + t201)) bt206.1 ((bt206.1.length : Int) == 0) bt197.1 bt197.2.1 bt202.1 bt202.2.1) else (laws_FnRatios.j0 k l1 (wrap64 (1 + t201)) bt206.1 true bt197.1 bt197.2.1 bt202.1 bt202.2.1)))) else (laws_FnRatios.j0 k l1 (wrap64 (1 + t201)) bt206.1 true bt197.1 bt197.2.1 bt202.1 bt202.2.1)) else (laws_FnRatios.j0 k l1 (wrap64 (1 + t201)) bt206.1 true bt197.1 bt197.2.1 bt202.1 bt202.2.1)))))) else (some false)))))) = some r := by rw [if_neg (show ¬ (false = true) by decide)] at H; exact H
    clear H
    have H := H1
    clear H1
    replace H := Option.bind_eq_some_iff.mp H
    obtain ⟨t194, A50, H⟩ := H
    replace H : ((laws_b10At.f l0 1 40).bind fun t195 => ((laws_b10At.f l0 2 256).bind fun t196 => ((impl_MakeFraction.f (wrap64 ((wrap64 (256 * t195)) + t196)) (wrap64 (1 + (wrap64 (3 * t194))))).bind fun bt197 => (if bt197.2.2 = true then (if bt197.1 > (wrap64 (1000 * bt197.2.1)) then (some true) else ((laws_b10At.f l1 0 40).bind fun t201 => ((impl_BestRatio.f bt197.1 bt197.2.1 (wrap64 (1 + t201))).bind fun bt202 => ((impl_RatioSteps.f k bt197.1 bt197.2.1).bind fun bt206 => (if bt202.2.2 = true then (if bt206.2 = true then (if bt202.2.1 > (wrap64 (1 + t201)) then (laws_FnRatios.j0 k l1 (wrap64 (1 + t201)) bt206.1 true bt197.1 bt197.2.1 bt202.1 bt202.2.1) else ((impl_ValidFraction.f k bt202.1 bt202.2.1).bind fun t210 => (if t210 = true then (laws_FnRatios.j0 k l1 (wrap64 (1 + t201)) bt206.1 ((bt206.1.length : Int) == 0) bt197.1 bt197.2.1 bt202.1 bt202.2.1) else (laws_FnRatios.j0 k l1 (wrap64 (1 + t201)) bt206.1 true bt197.1 bt197.2.1 bt202.1 bt202.2.1)))) else (laws_FnRatios.j0 k l1 (wrap64 (1 + t201)) bt206.1 true bt197.1 bt197.2.1 bt202.1 bt202.2.1)) else (laws_FnRatios.j0 k l1 (wrap64 (1 + t201)) bt206.1 true bt197.1 bt197.2.1 bt202.1 bt202.2.1)))))) else (some false))))) = some r := H
    have A5 := Aside0.mk A50
    clear A50
    replace H := Option.bind_eq_some_iff.mp H
    obtain ⟨t195, A60, H⟩ := H
    replace H : ((laws_b10At.f l0 2 256).bind fun t196 => ((impl_MakeFraction.f (wrap64 ((wrap64 (256 * t195)) + t196)) (wrap64 (1 + (wrap64 (3 * t194))))).bind fun bt197 => (if bt197.2.2 = true then (if bt197.1 > (wrap64 (1000 * bt197.2.1)) then (some true) else ((laws_b10At.f l1 0 40).bind fun t201 => ((impl_BestRatio.f bt197.1 bt197.2.1 (wrap64 (1 + t201))).bind fun bt202 => ((impl_RatioSteps.f k bt197.1 bt197.2.1).bind fun bt206 => (if bt202.2.2 = true then (if bt206.2 = true then (if bt202.2.1 > (wrap64 (1 + t201)) then (laws_FnRatios.j0 k l1 (wrap64 (1 + t201)) bt206.1 true bt197.1 bt197.2.1 bt202.1 bt202.2.1) else ((impl_ValidFraction.f k bt202.1 bt202.2.1).bind fun t210 => (if t210 = true then (laws_FnRatios.j0 k l1 (wrap64 (1 + t201)) bt206.1 ((bt206.1.length : Int) == 0) bt197.1 bt197.2.1 bt202.1 bt202.2.1) else (laws_FnRatios.j0 k l1 (wrap64 (1 + t201)) bt206.1 true bt197.1 bt197.2.1 bt202.1 bt202.2.1)))) else (laws_FnRatios.j0 k l1 (wrap64 (1 + t201)) bt206.1 true bt197.1 bt197.2.1 bt202.1 bt202.2.1)) else (laws_FnRatios.j0 k l1 (wrap64 (1 + t201)) bt206.1 true bt197.1 bt197.2.1 bt202.1 bt202.2.1)))))) else (some false)))) = some r := H
    have A6 := Aside0.mk A60
    clear A60
    replace H := Option.bind_eq_some_iff.mp H
    obtain ⟨t196, A70, H⟩ := H
    replace H : ((impl_MakeFraction.f (wrap64 ((wrap64 (256 * t195)) + t196)) (wrap64 (1 + (wrap64 (3 * t194))))).bind fun bt197 => (if bt197.2.2 = true then (if bt197.1 > (wrap64 (1000 * bt197.2.1)) then (some true) else ((laws_b10At.f l1 0 40).bind fun t201 => ((impl_BestRatio.f bt197.1 bt197.2.1 (wrap64 (1 + t201))).bind fun bt202 => ((impl_RatioSteps.f k bt197.1 bt197.2.1).bind fun bt206 => (if bt202.2.2 = true then (if bt206.2 = true then (if bt202.2.1 > (wrap64 (1 + t201)) then (laws_FnRatios.j0 k l1 (wrap64 (1 + t201)) bt206.1 true bt197.1 bt197.2.1 bt202.1 bt202.2.1) else ((impl_ValidFraction.f k bt202.1 bt202.2.1).bind fun t210 => (if t210 = true then (laws_FnRatios.j0 k l1 (wrap64 (1 + t201)) bt206.1 ((bt206.1.length : Int) == 0) bt197.1 bt197.2.1 bt202.1 bt202.2.1) else (laws_FnRatios.j0 k l1 (wrap64 (1 + t201)) bt206.1 true bt197.1 bt197.2.1 bt202.1 bt202.2.1)))) else (laws_FnRatios.j0 k l1 (wrap64 (1 + t201)) bt206.1 true bt197.1 bt197.2.1 bt202.1 bt202.2.1)) else (laws_FnRatios.j0 k l1 (wrap64 (1 + t201)) bt206.1 true bt197.1 bt197.2.1 bt202.1 bt202.2.1)))))) else (some false))) = some r := H
    have A7 := Aside0.mk A70
    clear A70
    replace H := Option.bind_eq_some_iff.mp H
    obtain ⟨⟨t197, t198, t199⟩, A80, H⟩ := H
    replace H : (if t199 = true then (if t197 > (wrap64 (1000 * t198)) then (some true) else ((laws_b10At.f l1 0 40).bind fun t201 => ((impl_BestRatio.f t197 t198 (wrap64 (1 + t201))).bind fun bt202 => ((impl_RatioSteps.f k t197 t198).bind fun bt206 => (if bt202.2.2 = true then (if bt206.2 = true then (if bt202.2.1 > (wrap64 (1 + t201)) then (laws_FnRatios.j0 k l1 (wrap64 (1 + t201)) bt206.1 true t197 t198 bt202.1 bt202.2.1) else ((impl_ValidFraction.f k bt202.1 bt202.2.1).bind fun t210 => (if t210 = true then (laws_FnRatios.j0 k l1 (wrap64 (1 + t201)) bt206.1 ((bt206.1.length : Int) == 0) t197 t198 bt202.1 bt202.2.1) else (laws_FnRatios.j0 k l1 (wrap64 (1 + t201)) bt206.1 true t197 t198 bt202.1 bt202.2.1)))) else (laws_FnRatios.j0 k l1 (wrap64 (1 + t201)) bt206.1 true t197 t198 bt202.1 bt202.2.1)) else (laws_FnRatios.j0 k l1 (wrap64 (1 + t201)) bt206.1 true t197 t198 bt202.1 bt202.2.1)))))) else (some false)) = some r := H
    have A8 := Aside0.mk A80
    clear A80
    by_cases c9 : t199 = true
    · subst c9
      have H1 : (if t197 > (wrap64 (1000 * t198)) then (some true) else ((laws_b10At.f l1 0 40).bind fun t201 => ((impl_BestRatio.f t197 t198 (wrap64 (1 + t201))).bind fun bt202 => ((impl_RatioSteps.f k t197 t198).bind fun bt206 => (if bt202.2.2 = true then (if bt206.2 = true then (if bt202.2.1 > (wrap64 (1 + t201)) then (laws_FnRatios.j0 k l1 (wrap64 (1 + t201)) bt206.1 true t197 t198 bt202.1 bt202.2.1) else ((impl_ValidFraction.f k bt202.1 bt202.2.1).bind fun t210 => (if t210 = true then (laws_FnRatios.j0 k l1 (wrap64 (1 + t201)) bt206.1 ((bt206.1.length : Int) == 0) t197 t198 bt202.1 bt202.2.1) else (laws_FnRatios.j0 k l1 (wrap64 (1 + t201)) bt206.1 true t197 t198 bt202.1 bt202.2.1)))) else (laws_FnRatios.j0 k l1 (wrap64 (1 + t201)) bt206.1 true t197 t198 bt202.1 bt202.2.1)) else (laws_FnRatios.j0 k l1 (wrap64 (1 + t201)) bt206.1 true t197 t198 bt202.1 bt202.2.1)))))) = some r := by rw [if_pos rfl] at H; exact H
      clear H
      have H := H1
      clear H1
      by_cases c10 : t197 > (wrap64 (1000 * t198))
      · rw [if_pos c10] at H
        have c10b0 : decide ((wrap64 (1000 * t198)) < t197) = true := decide_eq_true c10
        clear c10
        obtain rfl := Option.some.inj H
        go_enter Try.func3, Try.ntmps3
        go_wp2_with (first | ((with_reducible refine gate_callee (f := 5) rfl ?_); refine goesL_ (some 26) rfl rfl Try.func5 (by kernel_rfl) rfl #[.slice A0 l0.length c0, .slice A1 l1.length c1] rfl (by (try simp only [List.map_toArray, List.map_cons, List.map_nil]); first | done | rfl | (simp only [List.length_drop, List.length_take]; rfl)) ?_; (with_reducible refine (laws_b10Long.calls _ _ l0 _ _ l1 false _ ?side1 ?side2 ?side3 ?side4 A3.out).mono ?_); (case side1 => repeat (first | exact HR0.out | (with_reducible refine Kd.C_alloc ?_ _) | (with_reducible refine Kd.C_drewN ?_ _) | (with_reducible refine Kd.C_drew ?_))); (case side2 => exact HC0.out); (case side3 => repeat (first | exact HR1.out | (with_reducible refine Kd.C_alloc ?_ _) | (with_reducible refine Kd.C_drewN ?_ _) | (with_reducible refine Kd.C_drew ?_))); (case side4 => exact HC1.out); rintro e w' ⟨rfl, ⟨nd, rfl⟩⟩; refine ⟨_, rfl, ?_⟩) | ((with_reducible refine gate_callee (f := 6) rfl ?_); refine goesL_ (some 28) rfl rfl Try.func6 (by kernel_rfl) rfl #[.slice A0 l0.length c0, .int .i64 0, .int .i64 256] rfl (by (try simp only [List.map_toArray, List.map_cons, List.map_nil]); first | done | rfl | (simp only [List.length_drop, List.length_take]; rfl)) ?_; (with_reducible refine (laws_b10At.calls _ _ l0 0 256 t194 _ ?side1 ?side2 A5.out).mono ?_); (case side1 => repeat (first | exact HR0.out | (with_reducible refine Kd.C_alloc ?_ _) | (with_reducible refine Kd.C_drewN ?_ _) | (with_reducible refine Kd.C_drew ?_))); (case side2 => exact HC0.out); rintro e w' ⟨rfl, ⟨nd, rfl⟩⟩; refine ⟨_, rfl, ?_⟩) | ((with_reducible refine gate_callee (f := 6) rfl ?_); refine goesL_ (some 33) rfl rfl Try.func6 (by kernel_rfl) rfl #[.slice A0 l0.length c0, .int .i64 1, .int .i64 40] rfl (by (try simp only [List.map_toArray, List.map_cons, List.map_nil]); first | done | rfl | (simp only [List.length_drop, List.length_take]; rfl)) ?_; (with_reducible refine (laws_b10At.calls _ _ l0 1 40 t195 _ ?side1 ?side2 A6.out).mono ?_); (case side1 => repeat (first | exact HR0.out | (with_reducible refine Kd.C_alloc ?_ _) | (with_reducible refine Kd.C_drewN ?_ _) | (with_reducible refine Kd.C_drew ?_))); (case side2 => exact HC0.out); rintro e w' ⟨rfl, ⟨nd, rfl⟩⟩; refine ⟨_, rfl, ?_⟩) | ((with_reducible refine gate_callee (f := 6) rfl ?_); refine goesL_ (some 36) rfl rfl Try.func6 (by kernel_rfl) rfl #[.slice A0 l0.length c0, .int .i64 2, .int .i64 256] rfl (by (try simp only [List.map_toArray, List.map_cons, List.map_nil]); first | done | rfl | (simp only [List.length_drop, List.length_take]; rfl)) ?_; (with_reducible refine (laws_b10At.calls _ _ l0 2 256 t196 _ ?side1 ?side2 A7.out).mono ?_); (case side1 => repeat (first | exact HR0.out | (with_reducible refine Kd.C_alloc ?_ _) | (with_reducible refine Kd.C_drewN ?_ _) | (with_reducible refine Kd.C_drew ?_))); (case side2 => exact HC0.out); rintro e w' ⟨rfl, ⟨nd, rfl⟩⟩; refine ⟨_, rfl, ?_⟩) | ((with_reducible refine gate_callee (f := 7) rfl ?_); refine goesL_ (some 39) rfl rfl Try.func7 (by kernel_rfl) rfl #[.int .i64 (wrap64 ((wrap64 (256 * t195)) + t196)), .int .i64 (wrap64 (1 + (wrap64 (3 * t194))))] rfl (by (try simp only [List.map_toArray, List.map_cons, List.map_nil]); first | done | rfl | (simp only [List.length_drop, List.length_take]; rfl)) ?_; (with_reducible refine (impl_MakeFraction.calls (wrap64 ((wrap64 (256 * t195)) + t196)) (wrap64 (1 + (wrap64 (3 * t194)))) t197 t198 true _ A8.out).mono ?_); rintro e w11 ⟨rfl, hb⟩; refine ⟨_, rfl, ?_⟩; have n0_ := Aside0.mk (below_step (by repeat (first | (with_reducible first | exact HB.out | apply below_alloc | apply pw_below_drewN | apply below_drew1) | exact HB.out)) hb); clear HB; have HB := n0_; clear n0_; (try clear hb); (try clear hb2); (try clear hk); (try clear hi)) | ((with_reducible refine gate_dst (N := 6) rfl ?_); (try (refine gate_guard (by rfl) ?_; dsimp only)); refine box_event ?hg (N := 6) ?hd (cs := #[.int .i64 0, .int .i64 0]) (t := 26) ?hr ?_; (case hd => rfl); (case hg => rfl); (case hr => first | (go_simp; done) | (go_simp; rfl)); intro gb200 hg w12 hbox hb; have n0_ := Aside0.mk (below_step (by repeat (first | (with_reducible first | exact HB.out | apply below_alloc | apply pw_below_drewN | apply below_drew1) | exact HB.out)) hb); have n1_ := Aside0.mk (hbox); have n2_ := Aside0.mk ((by rw [hg]; exact (below_size (by repeat (first | (with_reducible first | exact HB.out | apply below_alloc | apply pw_below_drewN | apply below_drew1) | exact HB.out))) : w.heap.size ≤ gb200)); have n3_ := Aside0.mk ((by rw [hg]; exact (below_size (by repeat (first | (with_reducible first | exact HB.out | apply below_alloc | apply pw_below_drewN | apply below_drew1) | exact HB.out))) : w.heap.size ≤ gb200)); clear HB; have HB := n0_; have BK200 := n1_; have GW200 := n2_; have GE200 := n3_; clear n0_ n1_ n2_ n3_; clear hb hbox hg; have hcz13_0 : w12.cell? ⟨gb200, 0, none⟩ = some (.int .i64 0) := (blk_cell BK200.out 0).trans rfl; have hcz13_1 : w12.cell? ⟨gb200, 1, none⟩ = some (.int .i64 0) := (blk_cell BK200.out 1).trans rfl; have hfz13_0 := blk_frozen BK200.out 0; have hfz13_1 := blk_frozen BK200.out 1))
        go_ret
        exact ⟨by first | rfl | (simp [errW_none, errW_some] <;> rfl) | (simp [*, errW_none, errW_some] <;> rfl), by repeat (first | (with_reducible first | exact HB.out | apply below_alloc | apply pw_below_drewN | apply below_drew1 | refine below_set ?_ GE200.out) | exact HB.out)⟩
      · rw [if_neg c10] at H
        have c10b0 : decide ((wrap64 (1000 * t198)) < t197) = false := decide_eq_false c10
        clear c10
        replace H := Option.bind_eq_some_iff.mp H
        obtain ⟨t201, A140, H⟩ := H
        replace H : ((impl_BestRatio.f t197 t198 (wrap64 (1 + t201))).bind fun bt202 => ((impl_RatioSteps.f k t197 t198).bind fun bt206 => (if bt202.2.2 = true then (if bt206.2 = true then (if bt202.2.1 > (wrap64 (1 + t201)) then (laws_FnRatios.j0 k l1 (wrap64 (1 + t201)) bt206.1 true t197 t198 bt202.1 bt202.2.1) else ((impl_ValidFraction.f k bt202.1 bt202.2.1).bind fun t210 => (if t210 = true then (laws_FnRatios.j0 k l1 (wrap64 (1 + t201)) bt206.1 ((bt206.1.length : Int) == 0) t197 t198 bt202.1 bt202.2.1) else (laws_FnRatios.j0 k l1 (wrap64 (1 + t201)) bt206.1 true t197 t198 bt202.1 bt202.2.1)))) else (laws_FnRatios.j0 k l1 (wrap64 (1 + t201)) bt206.1 true t197 t198 bt202.1 bt202.2.1)) else (laws_FnRatios.j0 k l1 (wrap64 (1 + t201)) bt206.1 true t197 t198 bt202.1 bt202.2.1)))) = some r := H
        have A14 := Aside0.mk A140
        clear A140
        replace H := Option.bind_eq_some_iff.mp H
        obtain ⟨⟨t202, t203, t204⟩, A150, H⟩ := H
        replace H : ((impl_RatioSteps.f k t197 t198).bind fun bt206 => (if t204 = true then (if bt206.2 = true then (if t203 > (wrap64 (1 + t201)) then (laws_FnRatios.j0 k l1 (wrap64 (1 + t201)) bt206.1 true t197 t198 t202 t203) else ((impl_ValidFraction.f k t202 t203).bind fun t210 => (if t210 = true then (laws_FnRatios.j0 k l1 (wrap64 (1 + t201)) bt206.1 ((bt206.1.length : Int) == 0) t197 t198 t202 t203) else (laws_FnRatios.j0 k l1 (wrap64 (1 + t201)) bt206.1 true t197 t198 t202 t203)))) else (laws_FnRatios.j0 k l1 (wrap64 (1 + t201)) bt206.1 true t197 t198 t202 t203)) else (laws_FnRatios.j0 k l1 (wrap64 (1 + t201)) bt206.1 true t197 t198 t202 t203))) = some r := H
        have A15 := Aside0.mk A150
        clear A150
        replace H := Option.bind_eq_some_iff.mp H
        obtain ⟨⟨t206, t209⟩, A160, H⟩ := H
        replace H : (if t204 = true then (if t209 = true then (if t203 > (wrap64 (1 + t201)) then (laws_FnRatios.j0 k l1 (wrap64 (1 + t201)) t206 true t197 t198 t202 t203) else ((impl_ValidFraction.f k t202 t203).bind fun t210 => (if t210 = true then (laws_FnRatios.j0 k l1 (wrap64 (1 + t201)) t206 ((t206.length : Int) == 0) t197 t198 t202 t203) else (laws_FnRatios.j0 k l1 (wrap64 (1 + t201)) t206 true t197 t198 t202 t203)))) else (laws_FnRatios.j0 k l1 (wrap64 (1 + t201)) t206 true t197 t198 t202 t203)) else (laws_FnRatios.j0 k l1 (wrap64 (1 + t201)) t206 true t197 t198 t202 t203)) = some r := H
        have A16 := Aside0.mk A160
        clear A160
        have HC17 := Aside0.mk H
        clear H
        go_enter Try.func3, Try.ntmps3
        go_upto_region 12 with (first | ((with_reducible refine gate_callee (f := 5) rfl ?_); refine goesL_ (some 26) rfl rfl Try.func5 (by kernel_rfl) rfl #[.slice A0 l0.length c0, .slice A1 l1.length c1] rfl (by (try simp only [List.map_toArray, List.map_cons, List.map_nil]); first | done | rfl | (simp only [List.length_drop, List.length_take]; rfl)) ?_; (with_reducible refine (laws_b10Long.calls _ _ l0 _ _ l1 false _ ?side1 ?side2 ?side3 ?side4 A3.out).mono ?_); (case side1 => repeat (first | exact HR0.out | (with_reducible refine Kd.C_alloc ?_ _) | (with_reducible refine Kd.C_drewN ?_ _) | (with_reducible refine Kd.C_drew ?_))); (case side2 => exact HC0.out); (case side3 => repeat (first | exact HR1.out | (with_reducible refine Kd.C_alloc ?_ _) | (with_reducible refine Kd.C_drewN ?_ _) | (with_reducible refine Kd.C_drew ?_))); (case side4 => exact HC1.out); rintro e w' ⟨rfl, ⟨nd, rfl⟩⟩; refine ⟨_, rfl, ?_⟩) | ((with_reducible refine gate_callee (f := 6) rfl ?_); refine goesL_ (some 28) rfl rfl Try.func6 (by kernel_rfl) rfl #[.slice A0 l0.length c0, .int .i64 0, .int .i64 256] rfl (by (try simp only [List.map_toArray, List.map_cons, List.map_nil]); first | done | rfl | (simp only [List.length_drop, List.length_take]; rfl)) ?_; (with_reducible refine (laws_b10At.calls _ _ l0 0 256 t194 _ ?side1 ?side2 A5.out).mono ?_); (case side1 => repeat (first | exact HR0.out | (with_reducible refine Kd.C_alloc ?_ _) | (with_reducible refine Kd.C_drewN ?_ _) | (with_reducible refine Kd.C_drew ?_))); (case side2 => exact HC0.out); rintro e w' ⟨rfl, ⟨nd, rfl⟩⟩; refine ⟨_, rfl, ?_⟩) | ((with_reducible refine gate_callee (f := 6) rfl ?_); refine goesL_ (some 33) rfl rfl Try.func6 (by kernel_rfl) rfl #[.slice A0 l0.length c0, .int .i64 1, .int .i64 40] rfl (by (try simp only [List.map_toArray, List.map_cons, List.map_nil]); first | done | rfl | (simp only [List.length_drop, List.length_take]; rfl)) ?_; (with_reducible refine (laws_b10At.calls _ _ l0 1 40 t195 _ ?side1 ?side2 A6.out).mono ?_); (case side1 => repeat (first | exact HR0.out | (with_reducible refine Kd.C_alloc ?_ _) | (with_reducible refine Kd.C_drewN ?_ _) | (with_reducible refine Kd.C_drew ?_))); (case side2 => exact HC0.out); rintro e w' ⟨rfl, ⟨nd, rfl⟩⟩; refine ⟨_, rfl, ?_⟩) | ((with_reducible refine gate_callee (f := 6) rfl ?_); refine goesL_ (some 36) rfl rfl Try.func6 (by kernel_rfl) rfl #[.slice A0 l0.length c0, .int .i64 2, .int .i64 256] rfl (by (try simp only [List.map_toArray, List.map_cons, List.map_nil]); first | done | rfl | (simp only [List.length_drop, List.length_take]; rfl)) ?_; (with_reducible refine (laws_b10At.calls _ _ l0 2 256 t196 _ ?side1 ?side2 A7.out).mono ?_); (case side1 => repeat (first | exact HR0.out | (with_reducible refine Kd.C_alloc ?_ _) | (with_reducible refine Kd.C_drewN ?_ _) | (with_reducible refine Kd.C_drew ?_))); (case side2 => exact HC0.out); rintro e w' ⟨rfl, ⟨nd, rfl⟩⟩; refine ⟨_, rfl, ?_⟩) | ((with_reducible refine gate_callee (f := 7) rfl ?_); refine goesL_ (some 39) rfl rfl Try.func7 (by kernel_rfl) rfl #[.int .i64 (wrap64 ((wrap64 (256 * t195)) + t196)), .int .i64 (wrap64 (1 + (wrap64 (3 * t194))))] rfl (by (try simp only [List.map_toArray, List.map_cons, List.map_nil]); first | done | rfl | (simp only [List.length_drop, List.length_take]; rfl)) ?_; (with_reducible refine (impl_MakeFraction.calls (wrap64 ((wrap64 (256 * t195)) + t196)) (wrap64 (1 + (wrap64 (3 * t194)))) t197 t198 true _ A8.out).mono ?_); rintro e w18 ⟨rfl, hb⟩; refine ⟨_, rfl, ?_⟩; have n0_ := Aside0.mk (below_step (by repeat (first | (with_reducible first | exact HB.out | apply below_alloc | apply pw_below_drewN | apply below_drew1) | exact HB.out)) hb); clear HB; have HB := n0_; clear n0_; (try clear hb); (try clear hb2); (try clear hk); (try clear hi)) | ((with_reducible refine gate_dst (N := 6) rfl ?_); (try (refine gate_guard (by rfl) ?_; dsimp only)); refine box_event ?hg (N := 6) ?hd (cs := #[.int .i64 0, .int .i64 0]) (t := 26) ?hr ?_; (case hd => rfl); (case hg => rfl); (case hr => first | (go_simp; done) | (go_simp; rfl)); intro gb200 hg w19 hbox hb; have n0_ := Aside0.mk (below_step (by repeat (first | (with_reducible first | exact HB.out | apply below_alloc | apply pw_below_drewN | apply below_drew1) | exact HB.out)) hb); have n1_ := Aside0.mk (hbox); have n2_ := Aside0.mk ((by rw [hg]; exact (below_size (by repeat (first | (with_reducible first | exact HB.out | apply below_alloc | apply pw_below_drewN | apply below_drew1) | exact HB.out))) : w.heap.size ≤ gb200)); have n3_ := Aside0.mk ((by rw [hg]; exact (below_size (by repeat (first | (with_reducible first | exact HB.out | apply below_alloc | apply pw_below_drewN | apply below_drew1) | exact HB.out))) : w.heap.size ≤ gb200)); clear HB; have HB := n0_; have BK200 := n1_; have GW200 := n2_; have GE200 := n3_; clear n0_ n1_ n2_ n3_; clear hb hbox hg; have hcz20_0 : w19.cell? ⟨gb200, 0, none⟩ = some (.int .i64 0) := (blk_cell BK200.out 0).trans rfl; have hcz20_1 : w19.cell? ⟨gb200, 1, none⟩ = some (.int .i64 0) := (blk_cell BK200.out 1).trans rfl; have hfz20_0 := blk_frozen BK200.out 0; have hfz20_1 := blk_frozen BK200.out 1) | ((with_reducible refine gate_callee (f := 6) rfl ?_); refine goesL_ (some 51) rfl rfl Try.func6 (by kernel_rfl) rfl #[.slice A1 l1.length c1, .int .i64 0, .int .i64 40] rfl (by (try simp only [List.map_toArray, List.map_cons, List.map_nil]); first | done | rfl | (simp only [List.length_drop, List.length_take]; rfl)) ?_; (with_reducible refine (laws_b10At.calls _ _ l1 0 40 t201 _ ?side1 ?side2 A14.out).mono ?_); (case side1 => exact Kd.C_below HR1.out (by repeat (first | (with_reducible first | exact HB.out | apply below_alloc | apply pw_below_drewN | apply below_drew1 | refine below_set ?_ GE200.out) | exact HB.out))); (case side2 => exact HC1.out); rintro e w' ⟨rfl, ⟨nd, rfl⟩⟩; refine ⟨_, rfl, ?_⟩) | ((with_reducible refine gate_callee (f := 8) rfl ?_); refine goesL_ (some 56) rfl rfl Try.func8 (by kernel_rfl) rfl #[.agg #[.int .i64 t197, .int .i64 t198], .int .i64 (wrap64 (1 + t201))] rfl (by (try simp only [List.map_toArray, List.map_cons, List.map_nil]); first | done | rfl | (simp only [List.length_drop, List.length_take]; rfl)) ?_; (with_reducible refine (impl_BestRatio.calls t197 t198 (wrap64 (1 + t201)) t202 t203 t204 _ A15.out).mono ?_); rintro e w21 ⟨rfl, hb⟩; refine ⟨_, rfl, ?_⟩; have n0_ := Aside0.mk (blk_below (g := gb200) (o := .cells #[.int .i64 t197, .int .i64 t198] 26 (0, 0)) (by (with_reducible repeat (first | refine blk_drewN ?_ _ | refine blk_drew ?_ | refine blk_alloc ?_ _)); refine blk_put (cs := #[.int .i64 t197, .int .i64 0]) ?_ 1 _ rfl; (with_reducible repeat (first | refine blk_drewN ?_ _ | refine blk_drew ?_ | refine blk_alloc ?_ _)); refine blk_put (cs := #[.int .i64 0, .int .i64 0]) ?_ 0 _ rfl; (with_reducible repeat (first | refine blk_drewN ?_ _ | refine blk_drew ?_ | refine blk_alloc ?_ _)); exact BK200.out) hb); have n1_ := Aside0.mk (below_step (by repeat (first | (with_reducible first | exact HB.out | apply below_alloc | apply pw_below_drewN | apply below_drew1 | refine below_set ?_ GE200.out) | exact HB.out)) hb); clear BK200; clear HB; have BK200 := n0_; have HB := n1_; clear n0_ n1_; (try clear hb); (try clear hb2); (try clear hk); (try clear hi)) | ((with_reducible refine gate_dst (N := 9) rfl ?_); (try (refine gate_guard (by rfl) ?_; dsimp only)); refine box_event ?hg (N := 9) ?hd (cs := #[.int .i64 0, .int .i64 0]) (t := 26) ?hr ?_; (case hd => rfl); (case hg => rfl); (case hr => first | (go_simp; done) | (go_simp; rfl)); intro gb205 hg w22 hbox hb; have n0_ := Aside0.mk (blk_below (g := gb200) (o := .cells #[.int .i64 t197, .int .i64 t198] 26 (0, 0)) (by (with_reducible repeat (first | refine blk_drewN ?_ _ | refine blk_drew ?_ | refine blk_alloc ?_ _)); exact BK200.out) hb); have n1_ := Aside0.mk (below_step (by repeat (first | (with_reducible first | exact HB.out | apply below_alloc | apply pw_below_drewN | apply below_drew1 | refine below_set ?_ GE200.out) | exact HB.out)) hb); have n2_ := Aside0.mk (hbox); have n3_ := Aside0.mk ((by rw [hg]; exact (below_size (by repeat (first | (with_reducible first | exact HB.out | apply below_alloc | apply pw_below_drewN | apply below_drew1 | refine below_set ?_ GE200.out) | exact HB.out))) : w.heap.size ≤ gb205)); have n4_ := Aside0.mk ((by rw [hg]; exact (below_size (by repeat (first | (with_reducible first | exact HB.out | apply below_alloc | apply pw_below_drewN | apply below_drew1 | refine below_set ?_ GE200.out) | exact HB.out))) : w.heap.size ≤ gb205)); have n5_ := Aside0.mk ((by rw [hg]; exact Nat.ne_of_lt (blk_lt (g := gb200) (o := .cells #[.int .i64 t197, .int .i64 t198] 26 (0, 0)) (by (with_reducible repeat (first | refine blk_drewN ?_ _ | refine blk_drew ?_ | refine blk_alloc ?_ _)); exact BK200.out)) : gb200 ≠ gb205)); have n6_ := Aside0.mk ((by rw [hg]; exact Nat.ne_of_gt (blk_lt (g := gb200) (o := .cells #[.int .i64 t197, .int .i64 t198] 26 (0, 0)) (by (with_reducible repeat (first | refine blk_drewN ?_ _ | refine blk_drew ?_ | refine blk_alloc ?_ _)); exact BK200.out)) : gb205 ≠ gb200)); clear BK200; clear HB; have BK200 := n0_; have HB := n1_; have BK205 := n2_; have GW205 := n3_; have GE205 := n4_; have NB200_205 := n5_; have NB205_200 := n6_; clear n0_ n1_ n2_ n3_ n4_ n5_ n6_; clear hb hbox hg; have hnb23 := NB205_200.out; have hnc23 := NB200_205.out; have hcz24_0 : w22.cell? ⟨gb205, 0, none⟩ = some (.int .i64 0) := (blk_cell BK205.out 0).trans rfl; have hcz24_1 : w22.cell? ⟨gb205, 1, none⟩ = some (.int .i64 0) := (blk_cell BK205.out 1).trans rfl; have hfz24_0 := blk_frozen BK205.out 0; have hfz24_1 := blk_frozen BK205.out 1; have hcz25_0 : w22.cell? ⟨gb200, 0, none⟩ = some (.int .i64 t197) := (blk_cell BK200.out 0).trans rfl; have hcz25_1 : w22.cell? ⟨gb200, 1, none⟩ = some (.int .i64 t198) := (blk_cell BK200.out 1).trans rfl; have hfz25_0 := blk_frozen BK200.out 0; have hfz25_1 := blk_frozen BK200.out 1) | ((with_reducible refine gate_callee (f := 9) rfl ?_); refine goesL_ (some 61) rfl rfl Try.func9 (by kernel_rfl) rfl #[.agg #[.int .i64 t197, .int .i64 t198]] rfl (by (try simp only [List.map_toArray, List.map_cons, List.map_nil]); first | done | rfl | (simp only [List.length_drop, List.length_take]; rfl)) ?_; (with_reducible refine (impl_RatioSteps.calls k t197 t198 t206 t209 _ A16.out).mono ?_); rintro e w26 ⟨v207, rfl, ho0, hb⟩; refine ⟨_, rfl, ?_⟩; have n0_ := Aside0.mk (Kd.R_lower ho0 (below_size (by repeat (first | (with_reducible first | exact HB.out | apply below_alloc | apply pw_below_drewN | apply below_drew1 | refine below_set ?_ GE200.out | refine below_set ?_ GE205.out) | exact HB.out)))); have n1_ := Aside0.mk (blk_below (g := gb200) (o := .cells #[.int .i64 t197, .int .i64 t198] 26 (0, 0)) (by (with_reducible repeat (first | refine blk_drewN ?_ _ | refine blk_drew ?_ | refine blk_alloc ?_ _)); refine blk_far ?_ NB200_205.out _; (with_reducible repeat (first | refine blk_drewN ?_ _ | refine blk_drew ?_ | refine blk_alloc ?_ _)); refine blk_far ?_ NB200_205.out _; (with_reducible repeat (first | refine blk_drewN ?_ _ | refine blk_drew ?_ | refine blk_alloc ?_ _)); exact BK200.out) hb); have n2_ := Aside0.mk (blk_below (g := gb205) (o := .cells #[.int .i64 t202, .int .i64 t203] 26 (0, 0)) (by (with_reducible repeat (first | refine blk_drewN ?_ _ | refine blk_drew ?_ | refine blk_alloc ?_ _)); refine blk_put (cs := #[.int .i64 t202, .int .i64 0]) ?_ 1 _ rfl; (with_reducible repeat (first | refine blk_drewN ?_ _ | refine blk_drew ?_ | refine blk_alloc ?_ _)); refine blk_put (cs := #[.int .i64 0, .int .i64 0]) ?_ 0 _ rfl; (with_reducible repeat (first | refine blk_drewN ?_ _ | refine blk_drew ?_ | refine blk_alloc ?_ _)); exact BK205.out) hb); have n3_ := Aside0.mk (below_step (by repeat (first | (with_reducible first | exact HB.out | apply below_alloc | apply pw_below_drewN | apply below_drew1 | refine below_set ?_ GE200.out | refine below_set ?_ GE205.out) | exact HB.out)) hb); clear BK200; clear BK205; clear HB; have HO208 := n0_; have BK200 := n1_; have BK205 := n2_; have HB := n3_; clear n0_ n1_ n2_ n3_; (try clear hb); (try clear hb2); (try clear hk); (try clear hi); (try clear ho0)))
        (try simp only [Act.put, List.setIfInBounds_toArray, List.set_cons_zero, List.set_cons_succ])
        go_cut [85] (fun v85 wc => ∃ (kq : Nat) (x85_16 : Bool), v85 = .bool x85_16 ∧ Aside0 (laws_FnRatios.j0 kq l1 (wrap64 (1 + t201)) t206 x85_16 t197 t198 t202 t203 = some r) ∧ Aside0 (kq ≤ k) ∧ Aside0 (Kd.R (Kd.int .i64) 2 wc w.heap.size (fun _ => True) v207 t206) ∧ Aside0 (wc.heap[gb200]? = some (.cells #[.int .i64 t197, .int .i64 t198] 26 (0, 0))) ∧ Aside0 (wc.heap[gb205]? = some (.cells #[.int .i64 t202, .int .i64 t203] 26 (0, 0))) ∧ Aside0 (Below w.heap.size w wc))
        case first =>
          have H := HC17.out
          clear HC17
          by_cases c27 : t204 = true
          · subst c27
            have H1 : (if t209 = true then (if t203 > (wrap64 (1 + t201)) then (laws_FnRatios.j0 k l1 (wrap64 (1 + t201)) t206 true t197 t198 t202 t203) else ((impl_ValidFraction.f k t202 t203).bind fun t210 => (if t210 = true then (laws_FnRatios.j0 k l1 (wrap64 (1 + t201)) t206 ((t206.length : Int) == 0) t197 t198 t202 t203) else (laws_FnRatios.j0 k l1 (wrap64 (1 + t201)) t206 true t197 t198 t202 t203)))) else (laws_FnRatios.j0 k l1 (wrap64 (1 + t201)) t206 true t197 t198 t202 t203)) = some r := by rw [if_pos rfl] at H; exact H
            clear H
            have H := H1
            clear H1
            by_cases c28 : t209 = true
            · subst c28
              have H1 : (if t203 > (wrap64 (1 + t201)) then (laws_FnRatios.j0 k l1 (wrap64 (1 + t201)) t206 true t197 t198 t202 t203) else ((impl_ValidFraction.f k t202 t203).bind fun t210 => (if t210 = true then (laws_FnRatios.j0 k l1 (wrap64 (1 + t201)) t206 ((t206.length : Int) == 0) t197 t198 t202 t203) else (laws_FnRatios.j0 k l1 (wrap64 (1 + t201)) t206 true t197 t198 t202 t203)))) = some r := by rw [if_pos rfl] at H; exact H
              clear H
              have H := H1
              clear H1
              by_cases c29 : t203 > (wrap64 (1 + t201))
              · rw [if_pos c29] at H
                have c29b0 : decide ((wrap64 (1 + t201)) < t203) = true := decide_eq_true c29
                clear c29
                (first | rw [c29b0] | (simp only [i64_w, i32_w]; rw [c29b0]) | skip)
                have H' := Aside0.mk H
                clear H
                have hnb30 := NB205_200.out
                have hnc30 := NB200_205.out
                have hcz31_0 : w26.cell? ⟨gb205, 0, none⟩ = some (.int .i64 t202) := (blk_cell BK205.out 0).trans rfl
                have hcz31_1 : w26.cell? ⟨gb205, 1, none⟩ = some (.int .i64 t203) := (blk_cell BK205.out 1).trans rfl
                have hfz31_0 := blk_frozen BK205.out 0
                have hfz31_1 := blk_frozen BK205.out 1
                go_wp2
                go_meet
                case rel => exact ⟨_, (true), (by first | rfl | (simp; done) | (simp [*]; done)), H', ⟨by first | omega | exact Nat.le_refl _⟩, ⟨by (with_reducible repeat (first | apply Kd.R_alloc | apply Kd.R_drewN | apply Kd.R_drew)); exact HO208.out⟩, ⟨by (with_reducible repeat (first | refine blk_drewN ?_ _ | refine blk_drew ?_ | refine blk_alloc ?_ _)); exact BK200.out⟩, ⟨by (with_reducible repeat (first | refine blk_drewN ?_ _ | refine blk_drew ?_ | refine blk_alloc ?_ _)); exact BK205.out⟩, ⟨by repeat (first | (with_reducible first | exact HB.out | apply below_alloc | apply pw_below_drewN | apply below_drew1 | refine below_set ?_ GE200.out | refine below_set ?_ GE205.out) | exact HB.out)⟩⟩
              · rw [if_neg c29] at H
                have c29b0 : decide ((wrap64 (1 + t201)) < t203) = false := decide_eq_false c29
                clear c29
                (first | rw [c29b0] | (simp only [i64_w, i32_w]; rw [c29b0]) | skip)
                replace H := Option.bind_eq_some_iff.mp H
                obtain ⟨t210, A320, H⟩ := H
                replace H : (if t210 = true then (laws_FnRatios.j0 k l1 (wrap64 (1 + t201)) t206 ((t206.length : Int) == 0) t197 t198 t202 t203) else (laws_FnRatios.j0 k l1 (wrap64 (1 + t201)) t206 true t197 t198 t202 t203)) = some r := H
                have A32 := Aside0.mk A320
                clear A320
                by_cases c33 : t210 = true
                · subst c33
                  have H1 : (laws_FnRatios.j0 k l1 (wrap64 (1 + t201)) t206 ((t206.length : Int) == 0) t197 t198 t202 t203) = some r := by rw [if_pos rfl] at H; exact H
                  clear H
                  have H := H1
                  clear H1
                  have H' := Aside0.mk H
                  clear H
                  have hnb34 := NB205_200.out
                  have hnc34 := NB200_205.out
                  have hcz35_0 : w26.cell? ⟨gb205, 0, none⟩ = some (.int .i64 t202) := (blk_cell BK205.out 0).trans rfl
                  have hcz35_1 : w26.cell? ⟨gb205, 1, none⟩ = some (.int .i64 t203) := (blk_cell BK205.out 1).trans rfl
                  have hfz35_0 := blk_frozen BK205.out 0
                  have hfz35_1 := blk_frozen BK205.out 1
                  go_wp2_with (first | (go_at_call 10; (with_reducible refine (impl_ValidFraction.calls k t202 t203 true _ A32.out).mono ?_); rintro e w36 ⟨rfl, hb⟩; have n0_ := Aside0.mk (Kd.R_below (by (with_reducible repeat (first | apply Kd.R_alloc | apply Kd.R_drewN | apply Kd.R_drew)); exact HO208.out) hb); have n1_ := Aside0.mk (blk_below (g := gb200) (o := .cells #[.int .i64 t197, .int .i64 t198] 26 (0, 0)) (by (with_reducible repeat (first | refine blk_drewN ?_ _ | refine blk_drew ?_ | refine blk_alloc ?_ _)); exact BK200.out) hb); have n2_ := Aside0.mk (blk_below (g := gb205) (o := .cells #[.int .i64 t202, .int .i64 t203] 26 (0, 0)) (by (with_reducible repeat (first | refine blk_drewN ?_ _ | refine blk_drew ?_ | refine blk_alloc ?_ _)); exact BK205.out) hb); have n3_ := Aside0.mk (below_step (by repeat (first | (with_reducible first | exact HB.out | apply below_alloc | apply pw_below_drewN | apply below_drew1 | refine below_set ?_ GE200.out | refine below_set ?_ GE205.out) | exact HB.out)) hb); clear HO208; clear BK200; clear BK205; clear HB; have HO208 := n0_; have BK200 := n1_; have BK205 := n2_; have HB := n3_; clear n0_ n1_ n2_ n3_; (try clear hb); (try clear hb2); (try clear hk); (try clear hi); obtain ⟨Ao37, co37, eo37⟩ := Kd.R_slice HO208.out; subst eo37))
                  go_meet
                  case rel => exact ⟨_, (((t206.length : Int) == 0)), (by first | rfl | (simp; done) | (simp [*]; done)), H', ⟨by first | omega | exact Nat.le_refl _⟩, ⟨by (with_reducible repeat (first | apply Kd.R_alloc | apply Kd.R_drewN | apply Kd.R_drew)); exact HO208.out⟩, ⟨by (with_reducible repeat (first | refine blk_drewN ?_ _ | refine blk_drew ?_ | refine blk_alloc ?_ _)); exact BK200.out⟩, ⟨by (with_reducible repeat (first | refine blk_drewN ?_ _ | refine blk_drew ?_ | refine blk_alloc ?_ _)); exact BK205.out⟩, ⟨by repeat (first | (with_reducible first | exact HB.out | apply below_alloc | apply pw_below_drewN | apply below_drew1 | refine below_set ?_ GE200.out | refine below_set ?_ GE205.out) | exact HB.out)⟩⟩
                · replace c33 := Bool.eq_false_iff.mpr c33
                  subst c33
                  have H1 : (laws_FnRatios.j0 k l1 (wrap64 (1 + t201)) t206 true t197 t198 t202 t203) = some r := by rw [if_neg (show ¬ (false = true) by decide)] at H; exact H
                  clear H
                  have H := H1
                  clear H1
                  have H' := Aside0.mk H
                  clear H
                  have hnb38 := NB205_200.out
                  have hnc38 := NB200_205.out
                  have hcz39_0 : w26.cell? ⟨gb205, 0, none⟩ = some (.int .i64 t202) := (blk_cell BK205.out 0).trans rfl
                  have hcz39_1 : w26.cell? ⟨gb205, 1, none⟩ = some (.int .i64 t203) := (blk_cell BK205.out 1).trans rfl
                  have hfz39_0 := blk_frozen BK205.out 0
                  have hfz39_1 := blk_frozen BK205.out 1
                  go_wp2_with (first | (go_at_call 10; (with_reducible refine (impl_ValidFraction.calls k t202 t203 false _ A32.out).mono ?_); rintro e w40 ⟨rfl, hb⟩; have n0_ := Aside0.mk (Kd.R_below (by (with_reducible repeat (first | apply Kd.R_alloc | apply Kd.R_drewN | apply Kd.R_drew)); exact HO208.out) hb); have n1_ := Aside0.mk (blk_below (g := gb200) (o := .cells #[.int .i64 t197, .int .i64 t198] 26 (0, 0)) (by (with_reducible repeat (first | refine blk_drewN ?_ _ | refine blk_drew ?_ | refine blk_alloc ?_ _)); exact BK200.out) hb); have n2_ := Aside0.mk (blk_below (g := gb205) (o := .cells #[.int .i64 t202, .int .i64 t203] 26 (0, 0)) (by (with_reducible repeat (first | refine blk_drewN ?_ _ | refine blk_drew ?_ | refine blk_alloc ?_ _)); exact BK205.out) hb); have n3_ := Aside0.mk (below_step (by repeat (first | (with_reducible first | exact HB.out | apply below_alloc | apply pw_below_drewN | apply below_drew1 | refine below_set ?_ GE200.out | refine below_set ?_ GE205.out) | exact HB.out)) hb); clear HO208; clear BK200; clear BK205; clear HB; have HO208 := n0_; have BK200 := n1_; have BK205 := n2_; have HB := n3_; clear n0_ n1_ n2_ n3_; (try clear hb); (try clear hb2); (try clear hk); (try clear hi)))
                  go_meet
                  case rel => exact ⟨_, (true), (by first | rfl | (simp; done) | (simp [*]; done)), H', ⟨by first | omega | exact Nat.le_refl _⟩, ⟨by (with_reducible repeat (first | apply Kd.R_alloc | apply Kd.R_drewN | apply Kd.R_drew)); exact HO208.out⟩, ⟨by (with_reducible repeat (first | refine blk_drewN ?_ _ | refine blk_drew ?_ | refine blk_alloc ?_ _)); exact BK200.out⟩, ⟨by (with_reducible repeat (first | refine blk_drewN ?_ _ | refine blk_drew ?_ | refine blk_alloc ?_ _)); exact BK205.out⟩, ⟨by repeat (first | (with_reducible first | exact HB.out | apply below_alloc | apply pw_below_drewN | apply below_drew1 | refine below_set ?_ GE200.out | refine below_set ?_ GE205.out) | exact HB.out)⟩⟩
            · replace c28 := Bool.eq_false_iff.mpr c28
              subst c28
              have H1 : (laws_FnRatios.j0 k l1 (wrap64 (1 + t201)) t206 true t197 t198 t202 t203) = some r := by rw [if_neg (show ¬ (false = true) by decide)] at H; exact H
              clear H
              have H := H1
              clear H1
              have H' := Aside0.mk H
              clear H
              go_wp2
              go_meet
              case rel => exact ⟨_, (true), (by first | rfl | (simp; done) | (simp [*]; done)), H', ⟨by first | omega | exact Nat.le_refl _⟩, ⟨by (with_reducible repeat (first | apply Kd.R_alloc | apply Kd.R_drewN | apply Kd.R_drew)); exact HO208.out⟩, ⟨by (with_reducible repeat (first | refine blk_drewN ?_ _ | refine blk_drew ?_ | refine blk_alloc ?_ _)); exact BK200.out⟩, ⟨by (with_reducible repeat (first | refine blk_drewN ?_ _ | refine blk_drew ?_ | refine blk_alloc ?_ _)); exact BK205.out⟩, ⟨by repeat (first | (with_reducible first | exact HB.out | apply below_alloc | apply pw_below_drewN | apply below_drew1 | refine below_set ?_ GE200.out | refine below_set ?_ GE205.out) | exact HB.out)⟩⟩
          · replace c27 := Bool.eq_false_iff.mpr c27
            subst c27
            have H1 : (laws_FnRatios.j0 k l1 (wrap64 (1 + t201)) t206 true t197 t198 t202 t203) = some r := by rw [if_neg (show ¬ (false = true) by decide)] at H; exact H
            clear H
            have H := H1
            clear H1
            have H' := Aside0.mk H
            clear H
            go_wp2
            go_meet
            case rel => exact ⟨_, (true), (by first | rfl | (simp; done) | (simp [*]; done)), H', ⟨by first | omega | exact Nat.le_refl _⟩, ⟨by (with_reducible repeat (first | apply Kd.R_alloc | apply Kd.R_drewN | apply Kd.R_drew)); exact HO208.out⟩, ⟨by (with_reducible repeat (first | refine blk_drewN ?_ _ | refine blk_drew ?_ | refine blk_alloc ?_ _)); exact BK200.out⟩, ⟨by (with_reducible repeat (first | refine blk_drewN ?_ _ | refine blk_drew ?_ | refine blk_alloc ?_ _)); exact BK205.out⟩, ⟨by repeat (first | (with_reducible first | exact HB.out | apply below_alloc | apply pw_below_drewN | apply below_drew1 | refine below_set ?_ GE200.out | refine below_set ?_ GE205.out) | exact HB.out)⟩⟩
        case rest =>
          clear HC17
          try clear c1
          try clear c2
          try clear p2
          try clear c3
          try clear c4
          try clear c5
          try clear c6
          try clear p6
          try clear c7
          try clear c8
          try clear c9
          try clear c10
          try clear c10b0
          try clear c23
          try clear c27
          try clear c28
          try clear c29
          try clear c29b0
          try clear c30
          try clear c33
          try clear c34
          try clear c38
          try clear hcz13_0
          try clear hcz13_1
          try clear hcz20_0
          try clear hcz20_1
          try clear hcz24_0
          try clear hcz24_1
          try clear hcz25_0
          try clear hcz25_1
          try clear hcz31_0
          try clear hcz31_1
          try clear hcz35_0
          try clear hcz35_1
          try clear hcz39_0
          try clear hcz39_1
          try clear hfz13_0
          try clear hfz13_1
          try clear hfz20_0
          try clear hfz20_1
          try clear hfz24_0
          try clear hfz24_1
          try clear hfz25_0
          try clear hfz25_1
          try clear hfz31_0
          try clear hfz31_1
          try clear hfz35_0
          try clear hfz35_1
          try clear hfz39_0
          try clear hfz39_1
          obtain ⟨kq, x85_16, rfl, HA, HJ16, HO_11, BK200, BK205, HB⟩ := hcut
          cases kq with
          | zero => exact absurd HA.out (by simp [laws_FnRatios.j0])
          | succ kj16 =>
            have H := HA.out
            clear HA
            simp only [laws_FnRatios.j0] at H
            by_cases c41 : x85_16 = true
            · subst c41
              have H1 : (some false) = some r := by rw [if_pos rfl] at H; exact H
              clear H
              have H := H1
              clear H1
              obtain rfl := Option.some.inj H
              go_wp2
              go_ret
              exact ⟨by first | rfl | (simp [errW_none, errW_some] <;> rfl) | (simp [*, errW_none, errW_some] <;> rfl), by repeat (first | (with_reducible first | exact HB.out | apply below_alloc | apply pw_below_drewN | apply below_drew1 | refine below_set ?_ GE200.out | refine below_set ?_ GE205.out) | exact HB.out)⟩
            · replace c41 := Bool.eq_false_iff.mpr c41
              subst c41
              have H1 : ((laws_b10At.f l1 1 (wrap64 (1 + t201))).bind fun t211 => (if t198 = 0 then (none) else (laws_FnRatios.l0 kj16 t206 (wrap64 (1 + t211)) (wrap64 (Int.tdiv (wrap64 (t197 * (wrap64 (1 + t211)))) t198)) 0 t197 t198 t202 t203))) = some r := by rw [if_neg (show ¬ (false = true) by decide)] at H; exact H
              clear H
              have H := H1
              clear H1
              replace H := Option.bind_eq_some_iff.mp H
              obtain ⟨t211, A420, H⟩ := H
              replace H : (if t198 = 0 then (none) else (laws_FnRatios.l0 kj16 t206 (wrap64 (1 + t211)) (wrap64 (Int.tdiv (wrap64 (t197 * (wrap64 (1 + t211)))) t198)) 0 t197 t198 t202 t203)) = some r := H
              have A42 := Aside0.mk A420
              clear A420
              by_cases c43 : t198 = 0
              · rw [if_pos c43] at H
                exact absurd H (by simp)
              · rw [if_neg c43] at H
                have c43b0 : (t198 == 0) = false := beq_eq_false_iff_ne.mpr c43
                have c43b1 : (t198 != 0) = true := bne_iff_ne.mpr c43
                have H' := Aside0.mk H
                clear H
                go_wp2_with (first | ((with_reducible refine gate_callee (f := 6) rfl ?_); refine goesL_ (some 88) rfl rfl Try.func6 (by kernel_rfl) rfl #[.slice A1 l1.length c1, .int .i64 1, .int .i64 (wrap64 (1 + t201))] rfl (by (try simp only [List.map_toArray, List.map_cons, List.map_nil]); first | done | rfl | (simp only [List.length_drop, List.length_take]; rfl)) ?_; (with_reducible refine (laws_b10At.calls _ _ l1 1 (wrap64 (1 + t201)) t211 _ ?side1 ?side2 A42.out).mono ?_); (case side1 => repeat (first | exact (Kd.C_below HR1.out HB.out) | (with_reducible refine Kd.C_alloc ?_ _) | (with_reducible refine Kd.C_drewN ?_ _) | (with_reducible refine Kd.C_drew ?_))); (case side2 => exact HC1.out); rintro e w' ⟨rfl, ⟨nd, rfl⟩⟩; refine ⟨_, rfl, ?_⟩; have hnb44 := NB200_205.out; have hnc44 := NB205_200.out; have hcz45_0 : wc.cell? ⟨gb200, 0, none⟩ = some (.int .i64 t197) := (blk_cell BK200.out 0).trans rfl; have hcz45_1 : wc.cell? ⟨gb200, 1, none⟩ = some (.int .i64 t198) := (blk_cell BK200.out 1).trans rfl; have hfz45_0 := blk_frozen BK200.out 0; have hfz45_1 := blk_frozen BK200.out 1))
                go_loopg [15] kj16 (fun kq v15 w' => ∃ (x15_2 : Int), v15 = .int .i64 x15_2 ∧ Aside0 (laws_FnRatios.l0 kq t206 (wrap64 (1 + t211)) (wrap64 (Int.tdiv (wrap64 (t197 * (wrap64 (1 + t211)))) t198)) x15_2 t197 t198 t202 t203 = some r) ∧ Aside0 (kq ≤ kj16) ∧ Aside0 (Kd.R (Kd.int .i64) 2 w' w.heap.size (fun _ => True) v207 t206) ∧ Aside0 (w'.heap[gb200]? = some (.cells #[.int .i64 t197, .int .i64 t198] 26 (0, 0))) ∧ Aside0 (w'.heap[gb205]? = some (.cells #[.int .i64 t202, .int .i64 t203] 26 (0, 0))) ∧ Aside0 (Below w.heap.size w w'))
                case atStart => exact ⟨(0), (by first | rfl | (simp; done) | (simp [*]; done)), H', ⟨Nat.le_refl _⟩, ⟨by (with_reducible repeat (first | apply Kd.R_alloc | apply Kd.R_drewN | apply Kd.R_drew)); exact HO_11.out⟩, ⟨by (with_reducible repeat (first | refine blk_drewN ?_ _ | refine blk_drew ?_ | refine blk_alloc ?_ _)); exact BK200.out⟩, ⟨by (with_reducible repeat (first | refine blk_drewN ?_ _ | refine blk_drew ?_ | refine blk_alloc ?_ _)); exact BK205.out⟩, ⟨by repeat (first | (with_reducible first | exact HB.out | apply below_alloc | apply pw_below_drewN | apply below_drew1 | refine below_set ?_ GE200.out | refine below_set ?_ GE205.out) | exact HB.out)⟩⟩
                case round =>
                  clear H'
                  try clear c1
                  try clear c2
                  try clear p2
                  try clear c3
                  try clear c4
                  try clear c5
                  try clear c6
                  try clear p6
                  try clear c7
                  try clear c8
                  try clear c9
                  try clear c10
                  try clear c10b0
                  try clear c23
                  try clear c27
                  try clear c28
                  try clear c29
                  try clear c29b0
                  try clear c30
                  try clear c33
                  try clear c34
                  try clear c38
                  try clear c41
                  try clear c43
                  try clear c43b0
                  try clear c43b1
                  try clear c44
                  try clear hcz13_0
                  try clear hcz13_1
                  try clear hcz20_0
                  try clear hcz20_1
                  try clear hcz24_0
                  try clear hcz24_1
                  try clear hcz25_0
                  try clear hcz25_1
                  try clear hcz31_0
                  try clear hcz31_1
                  try clear hcz35_0
                  try clear hcz35_1
                  try clear hcz39_0
                  try clear hcz39_1
                  try clear hcz45_0
                  try clear hcz45_1
                  try clear hfz13_0
                  try clear hfz13_1
                  try clear hfz20_0
                  try clear hfz20_1
                  try clear hfz24_0
                  try clear hfz24_1
                  try clear hfz25_0
                  try clear hfz25_1
                  try clear hfz31_0
                  try clear hfz31_1
                  try clear hfz35_0
                  try clear hfz35_1
                  try clear hfz39_0
                  try clear hfz39_1
                  try clear hfz45_0
                  try clear hfz45_1
                  try clear p2
                  try clear p6
                  obtain ⟨x15_2, rfl, HA, HK2, HO_11, BK200, BK205, HB⟩ := hrel
                  cases gk with
                  | zero => exact absurd HA.out (by simp [laws_FnRatios.l0])
                  | succ k2 =>
                    have H := HA.out
                    clear HA
                    simp only [laws_FnRatios.l0] at H
                    by_cases c46 : x15_2 < 2
                    · rw [if_pos c46] at H
                      have c46b0 : decide (x15_2 < 2) = true := decide_eq_true c46
                      clear c46
                      obtain ⟨ji47, hji47⟩ : ∃ j_ : Int, (mx (wrap64 ((wrap64 (t197 * (wrap64 (1 + t211)))) - (wrap64 ((wrap64 ((wrap64 (Int.tdiv (wrap64 (t197 * (wrap64 (1 + t211)))) t198)) + x15_2)) * t198)))) (wrap64 (-(wrap64 ((wrap64 (t197 * (wrap64 (1 + t211)))) - (wrap64 ((wrap64 ((wrap64 (Int.tdiv (wrap64 (t197 * (wrap64 (1 + t211)))) t198)) + x15_2)) * t198))))))) = j_ := ⟨_, rfl⟩
                      replace H : (if (wrap64 ((ji47) * t203)) < (wrap64 ((mx (wrap64 ((wrap64 (t197 * t203)) - (wrap64 (t202 * t198)))) (wrap64 (-(wrap64 ((wrap64 (t197 * t203)) - (wrap64 (t202 * t198))))))) * (wrap64 (1 + t211)))) then (some false) else (laws_FnRatios.l0 k2 t206 (wrap64 (1 + t211)) (wrap64 (Int.tdiv (wrap64 (t197 * (wrap64 (1 + t211)))) t198)) (wrap64 (x15_2 + 1)) t197 t198 t202 t203)) = some r := by first | (rw [hji47] at H; exact H) | (simp only [hji47] at H ⊢; exact H)
                      have hji47_ : (if (wrap64 ((wrap64 (t197 * (wrap64 (1 + t211)))) - (wrap64 ((wrap64 ((wrap64 (Int.tdiv (wrap64 (t197 * (wrap64 (1 + t211)))) t198)) + x15_2)) * t198)))) < (wrap64 (-(wrap64 ((wrap64 (t197 * (wrap64 (1 + t211)))) - (wrap64 ((wrap64 ((wrap64 (Int.tdiv (wrap64 (t197 * (wrap64 (1 + t211)))) t198)) + x15_2)) * t198)))))) then (wrap64 (-(wrap64 ((wrap64 (t197 * (wrap64 (1 + t211)))) - (wrap64 ((wrap64 ((wrap64 (Int.tdiv (wrap64 (t197 * (wrap64 (1 + t211)))) t198)) + x15_2)) * t198)))))) else (wrap64 ((wrap64 (t197 * (wrap64 (1 + t211)))) - (wrap64 ((wrap64 ((wrap64 (Int.tdiv (wrap64 (t197 * (wrap64 (1 + t211)))) t198)) + x15_2)) * t198))))) = ji47 := hji47
                      obtain ⟨ji48, hji48⟩ : ∃ j_ : Int, (mx (wrap64 ((wrap64 (t197 * t203)) - (wrap64 (t202 * t198)))) (wrap64 (-(wrap64 ((wrap64 (t197 * t203)) - (wrap64 (t202 * t198))))))) = j_ := ⟨_, rfl⟩
                      replace H : (if (wrap64 ((ji47) * t203)) < (wrap64 ((ji48) * (wrap64 (1 + t211)))) then (some false) else (laws_FnRatios.l0 k2 t206 (wrap64 (1 + t211)) (wrap64 (Int.tdiv (wrap64 (t197 * (wrap64 (1 + t211)))) t198)) (wrap64 (x15_2 + 1)) t197 t198 t202 t203)) = some r := by first | (rw [hji48] at H; exact H) | (simp only [hji48] at H ⊢; exact H)
                      have hji48_ : (if (wrap64 ((wrap64 (t197 * t203)) - (wrap64 (t202 * t198)))) < (wrap64 (-(wrap64 ((wrap64 (t197 * t203)) - (wrap64 (t202 * t198)))))) then (wrap64 (-(wrap64 ((wrap64 (t197 * t203)) - (wrap64 (t202 * t198)))))) else (wrap64 ((wrap64 (t197 * t203)) - (wrap64 (t202 * t198))))) = ji48 := hji48
                      by_cases c49 : (wrap64 ((ji47) * t203)) < (wrap64 ((ji48) * (wrap64 (1 + t211))))
                      · rw [if_pos c49] at H
                        have c49b0 : decide ((wrap64 ((ji47) * t203)) < (wrap64 ((ji48) * (wrap64 (1 + t211))))) = true := decide_eq_true c49
                        clear c49
                        obtain rfl := Option.some.inj H
                        have hnb50 := NB200_205.out
                        have hnc50 := NB205_200.out
                        have hcz51_0 : wr.cell? ⟨gb200, 0, none⟩ = some (.int .i64 t197) := (blk_cell BK200.out 0).trans rfl
                        have hcz51_1 : wr.cell? ⟨gb200, 1, none⟩ = some (.int .i64 t198) := (blk_cell BK200.out 1).trans rfl
                        have hfz51_0 := blk_frozen BK200.out 0
                        have hfz51_1 := blk_frozen BK200.out 1
                        have hcz52_0 : wr.cell? ⟨gb205, 0, none⟩ = some (.int .i64 t202) := (blk_cell BK205.out 0).trans rfl
                        have hcz52_1 : wr.cell? ⟨gb205, 1, none⟩ = some (.int .i64 t203) := (blk_cell BK205.out 1).trans rfl
                        have hfz52_0 := blk_frozen BK205.out 0
                        have hfz52_1 := blk_frozen BK205.out 1
                        go_wp2
                        go_ret
                        exact ⟨by first | rfl | (simp [errW_none, errW_some] <;> rfl) | (simp only [← hji47, ← hji48]; first | rfl | (simp [errW_none, errW_some] <;> rfl)) | (simp [*, errW_none, errW_some] <;> rfl), by repeat (first | (with_reducible first | exact HB.out | apply below_alloc | apply pw_below_drewN | apply below_drew1 | refine below_set ?_ GE200.out | refine below_set ?_ GE205.out) | exact HB.out)⟩
                      · rw [if_neg c49] at H
                        have c49b0 : decide ((wrap64 ((ji47) * t203)) < (wrap64 ((ji48) * (wrap64 (1 + t211))))) = false := decide_eq_false c49
                        clear c49
                        have H' := Aside0.mk H
                        clear H
                        have hnb53 := NB200_205.out
                        have hnc53 := NB205_200.out
                        have hcz54_0 : wr.cell? ⟨gb200, 0, none⟩ = some (.int .i64 t197) := (blk_cell BK200.out 0).trans rfl
                        have hcz54_1 : wr.cell? ⟨gb200, 1, none⟩ = some (.int .i64 t198) := (blk_cell BK200.out 1).trans rfl
                        have hfz54_0 := blk_frozen BK200.out 0
                        have hfz54_1 := blk_frozen BK200.out 1
                        have hcz55_0 : wr.cell? ⟨gb205, 0, none⟩ = some (.int .i64 t202) := (blk_cell BK205.out 0).trans rfl
                        have hcz55_1 : wr.cell? ⟨gb205, 1, none⟩ = some (.int .i64 t203) := (blk_cell BK205.out 1).trans rfl
                        have hfz55_0 := blk_frozen BK205.out 0
                        have hfz55_1 := blk_frozen BK205.out 1
                        go_wp2
                        go_roundg k2
                        case measure => have := HJ16.out; have := HK2.out; omega
                        case rel => exact ⟨(wrap64 (x15_2 + 1)), (by first | rfl | (simp; done) | (simp [*]; done)), H', ⟨by have := HJ16.out; have := HK2.out; omega⟩, ⟨by (with_reducible repeat (first | apply Kd.R_alloc | apply Kd.R_drewN | apply Kd.R_drew)); exact HO_11.out⟩, ⟨by (with_reducible repeat (first | refine blk_drewN ?_ _ | refine blk_drew ?_ | refine blk_alloc ?_ _)); exact BK200.out⟩, ⟨by (with_reducible repeat (first | refine blk_drewN ?_ _ | refine blk_drew ?_ | refine blk_alloc ?_ _)); exact BK205.out⟩, ⟨by repeat (first | (with_reducible first | exact HB.out | apply below_alloc | apply pw_below_drewN | apply below_drew1 | refine below_set ?_ GE200.out | refine below_set ?_ GE205.out) | exact HB.out)⟩⟩
                    · rw [if_neg c46] at H
                      have c46b0 : decide (x15_2 < 2) = false := decide_eq_false c46
                      clear c46
                      have H' := Aside0.mk H
                      clear H
                      obtain ⟨Ao56, co56, eo56⟩ := Kd.R_slice HO_11.out
                      subst eo56
                      go_wp2
                      go_loopg [18, 19, 20] k2 (fun kq v18 v19 v20 w' => ∃ (x18_3 : Int) (x19_3 : Int) (x20_3 : Int), v18 = .int .i64 x18_3 ∧ v19 = .int .i64 x19_3 ∧ v20 = .int .i64 x20_3 ∧ Aside0 (laws_FnRatios.l1 kq t206 x18_3 x19_3 x20_3 t197 t198 = some r) ∧ Aside0 (kq ≤ k2) ∧ Aside0 (Kd.R (Kd.int .i64) 2 w' w.heap.size (fun _ => True) (.slice Ao56 t206.length co56) t206) ∧ Aside0 (w'.heap[gb200]? = some (.cells #[.int .i64 t197, .int .i64 t198] 26 (0, 0))) ∧ Aside0 (w'.heap[gb205]? = some (.cells #[.int .i64 t202, .int .i64 t203] 26 (0, 0))) ∧ Aside0 (Below w.heap.size w w'))
                      case atStart => exact ⟨(1), (0), (wrap64 ((t206.length : Int) - 1)), (by first | rfl | (simp; done) | (simp [*]; done)), (by first | rfl | (simp; done) | (simp [*]; done)), (by first | rfl | (simp; done) | (simp [*]; done)), H', ⟨Nat.le_refl _⟩, ⟨by (with_reducible repeat (first | apply Kd.R_alloc | apply Kd.R_drewN | apply Kd.R_drew)); exact HO_11.out⟩, ⟨by (with_reducible repeat (first | refine blk_drewN ?_ _ | refine blk_drew ?_ | refine blk_alloc ?_ _)); exact BK200.out⟩, ⟨by (with_reducible repeat (first | refine blk_drewN ?_ _ | refine blk_drew ?_ | refine blk_alloc ?_ _)); exact BK205.out⟩, ⟨by repeat (first | (with_reducible first | exact HB.out | apply below_alloc | apply pw_below_drewN | apply below_drew1 | refine below_set ?_ GE200.out | refine below_set ?_ GE205.out) | exact HB.out)⟩⟩
                      case round =>
                        clear H'
                        try clear c1
                        try clear c2
                        try clear p2
                        try clear c3
                        try clear c4
                        try clear c5
                        try clear c6
                        try clear p6
                        try clear c7
                        try clear c8
                        try clear c9
                        try clear c10
                        try clear c10b0
                        try clear c23
                        try clear c27
                        try clear c28
                        try clear c29
                        try clear c29b0
                        try clear c30
                        try clear c33
                        try clear c34
                        try clear c38
                        try clear c41
                        try clear c43
                        try clear c43b0
                        try clear c43b1
                        try clear c44
                        try clear c46
                        try clear c46b0
                        try clear c49
                        try clear c49b0
                        try clear c50
                        try clear c53
                        try clear hcz13_0
                        try clear hcz13_1
                        try clear hcz20_0
                        try clear hcz20_1
                        try clear hcz24_0
                        try clear hcz24_1
                        try clear hcz25_0
                        try clear hcz25_1
                        try clear hcz31_0
                        try clear hcz31_1
                        try clear hcz35_0
                        try clear hcz35_1
                        try clear hcz39_0
                        try clear hcz39_1
                        try clear hcz45_0
                        try clear hcz45_1
                        try clear hcz51_0
                        try clear hcz51_1
                        try clear hcz52_0
                        try clear hcz52_1
                        try clear hcz54_0
                        try clear hcz54_1
                        try clear hcz55_0
                        try clear hcz55_1
                        try clear hfz13_0
                        try clear hfz13_1
                        try clear hfz20_0
                        try clear hfz20_1
                        try clear hfz24_0
                        try clear hfz24_1
                        try clear hfz25_0
                        try clear hfz25_1
                        try clear hfz31_0
                        try clear hfz31_1
                        try clear hfz35_0
                        try clear hfz35_1
                        try clear hfz39_0
                        try clear hfz39_1
                        try clear hfz45_0
                        try clear hfz45_1
                        try clear hfz51_0
                        try clear hfz51_1
                        try clear hfz52_0
                        try clear hfz52_1
                        try clear hfz54_0
                        try clear hfz54_1
                        try clear hfz55_0
                        try clear hfz55_1
                        try clear p2
                        try clear p6
                        obtain ⟨x18_3, x19_3, x20_3, rfl, rfl, rfl, HA, HK3, HO_11, BK200, BK205, HB⟩ := hrel
                        cases gk with
                        | zero => exact absurd HA.out (by simp [laws_FnRatios.l1])
                        | succ k3 =>
                          have H := HA.out
                          clear HA
                          simp only [laws_FnRatios.l1] at H
                          by_cases c57 : x20_3 ≥ 0
                          · rw [if_pos c57] at H
                            have c57b0 : decide (0 ≤ x20_3) = true := decide_eq_true c57
                            clear c57
                            have HC58 := Aside0.mk H
                            clear H
                            go_upto_region 28 with (fail)
                            go_cut [166] (fun v166 wc => ∃ (kq : Nat) (x166_57 : Bool), v166 = .bool x166_57 ∧ Aside0 (laws_FnRatios.j3 kq t206 x18_3 x19_3 x20_3 x166_57 t197 t198 = some r) ∧ Aside0 (kq ≤ k3) ∧ Aside0 (Kd.R (Kd.int .i64) 2 wc w.heap.size (fun _ => True) (.slice Ao56 t206.length co56) t206) ∧ Aside0 (wc.heap[gb200]? = some (.cells #[.int .i64 t197, .int .i64 t198] 26 (0, 0))) ∧ Aside0 (wc.heap[gb205]? = some (.cells #[.int .i64 t202, .int .i64 t203] 26 (0, 0))) ∧ Aside0 (Below w.heap.size w wc))
                            case first =>
                              have H := HC58.out
                              clear HC58
                              by_cases c59 : 0 ≤ x20_3
                              · rw [if_pos c59] at H
                                have c59b0 : decide (0 ≤ x20_3) = true := decide_eq_true c59
                                clear c59
                                (first | rw [c59b0] | (simp only [i64_w, i32_w]; rw [c59b0]) | skip)
                                by_cases c60 : x20_3 < (t206.length : Int)
                                · rw [if_pos c60] at H
                                  have c60b0 : decide (x20_3 < (t206.length : Int)) = true := decide_eq_true c60
                                  clear c60
                                  by_cases c61 : (rd t206 x20_3) < 0
                                  · rw [if_pos c61] at H
                                    have c61b0 : decide ((rd t206 x20_3) < 0) = true := decide_eq_true c61
                                    clear c61
                                    have H' := Aside0.mk H
                                    clear H
                                    have p216 : 0 ≤ (x20_3 : Int) := of_decide_eq_true (by first | (with_reducible assumption) | assumption)
                                    have q216 : x20_3 < (t206.length : Int) := of_decide_eq_true (by first | (with_reducible assumption) | assumption)
                                    obtain ⟨ad216, e216, hx216_0⟩ := Kd.at_int (Kd.R_reads' HO_11.out).2.2 x20_3 p216 q216
                                    cases e216
                                    replace p216 := eq_true p216
                                    replace q216 := eq_true q216
                                    go_wp2
                                    go_meet
                                    case rel => exact ⟨_, (true), (by first | rfl | (simp; done) | (simp [*]; done)), H', ⟨by have := HJ16.out; have := HK2.out; have := HK3.out; first | omega | exact Nat.le_refl _⟩, ⟨by (with_reducible repeat (first | apply Kd.R_alloc | apply Kd.R_drewN | apply Kd.R_drew)); exact HO_11.out⟩, ⟨by (with_reducible repeat (first | refine blk_drewN ?_ _ | refine blk_drew ?_ | refine blk_alloc ?_ _)); exact BK200.out⟩, ⟨by (with_reducible repeat (first | refine blk_drewN ?_ _ | refine blk_drew ?_ | refine blk_alloc ?_ _)); exact BK205.out⟩, ⟨by repeat (first | (with_reducible first | exact HB.out | apply below_alloc | apply pw_below_drewN | apply below_drew1 | refine below_set ?_ GE200.out | refine below_set ?_ GE205.out) | exact HB.out)⟩⟩
                                  · rw [if_neg c61] at H
                                    have c61b0 : decide ((rd t206 x20_3) < 0) = false := decide_eq_false c61
                                    clear c61
                                    by_cases c62 : (rd t206 x20_3) > 1099511627776
                                    · rw [if_pos c62] at H
                                      have c62b0 : decide (1099511627776 < (rd t206 x20_3)) = true := decide_eq_true c62
                                      clear c62
                                      have H' := Aside0.mk H
                                      clear H
                                      have p216 : 0 ≤ (x20_3 : Int) := of_decide_eq_true (by first | (with_reducible assumption) | assumption)
                                      have q216 : x20_3 < (t206.length : Int) := of_decide_eq_true (by first | (with_reducible assumption) | assumption)
                                      obtain ⟨ad216, e216, hx216_0⟩ := Kd.at_int (Kd.R_reads' HO_11.out).2.2 x20_3 p216 q216
                                      cases e216
                                      replace p216 := eq_true p216
                                      replace q216 := eq_true q216
                                      have p217 : 0 ≤ (x20_3 : Int) := of_decide_eq_true (by first | (with_reducible assumption) | assumption)
                                      have q217 : x20_3 < (t206.length : Int) := of_decide_eq_true (by first | (with_reducible assumption) | assumption)
                                      obtain ⟨ad217, e217, hx217_0⟩ := Kd.at_int (Kd.R_reads' HO_11.out).2.2 x20_3 p217 q217
                                      obtain rfl : ad216 = ad217 := (by injection e217)
                                      replace p217 := eq_true p217
                                      replace q217 := eq_true q217
                                      go_wp2
                                      go_meet
                                      case rel => exact ⟨_, (true), (by first | rfl | (simp; done) | (simp [*]; done)), H', ⟨by have := HJ16.out; have := HK2.out; have := HK3.out; first | omega | exact Nat.le_refl _⟩, ⟨by (with_reducible repeat (first | apply Kd.R_alloc | apply Kd.R_drewN | apply Kd.R_drew)); exact HO_11.out⟩, ⟨by (with_reducible repeat (first | refine blk_drewN ?_ _ | refine blk_drew ?_ | refine blk_alloc ?_ _)); exact BK200.out⟩, ⟨by (with_reducible repeat (first | refine blk_drewN ?_ _ | refine blk_drew ?_ | refine blk_alloc ?_ _)); exact BK205.out⟩, ⟨by repeat (first | (with_reducible first | exact HB.out | apply below_alloc | apply pw_below_drewN | apply below_drew1 | refine below_set ?_ GE200.out | refine below_set ?_ GE205.out) | exact HB.out)⟩⟩
                                    · rw [if_neg c62] at H
                                      have c62b0 : decide (1099511627776 < (rd t206 x20_3)) = false := decide_eq_false c62
                                      clear c62
                                      by_cases c63 : x20_3 > 0
                                      · rw [if_pos c63] at H
                                        have c63b0 : decide (0 < x20_3) = true := decide_eq_true c63
                                        clear c63
                                        have H' := Aside0.mk H
                                        clear H
                                        have p216 : 0 ≤ (x20_3 : Int) := of_decide_eq_true (by first | (with_reducible assumption) | assumption)
                                        have q216 : x20_3 < (t206.length : Int) := of_decide_eq_true (by first | (with_reducible assumption) | assumption)
                                        obtain ⟨ad216, e216, hx216_0⟩ := Kd.at_int (Kd.R_reads' HO_11.out).2.2 x20_3 p216 q216
                                        cases e216
                                        replace p216 := eq_true p216
                                        replace q216 := eq_true q216
                                        have p217 : 0 ≤ (x20_3 : Int) := of_decide_eq_true (by first | (with_reducible assumption) | assumption)
                                        have q217 : x20_3 < (t206.length : Int) := of_decide_eq_true (by first | (with_reducible assumption) | assumption)
                                        obtain ⟨ad217, e217, hx217_0⟩ := Kd.at_int (Kd.R_reads' HO_11.out).2.2 x20_3 p217 q217
                                        obtain rfl : ad216 = ad217 := (by injection e217)
                                        replace p217 := eq_true p217
                                        replace q217 := eq_true q217
                                        have p218 : 0 ≤ (x20_3 : Int) := of_decide_eq_true (by first | (with_reducible assumption) | assumption)
                                        have q218 : x20_3 < (t206.length : Int) := of_decide_eq_true (by first | (with_reducible assumption) | assumption)
                                        obtain ⟨ad218, e218, hx218_0⟩ := Kd.at_int (Kd.R_reads' HO_11.out).2.2 x20_3 p218 q218
                                        obtain rfl : ad216 = ad218 := (by injection e218)
                                        replace p218 := eq_true p218
                                        replace q218 := eq_true q218
                                        go_wp2
                                        go_meet
                                        case rel => exact ⟨_, (decide ((rd t206 x20_3) < 1)), (by first | rfl | (simp; done) | (simp [*]; done)), H', ⟨by have := HJ16.out; have := HK2.out; have := HK3.out; first | omega | exact Nat.le_refl _⟩, ⟨by (with_reducible repeat (first | apply Kd.R_alloc | apply Kd.R_drewN | apply Kd.R_drew)); exact HO_11.out⟩, ⟨by (with_reducible repeat (first | refine blk_drewN ?_ _ | refine blk_drew ?_ | refine blk_alloc ?_ _)); exact BK200.out⟩, ⟨by (with_reducible repeat (first | refine blk_drewN ?_ _ | refine blk_drew ?_ | refine blk_alloc ?_ _)); exact BK205.out⟩, ⟨by repeat (first | (with_reducible first | exact HB.out | apply below_alloc | apply pw_below_drewN | apply below_drew1 | refine below_set ?_ GE200.out | refine below_set ?_ GE205.out) | exact HB.out)⟩⟩
                                      · rw [if_neg c63] at H
                                        have c63b0 : decide (0 < x20_3) = false := decide_eq_false c63
                                        clear c63
                                        have H' := Aside0.mk H
                                        clear H
                                        have p216 : 0 ≤ (x20_3 : Int) := of_decide_eq_true (by first | (with_reducible assumption) | assumption)
                                        have q216 : x20_3 < (t206.length : Int) := of_decide_eq_true (by first | (with_reducible assumption) | assumption)
                                        obtain ⟨ad216, e216, hx216_0⟩ := Kd.at_int (Kd.R_reads' HO_11.out).2.2 x20_3 p216 q216
                                        cases e216
                                        replace p216 := eq_true p216
                                        replace q216 := eq_true q216
                                        have p217 : 0 ≤ (x20_3 : Int) := of_decide_eq_true (by first | (with_reducible assumption) | assumption)
                                        have q217 : x20_3 < (t206.length : Int) := of_decide_eq_true (by first | (with_reducible assumption) | assumption)
                                        obtain ⟨ad217, e217, hx217_0⟩ := Kd.at_int (Kd.R_reads' HO_11.out).2.2 x20_3 p217 q217
                                        obtain rfl : ad216 = ad217 := (by injection e217)
                                        replace p217 := eq_true p217
                                        replace q217 := eq_true q217
                                        go_wp2
                                        go_meet
                                        case rel => exact ⟨_, (false), (by first | rfl | (simp; done) | (simp [*]; done)), H', ⟨by have := HJ16.out; have := HK2.out; have := HK3.out; first | omega | exact Nat.le_refl _⟩, ⟨by (with_reducible repeat (first | apply Kd.R_alloc | apply Kd.R_drewN | apply Kd.R_drew)); exact HO_11.out⟩, ⟨by (with_reducible repeat (first | refine blk_drewN ?_ _ | refine blk_drew ?_ | refine blk_alloc ?_ _)); exact BK200.out⟩, ⟨by (with_reducible repeat (first | refine blk_drewN ?_ _ | refine blk_drew ?_ | refine blk_alloc ?_ _)); exact BK205.out⟩, ⟨by repeat (first | (with_reducible first | exact HB.out | apply below_alloc | apply pw_below_drewN | apply below_drew1 | refine below_set ?_ GE200.out | refine below_set ?_ GE205.out) | exact HB.out)⟩⟩
                                · rw [if_neg c60] at H
                                  exact absurd H (by simp)
                              · rw [if_neg c59] at H
                                exact absurd H (by simp)
                            case rest =>
                              clear HC58
                              try clear c1
                              try clear c2
                              try clear p2
                              try clear q2
                              try clear hx2
                              try clear c3
                              try clear c4
                              try clear c5
                              try clear c6
                              try clear p6
                              try clear c7
                              try clear c8
                              try clear c9
                              try clear c10
                              try clear c10b0
                              try clear p21
                              try clear q21
                              try clear hx21
                              try clear c23
                              try clear c27
                              try clear c28
                              try clear c29
                              try clear c29b0
                              try clear c30
                              try clear c33
                              try clear c34
                              try clear c38
                              try clear c41
                              try clear c43
                              try clear c43b0
                              try clear c43b1
                              try clear c44
                              try clear c46
                              try clear c46b0
                              try clear c49
                              try clear c49b0
                              try clear c50
                              try clear c53
                              try clear c57
                              try clear c57b0
                              try clear c59
                              try clear c59b0
                              try clear c60
                              try clear c60b0
                              try clear c61
                              try clear c61b0
                              try clear c62
                              try clear c62b0
                              try clear c63
                              try clear c63b0
                              try clear hcz13_0
                              try clear hcz13_1
                              try clear hcz20_0
                              try clear hcz20_1
                              try clear hcz24_0
                              try clear hcz24_1
                              try clear hcz25_0
                              try clear hcz25_1
                              try clear hcz31_0
                              try clear hcz31_1
                              try clear hcz35_0
                              try clear hcz35_1
                              try clear hcz39_0
                              try clear hcz39_1
                              try clear hcz45_0
                              try clear hcz45_1
                              try clear hcz51_0
                              try clear hcz51_1
                              try clear hcz52_0
                              try clear hcz52_1
                              try clear hcz54_0
                              try clear hcz54_1
                              try clear hcz55_0
                              try clear hcz55_1
                              try clear hfz13_0
                              try clear hfz13_1
                              try clear hfz20_0
                              try clear hfz20_1
                              try clear hfz24_0
                              try clear hfz24_1
                              try clear hfz25_0
                              try clear hfz25_1
                              try clear hfz31_0
                              try clear hfz31_1
                              try clear hfz35_0
                              try clear hfz35_1
                              try clear hfz39_0
                              try clear hfz39_1
                              try clear hfz45_0
                              try clear hfz45_1
                              try clear hfz51_0
                              try clear hfz51_1
                              try clear hfz52_0
                              try clear hfz52_1
                              try clear hfz54_0
                              try clear hfz54_1
                              try clear hfz55_0
                              try clear hfz55_1
                              try clear hx216_0
                              try clear hx217_0
                              try clear hx218_0
                              try clear p2
                              try clear p216
                              try clear p217
                              try clear p218
                              try clear p6
                              try clear q216
                              try clear q217
                              try clear q218
                              obtain ⟨kq, x166_57, rfl, HA, HJ57, HO_11, BK200, BK205, HB⟩ := hcut
                              cases kq with
                              | zero => exact absurd HA.out (by simp [laws_FnRatios.j3])
                              | succ kj57 =>
                                have H := HA.out
                                clear HA
                                simp only [laws_FnRatios.j3] at H
                                by_cases c64 : x166_57 = true
                                · subst c64
                                  have H1 : (some false) = some r := by rw [if_pos rfl] at H; exact H
                                  clear H
                                  have H := H1
                                  clear H1
                                  obtain rfl := Option.some.inj H
                                  go_wp2
                                  go_ret
                                  exact ⟨by first | rfl | (simp [errW_none, errW_some] <;> rfl) | (simp [*, errW_none, errW_some] <;> rfl), by repeat (first | (with_reducible first | exact HB.out | apply below_alloc | apply pw_below_drewN | apply below_drew1 | refine below_set ?_ GE200.out | refine below_set ?_ GE205.out) | exact HB.out)⟩
                                · replace c64 := Bool.eq_false_iff.mpr c64
                                  subst c64
                                  have H1 : (if 0 ≤ x20_3 then (if x20_3 < (t206.length : Int) then (if (wrap64 ((wrap64 ((rd t206 x20_3) * x18_3)) + x19_3)) > 1125899906842624 then (some false) else (laws_FnRatios.l1 kj57 t206 (wrap64 ((wrap64 ((rd t206 x20_3) * x18_3)) + x19_3)) x18_3 (wrap64 (x20_3 - 1)) t197 t198)) else (none)) else (none)) = some r := by rw [if_neg (show ¬ (false = true) by decide)] at H; exact H
                                  clear H
                                  have H := H1
                                  clear H1
                                  by_cases c65 : 0 ≤ x20_3
                                  · rw [if_pos c65] at H
                                    have c65b0 : decide (0 ≤ x20_3) = true := decide_eq_true c65
                                    clear c65
                                    by_cases c66 : x20_3 < (t206.length : Int)
                                    · rw [if_pos c66] at H
                                      have c66b0 : decide (x20_3 < (t206.length : Int)) = true := decide_eq_true c66
                                      clear c66
                                      by_cases c67 : (wrap64 ((wrap64 ((rd t206 x20_3) * x18_3)) + x19_3)) > 1125899906842624
                                      · rw [if_pos c67] at H
                                        have c67b0 : decide (1125899906842624 < (wrap64 ((wrap64 ((rd t206 x20_3) * x18_3)) + x19_3))) = true := decide_eq_true c67
                                        clear c67
                                        obtain rfl := Option.some.inj H
                                        have p219 : 0 ≤ (x20_3 : Int) := of_decide_eq_true (by first | (with_reducible assumption) | assumption)
                                        have q219 : x20_3 < (t206.length : Int) := of_decide_eq_true (by first | (with_reducible assumption) | assumption)
                                        obtain ⟨ad219, e219, hx219_0⟩ := Kd.at_int (Kd.R_reads' HO_11.out).2.2 x20_3 p219 q219
                                        cases e219
                                        replace p219 := eq_true p219
                                        replace q219 := eq_true q219
                                        go_wp2
                                        go_ret
                                        exact ⟨by first | rfl | (simp [errW_none, errW_some] <;> rfl) | (simp [*, errW_none, errW_some] <;> rfl), by repeat (first | (with_reducible first | exact HB.out | apply below_alloc | apply pw_below_drewN | apply below_drew1 | refine below_set ?_ GE200.out | refine below_set ?_ GE205.out) | exact HB.out)⟩
                                      · rw [if_neg c67] at H
                                        have c67b0 : decide (1125899906842624 < (wrap64 ((wrap64 ((rd t206 x20_3) * x18_3)) + x19_3))) = false := decide_eq_false c67
                                        clear c67
                                        have H' := Aside0.mk H
                                        clear H
                                        have p219 : 0 ≤ (x20_3 : Int) := of_decide_eq_true (by first | (with_reducible assumption) | assumption)
                                        have q219 : x20_3 < (t206.length : Int) := of_decide_eq_true (by first | (with_reducible assumption) | assumption)
                                        obtain ⟨ad219, e219, hx219_0⟩ := Kd.at_int (Kd.R_reads' HO_11.out).2.2 x20_3 p219 q219
                                        cases e219
                                        replace p219 := eq_true p219
                                        replace q219 := eq_true q219
                                        go_wp2
                                        go_roundg kj57
                                        case measure => have := HJ16.out; have := HK2.out; have := HK3.out; have := HJ57.out; omega
                                        case rel => exact ⟨(wrap64 ((wrap64 ((rd t206 x20_3) * x18_3)) + x19_3)), (x18_3), (wrap64 (x20_3 - 1)), (by first | rfl | (simp; done) | (simp [*]; done)), (by first | rfl | (simp; done) | (simp [*]; done)), (by first | rfl | (simp; done) | (simp [*]; done)), H', ⟨by have := HJ16.out; have := HK2.out; have := HK3.out; have := HJ57.out; omega⟩, ⟨by (with_reducible repeat (first | apply Kd.R_alloc | apply Kd.R_drewN | apply Kd.R_drew)); exact HO_11.out⟩, ⟨by (with_reducible repeat (first | refine blk_drewN ?_ _ | refine blk_drew ?_ | refine blk_alloc ?_ _)); exact BK200.out⟩, ⟨by (with_reducible repeat (first | refine blk_drewN ?_ _ | refine blk_drew ?_ | refine blk_alloc ?_ _)); exact BK205.out⟩, ⟨by repeat (first | (with_reducible first | exact HB.out | apply below_alloc | apply pw_below_drewN | apply below_drew1 | refine below_set ?_ GE200.out | refine below_set ?_ GE205.out) | exact HB.out)⟩⟩
                                    · rw [if_neg c66] at H
                                      exact absurd H (by simp)
                                  · rw [if_neg c65] at H
                                    exact absurd H (by simp)
                          · rw [if_neg c57] at H
                            have c57b0 : decide (0 ≤ x20_3) = false := decide_eq_false c57
                            clear c57
                            replace H := Option.bind_eq_some_iff.mp H
                            obtain ⟨⟨t212, t213, t214⟩, A680, H⟩ := H
                            replace H : (if t214 = true then (some (t212 == t197 && (t213 == t198))) else (some false)) = some r := H
                            have A68 := Aside0.mk A680
                            clear A680
                            by_cases c69 : t214 = true
                            · subst c69
                              have H1 : (some (t212 == t197 && (t213 == t198))) = some r := by rw [if_pos rfl] at H; exact H
                              clear H
                              have H := H1
                              clear H1
                              obtain rfl := Option.some.inj H
                              go_wp2_with (first | ((with_reducible refine gate_callee (f := 7) rfl ?_); refine goesL_ (some 182) rfl rfl Try.func7 (by kernel_rfl) rfl #[.int .i64 x18_3, .int .i64 x19_3] rfl (by (try simp only [List.map_toArray, List.map_cons, List.map_nil]); first | done | rfl | (simp only [List.length_drop, List.length_take]; rfl)) ?_; (with_reducible refine (impl_MakeFraction.calls x18_3 x19_3 t212 t213 true _ A68.out).mono ?_); rintro e w70 ⟨rfl, hb⟩; refine ⟨_, rfl, ?_⟩; have n0_ := Aside0.mk (Kd.R_below (by (with_reducible repeat (first | apply Kd.R_alloc | apply Kd.R_drewN | apply Kd.R_drew)); exact HO_11.out) hb); have n1_ := Aside0.mk (blk_below (g := gb200) (o := .cells #[.int .i64 t197, .int .i64 t198] 26 (0, 0)) (by (with_reducible repeat (first | refine blk_drewN ?_ _ | refine blk_drew ?_ | refine blk_alloc ?_ _)); exact BK200.out) hb); have n2_ := Aside0.mk (blk_below (g := gb205) (o := .cells #[.int .i64 t202, .int .i64 t203] 26 (0, 0)) (by (with_reducible repeat (first | refine blk_drewN ?_ _ | refine blk_drew ?_ | refine blk_alloc ?_ _)); exact BK205.out) hb); have n3_ := Aside0.mk (below_step (by repeat (first | (with_reducible first | exact HB.out | apply below_alloc | apply pw_below_drewN | apply below_drew1 | refine below_set ?_ GE200.out | refine below_set ?_ GE205.out) | exact HB.out)) hb); clear HO_11; clear BK200; clear BK205; clear HB; have HO_11 := n0_; have BK200 := n1_; have BK205 := n2_; have HB := n3_; clear n0_ n1_ n2_ n3_; (try clear hb); (try clear hb2); (try clear hk); (try clear hi)) | ((with_reducible refine gate_dst (N := 22) rfl ?_); (try (refine gate_guard (by rfl) ?_; dsimp only)); refine box_event ?hg (N := 22) ?hd (cs := #[.int .i64 0, .int .i64 0]) (t := 26) ?hr ?_; (case hd => rfl); (case hg => rfl); (case hr => first | (go_simp; done) | (go_simp; rfl)); intro gb215 hg w71 hbox hb; have n0_ := Aside0.mk (Kd.R_below (by (with_reducible repeat (first | apply Kd.R_alloc | apply Kd.R_drewN | apply Kd.R_drew)); exact HO_11.out) hb); have n1_ := Aside0.mk (blk_below (g := gb200) (o := .cells #[.int .i64 t197, .int .i64 t198] 26 (0, 0)) (by (with_reducible repeat (first | refine blk_drewN ?_ _ | refine blk_drew ?_ | refine blk_alloc ?_ _)); exact BK200.out) hb); have n2_ := Aside0.mk (blk_below (g := gb205) (o := .cells #[.int .i64 t202, .int .i64 t203] 26 (0, 0)) (by (with_reducible repeat (first | refine blk_drewN ?_ _ | refine blk_drew ?_ | refine blk_alloc ?_ _)); exact BK205.out) hb); have n3_ := Aside0.mk (below_step (by repeat (first | (with_reducible first | exact HB.out | apply below_alloc | apply pw_below_drewN | apply below_drew1 | refine below_set ?_ GE200.out | refine below_set ?_ GE205.out) | exact HB.out)) hb); have n4_ := Aside0.mk (hbox); have n5_ := Aside0.mk ((by rw [hg]; exact (below_size (by repeat (first | (with_reducible first | exact HB.out | apply below_alloc | apply pw_below_drewN | apply below_drew1 | refine below_set ?_ GE200.out | refine below_set ?_ GE205.out) | exact HB.out))) : w.heap.size ≤ gb215)); have n6_ := Aside0.mk ((by rw [hg]; exact (below_size (by repeat (first | (with_reducible first | exact HB.out | apply below_alloc | apply pw_below_drewN | apply below_drew1 | refine below_set ?_ GE200.out | refine below_set ?_ GE205.out) | exact HB.out))) : w.heap.size ≤ gb215)); have n7_ := Aside0.mk ((by rw [hg]; exact Nat.ne_of_lt (blk_lt (g := gb200) (o := .cells #[.int .i64 t197, .int .i64 t198] 26 (0, 0)) (by (with_reducible repeat (first | refine blk_drewN ?_ _ | refine blk_drew ?_ | refine blk_alloc ?_ _)); exact BK200.out)) : gb200 ≠ gb215)); have n8_ := Aside0.mk ((by rw [hg]; exact Nat.ne_of_gt (blk_lt (g := gb200) (o := .cells #[.int .i64 t197, .int .i64 t198] 26 (0, 0)) (by (with_reducible repeat (first | refine blk_drewN ?_ _ | refine blk_drew ?_ | refine blk_alloc ?_ _)); exact BK200.out)) : gb215 ≠ gb200)); have n9_ := Aside0.mk ((by rw [hg]; exact Nat.ne_of_lt (blk_lt (g := gb205) (o := .cells #[.int .i64 t202, .int .i64 t203] 26 (0, 0)) (by (with_reducible repeat (first | refine blk_drewN ?_ _ | refine blk_drew ?_ | refine blk_alloc ?_ _)); exact BK205.out)) : gb205 ≠ gb215)); have n10_ := Aside0.mk ((by rw [hg]; exact Nat.ne_of_gt (blk_lt (g := gb205) (o := .cells #[.int .i64 t202, .int .i64 t203] 26 (0, 0)) (by (with_reducible repeat (first | refine blk_drewN ?_ _ | refine blk_drew ?_ | refine blk_alloc ?_ _)); exact BK205.out)) : gb215 ≠ gb205)); clear HO_11; clear BK200; clear BK205; clear HB; have HO_11 := n0_; have BK200 := n1_; have BK205 := n2_; have HB := n3_; have BK215 := n4_; have GW215 := n5_; have GE215 := n6_; have NB200_215 := n7_; have NB215_200 := n8_; have NB205_215 := n9_; have NB215_205 := n10_; clear n0_ n1_ n2_ n3_ n4_ n5_ n6_ n7_ n8_ n9_ n10_; clear hb hbox hg; have hnb72 := NB215_200.out; have hnc72 := NB200_215.out; have hnb73 := NB215_205.out; have hnc73 := NB205_215.out; have hcz74_0 : w71.cell? ⟨gb215, 0, none⟩ = some (.int .i64 0) := (blk_cell BK215.out 0).trans rfl; have hcz74_1 : w71.cell? ⟨gb215, 1, none⟩ = some (.int .i64 0) := (blk_cell BK215.out 1).trans rfl; have hfz74_0 := blk_frozen BK215.out 0; have hfz74_1 := blk_frozen BK215.out 1; have hnb75 := NB200_205.out; have hnc75 := NB205_200.out; have hcz76_0 : w71.cell? ⟨gb200, 0, none⟩ = some (.int .i64 t197) := (blk_cell BK200.out 0).trans rfl; have hcz76_1 : w71.cell? ⟨gb200, 1, none⟩ = some (.int .i64 t198) := (blk_cell BK200.out 1).trans rfl; have hfz76_0 := blk_frozen BK200.out 0; have hfz76_1 := blk_frozen BK200.out 1))
                              go_ret
                              exact ⟨by first | rfl | (simp [errW_none, errW_some] <;> rfl) | (simp [*, errW_none, errW_some] <;> rfl), by repeat (first | (with_reducible first | exact HB.out | apply below_alloc | apply pw_below_drewN | apply below_drew1 | refine below_set ?_ GE200.out | refine below_set ?_ GE205.out | refine below_set ?_ GE215.out) | exact HB.out)⟩
                            · replace c69 := Bool.eq_false_iff.mpr c69
                              subst c69
                              have H1 : (some false) = some r := by rw [if_neg (show ¬ (false = true) by decide)] at H; exact H
                              clear H
                              have H := H1
                              clear H1
                              obtain rfl := Option.some.inj H
                              go_wp2_with (first | ((with_reducible refine gate_callee (f := 7) rfl ?_); refine goesL_ (some 182) rfl rfl Try.func7 (by kernel_rfl) rfl #[.int .i64 x18_3, .int .i64 x19_3] rfl (by (try simp only [List.map_toArray, List.map_cons, List.map_nil]); first | done | rfl | (simp only [List.length_drop, List.length_take]; rfl)) ?_; (with_reducible refine (impl_MakeFraction.calls x18_3 x19_3 t212 t213 false _ A68.out).mono ?_); rintro e w77 ⟨rfl, hb⟩; refine ⟨_, rfl, ?_⟩; have n0_ := Aside0.mk (Kd.R_below (by (with_reducible repeat (first | apply Kd.R_alloc | apply Kd.R_drewN | apply Kd.R_drew)); exact HO_11.out) hb); have n1_ := Aside0.mk (blk_below (g := gb200) (o := .cells #[.int .i64 t197, .int .i64 t198] 26 (0, 0)) (by (with_reducible repeat (first | refine blk_drewN ?_ _ | refine blk_drew ?_ | refine blk_alloc ?_ _)); exact BK200.out) hb); have n2_ := Aside0.mk (blk_below (g := gb205) (o := .cells #[.int .i64 t202, .int .i64 t203] 26 (0, 0)) (by (with_reducible repeat (first | refine blk_drewN ?_ _ | refine blk_drew ?_ | refine blk_alloc ?_ _)); exact BK205.out) hb); have n3_ := Aside0.mk (below_step (by repeat (first | (with_reducible first | exact HB.out | apply below_alloc | apply pw_below_drewN | apply below_drew1 | refine below_set ?_ GE200.out | refine below_set ?_ GE205.out) | exact HB.out)) hb); clear HO_11; clear BK200; clear BK205; clear HB; have HO_11 := n0_; have BK200 := n1_; have BK205 := n2_; have HB := n3_; clear n0_ n1_ n2_ n3_; (try clear hb); (try clear hb2); (try clear hk); (try clear hi)) | ((with_reducible refine gate_dst (N := 22) rfl ?_); (try (refine gate_guard (by rfl) ?_; dsimp only)); refine box_event ?hg (N := 22) ?hd (cs := #[.int .i64 0, .int .i64 0]) (t := 26) ?hr ?_; (case hd => rfl); (case hg => rfl); (case hr => first | (go_simp; done) | (go_simp; rfl)); intro gb215 hg w78 hbox hb; have n0_ := Aside0.mk (Kd.R_below (by (with_reducible repeat (first | apply Kd.R_alloc | apply Kd.R_drewN | apply Kd.R_drew)); exact HO_11.out) hb); have n1_ := Aside0.mk (blk_below (g := gb200) (o := .cells #[.int .i64 t197, .int .i64 t198] 26 (0, 0)) (by (with_reducible repeat (first | refine blk_drewN ?_ _ | refine blk_drew ?_ | refine blk_alloc ?_ _)); exact BK200.out) hb); have n2_ := Aside0.mk (blk_below (g := gb205) (o := .cells #[.int .i64 t202, .int .i64 t203] 26 (0, 0)) (by (with_reducible repeat (first | refine blk_drewN ?_ _ | refine blk_drew ?_ | refine blk_alloc ?_ _)); exact BK205.out) hb); have n3_ := Aside0.mk (below_step (by repeat (first | (with_reducible first | exact HB.out | apply below_alloc | apply pw_below_drewN | apply below_drew1 | refine below_set ?_ GE200.out | refine below_set ?_ GE205.out) | exact HB.out)) hb); have n4_ := Aside0.mk (hbox); have n5_ := Aside0.mk ((by rw [hg]; exact (below_size (by repeat (first | (with_reducible first | exact HB.out | apply below_alloc | apply pw_below_drewN | apply below_drew1 | refine below_set ?_ GE200.out | refine below_set ?_ GE205.out) | exact HB.out))) : w.heap.size ≤ gb215)); have n6_ := Aside0.mk ((by rw [hg]; exact (below_size (by repeat (first | (with_reducible first | exact HB.out | apply below_alloc | apply pw_below_drewN | apply below_drew1 | refine below_set ?_ GE200.out | refine below_set ?_ GE205.out) | exact HB.out))) : w.heap.size ≤ gb215)); have n7_ := Aside0.mk ((by rw [hg]; exact Nat.ne_of_lt (blk_lt (g := gb200) (o := .cells #[.int .i64 t197, .int .i64 t198] 26 (0, 0)) (by (with_reducible repeat (first | refine blk_drewN ?_ _ | refine blk_drew ?_ | refine blk_alloc ?_ _)); exact BK200.out)) : gb200 ≠ gb215)); have n8_ := Aside0.mk ((by rw [hg]; exact Nat.ne_of_gt (blk_lt (g := gb200) (o := .cells #[.int .i64 t197, .int .i64 t198] 26 (0, 0)) (by (with_reducible repeat (first | refine blk_drewN ?_ _ | refine blk_drew ?_ | refine blk_alloc ?_ _)); exact BK200.out)) : gb215 ≠ gb200)); have n9_ := Aside0.mk ((by rw [hg]; exact Nat.ne_of_lt (blk_lt (g := gb205) (o := .cells #[.int .i64 t202, .int .i64 t203] 26 (0, 0)) (by (with_reducible repeat (first | refine blk_drewN ?_ _ | refine blk_drew ?_ | refine blk_alloc ?_ _)); exact BK205.out)) : gb205 ≠ gb215)); have n10_ := Aside0.mk ((by rw [hg]; exact Nat.ne_of_gt (blk_lt (g := gb205) (o := .cells #[.int .i64 t202, .int .i64 t203] 26 (0, 0)) (by (with_reducible repeat (first | refine blk_drewN ?_ _ | refine blk_drew ?_ | refine blk_alloc ?_ _)); exact BK205.out)) : gb215 ≠ gb205)); clear HO_11; clear BK200; clear BK205; clear HB; have HO_11 := n0_; have BK200 := n1_; have BK205 := n2_; have HB := n3_; have BK215 := n4_; have GW215 := n5_; have GE215 := n6_; have NB200_215 := n7_; have NB215_200 := n8_; have NB205_215 := n9_; have NB215_205 := n10_; clear n0_ n1_ n2_ n3_ n4_ n5_ n6_ n7_ n8_ n9_ n10_; clear hb hbox hg; have hnb79 := NB215_200.out; have hnc79 := NB200_215.out; have hnb80 := NB215_205.out; have hnc80 := NB205_215.out; have hcz81_0 : w78.cell? ⟨gb215, 0, none⟩ = some (.int .i64 0) := (blk_cell BK215.out 0).trans rfl; have hcz81_1 : w78.cell? ⟨gb215, 1, none⟩ = some (.int .i64 0) := (blk_cell BK215.out 1).trans rfl; have hfz81_0 := blk_frozen BK215.out 0; have hfz81_1 := blk_frozen BK215.out 1))
                              go_ret
                              exact ⟨by first | rfl | (simp [errW_none, errW_some] <;> rfl) | (simp [*, errW_none, errW_some] <;> rfl), by repeat (first | (with_reducible first | exact HB.out | apply below_alloc | apply pw_below_drewN | apply below_drew1 | refine below_set ?_ GE200.out | refine below_set ?_ GE205.out | refine below_set ?_ GE215.out) | exact HB.out)⟩
    · replace c9 := Bool.eq_false_iff.mpr c9
      subst c9
      have H1 : (some false) = some r := by rw [if_neg (show ¬ (false = true) by decide)] at H; exact H
      clear H
      have H := H1
      clear H1
      obtain rfl := Option.some.inj H
      go_enter Try.func3, Try.ntmps3
      go_wp2_with (first | ((with_reducible refine gate_callee (f := 5) rfl ?_); refine goesL_ (some 26) rfl rfl Try.func5 (by kernel_rfl) rfl #[.slice A0 l0.length c0, .slice A1 l1.length c1] rfl (by (try simp only [List.map_toArray, List.map_cons, List.map_nil]); first | done | rfl | (simp only [List.length_drop, List.length_take]; rfl)) ?_; (with_reducible refine (laws_b10Long.calls _ _ l0 _ _ l1 false _ ?side1 ?side2 ?side3 ?side4 A3.out).mono ?_); (case side1 => repeat (first | exact HR0.out | (with_reducible refine Kd.C_alloc ?_ _) | (with_reducible refine Kd.C_drewN ?_ _) | (with_reducible refine Kd.C_drew ?_))); (case side2 => exact HC0.out); (case side3 => repeat (first | exact HR1.out | (with_reducible refine Kd.C_alloc ?_ _) | (with_reducible refine Kd.C_drewN ?_ _) | (with_reducible refine Kd.C_drew ?_))); (case side4 => exact HC1.out); rintro e w' ⟨rfl, ⟨nd, rfl⟩⟩; refine ⟨_, rfl, ?_⟩) | ((with_reducible refine gate_callee (f := 6) rfl ?_); refine goesL_ (some 28) rfl rfl Try.func6 (by kernel_rfl) rfl #[.slice A0 l0.length c0, .int .i64 0, .int .i64 256] rfl (by (try simp only [List.map_toArray, List.map_cons, List.map_nil]); first | done | rfl | (simp only [List.length_drop, List.length_take]; rfl)) ?_; (with_reducible refine (laws_b10At.calls _ _ l0 0 256 t194 _ ?side1 ?side2 A5.out).mono ?_); (case side1 => repeat (first | exact HR0.out | (with_reducible refine Kd.C_alloc ?_ _) | (with_reducible refine Kd.C_drewN ?_ _) | (with_reducible refine Kd.C_drew ?_))); (case side2 => exact HC0.out); rintro e w' ⟨rfl, ⟨nd, rfl⟩⟩; refine ⟨_, rfl, ?_⟩) | ((with_reducible refine gate_callee (f := 6) rfl ?_); refine goesL_ (some 33) rfl rfl Try.func6 (by kernel_rfl) rfl #[.slice A0 l0.length c0, .int .i64 1, .int .i64 40] rfl (by (try simp only [List.map_toArray, List.map_cons, List.map_nil]); first | done | rfl | (simp only [List.length_drop, List.length_take]; rfl)) ?_; (with_reducible refine (laws_b10At.calls _ _ l0 1 40 t195 _ ?side1 ?side2 A6.out).mono ?_); (case side1 => repeat (first | exact HR0.out | (with_reducible refine Kd.C_alloc ?_ _) | (with_reducible refine Kd.C_drewN ?_ _) | (with_reducible refine Kd.C_drew ?_))); (case side2 => exact HC0.out); rintro e w' ⟨rfl, ⟨nd, rfl⟩⟩; refine ⟨_, rfl, ?_⟩) | ((with_reducible refine gate_callee (f := 6) rfl ?_); refine goesL_ (some 36) rfl rfl Try.func6 (by kernel_rfl) rfl #[.slice A0 l0.length c0, .int .i64 2, .int .i64 256] rfl (by (try simp only [List.map_toArray, List.map_cons, List.map_nil]); first | done | rfl | (simp only [List.length_drop, List.length_take]; rfl)) ?_; (with_reducible refine (laws_b10At.calls _ _ l0 2 256 t196 _ ?side1 ?side2 A7.out).mono ?_); (case side1 => repeat (first | exact HR0.out | (with_reducible refine Kd.C_alloc ?_ _) | (with_reducible refine Kd.C_drewN ?_ _) | (with_reducible refine Kd.C_drew ?_))); (case side2 => exact HC0.out); rintro e w' ⟨rfl, ⟨nd, rfl⟩⟩; refine ⟨_, rfl, ?_⟩) | ((with_reducible refine gate_callee (f := 7) rfl ?_); refine goesL_ (some 39) rfl rfl Try.func7 (by kernel_rfl) rfl #[.int .i64 (wrap64 ((wrap64 (256 * t195)) + t196)), .int .i64 (wrap64 (1 + (wrap64 (3 * t194))))] rfl (by (try simp only [List.map_toArray, List.map_cons, List.map_nil]); first | done | rfl | (simp only [List.length_drop, List.length_take]; rfl)) ?_; (with_reducible refine (impl_MakeFraction.calls (wrap64 ((wrap64 (256 * t195)) + t196)) (wrap64 (1 + (wrap64 (3 * t194)))) t197 t198 false _ A8.out).mono ?_); rintro e w82 ⟨rfl, hb⟩; refine ⟨_, rfl, ?_⟩; have n0_ := Aside0.mk (below_step (by repeat (first | (with_reducible first | exact HB.out | apply below_alloc | apply pw_below_drewN | apply below_drew1) | exact HB.out)) hb); clear HB; have HB := n0_; clear n0_; (try clear hb); (try clear hb2); (try clear hk); (try clear hi)) | ((with_reducible refine gate_dst (N := 6) rfl ?_); (try (refine gate_guard (by rfl) ?_; dsimp only)); refine box_event ?hg (N := 6) ?hd (cs := #[.int .i64 0, .int .i64 0]) (t := 26) ?hr ?_; (case hd => rfl); (case hg => rfl); (case hr => first | (go_simp; done) | (go_simp; rfl)); intro gb200 hg w83 hbox hb; have n0_ := Aside0.mk (below_step (by repeat (first | (with_reducible first | exact HB.out | apply below_alloc | apply pw_below_drewN | apply below_drew1) | exact HB.out)) hb); have n1_ := Aside0.mk (hbox); have n2_ := Aside0.mk ((by rw [hg]; exact (below_size (by repeat (first | (with_reducible first | exact HB.out | apply below_alloc | apply pw_below_drewN | apply below_drew1) | exact HB.out))) : w.heap.size ≤ gb200)); have n3_ := Aside0.mk ((by rw [hg]; exact (below_size (by repeat (first | (with_reducible first | exact HB.out | apply below_alloc | apply pw_below_drewN | apply below_drew1) | exact HB.out))) : w.heap.size ≤ gb200)); clear HB; have HB := n0_; have BK200 := n1_; have GW200 := n2_; have GE200 := n3_; clear n0_ n1_ n2_ n3_; clear hb hbox hg; have hcz84_0 : w83.cell? ⟨gb200, 0, none⟩ = some (.int .i64 0) := (blk_cell BK200.out 0).trans rfl; have hcz84_1 : w83.cell? ⟨gb200, 1, none⟩ = some (.int .i64 0) := (blk_cell BK200.out 1).trans rfl; have hfz84_0 := blk_frozen BK200.out 0; have hfz84_1 := blk_frozen BK200.out 1))
      go_ret
      exact ⟨by first | rfl | (simp [errW_none, errW_some] <;> rfl) | (simp [*, errW_none, errW_some] <;> rfl), by repeat (first | (with_reducible first | exact HB.out | apply below_alloc | apply pw_below_drewN | apply below_drew1 | refine below_set ?_ GE200.out) | exact HB.out)⟩

/-- THE ONE PURE STATEMENT of laws_FnRatios: yours. -/
def laws_FnRatios.Pure : Prop := ∀ (l0 : List Int) (l1 : List Int), l0.length ≤ maxLen → l0.length * 1 ≤ 140737488351232 → (∀ x ∈ l0, (Lit.int .u8 x).wf = true) → l1.length ≤ maxLen → l1.length * 1 ≤ 140737488351232 → (∀ x ∈ l1, (Lit.int .u8 x).wf = true) → ∃ k, laws_FnRatios.f k l0 l1 = some true
theorem laws_FnRatios.walk (P : laws_FnRatios.Pure) (a0 : Option Addr) (len0 cap0 : Nat) (z0 : List Int) (a1 : Option Addr) (len1 cap1 : Nat) (z1 : List Int) (w : World) (w0 : (a0 = none ∧ len0 = 0 ∧ cap0 = 0 ∧ z0 = []) ∨ ∃ x, a0 = some x ∧ len0 ≤ cap0 ∧ cap0 ≤ maxLen ∧ z0.length = cap0 ∧ (∀ i, i < z0.length → w.cell? (x.add i) = some (.int .u8 (z0.getD i 0))) ∧ ∀ n ∈ z0, (Lit.int .u8 n).wf = true) (y0 : len0 * 1 ≤ 140737488351232) (w1 : (a1 = none ∧ len1 = 0 ∧ cap1 = 0 ∧ z1 = []) ∨ ∃ x, a1 = some x ∧ len1 ≤ cap1 ∧ cap1 ≤ maxLen ∧ z1.length = cap1 ∧ (∀ i, i < z1.length → w.cell? (x.add i) = some (.int .u8 (z1.getD i 0))) ∧ ∀ n ∈ z1, (Lit.int .u8 n).wf = true) (y1 : len1 * 1 ≤ 140737488351232) :
    Calls Try.prog 3 #[.slice a0 len0 cap0, .slice a1 len1 cap1] w fun e w' => e = .returned (.bool true) ∧ Below w.heap.size w w' := by
  obtain ⟨l0, rfl, hr0, hm0, hw0, hc0⟩ := ReadsInt.ofRowC w0
  obtain ⟨l1, rfl, hr1, hm1, hw1, hc1⟩ := ReadsInt.ofRowC w1
  obtain ⟨k, h⟩ := P l0 l1 hm0 y0 hw0 hm1 y1 hw1
  refine (laws_FnRatios.calls k _ _ l0 _ _ l1 true w (Kd.C_of_reads (d := (0 : Int)) (h1 := fun _ => rfl) hr0) hc0 (Kd.C_of_reads (d := (0 : Int)) (h1 := fun _ => rfl) hr1) hc1 h).mono ?_
  rintro e w' ⟨rfl, hd⟩
  exact ⟨rfl, hd⟩

end Go.Proofs.Ytmadpelampanfaa.A
