-- Printed by this session's oprint.py through the kit's printer.
import Derived.Test.YtmadpelampanfaaA0
import Derived.Test.YtmadpelampanfaaA16
import Derived.Test.YtmadpelampanfaaA11
import Derived.Test.YtmadpelampanfaaA12
import Derived.Test.YtmadpelampanfaaA13
import Derived.Test.YtmadpelampanfaaA14
import Derived.Test.YtmadpelampanfaaA9000
namespace Go.Proofs.Ytmadpelampanfaa.A
open Go.RowKit Go.Proofs.YtmadpelampanfaaW.PrintWords Go.Proofs.YtmadpelampanfaaW.PrintLast Go.Proofs.YtmadpelampanfaaW.PrintMore
attribute [local go_sem] max2_int min2_int max_two min_two max_three min_three max_four min_four   -- for this text's walks alone
set_option linter.unusedVariables false
set_option linter.unusedSimpArgs false

attribute [local go_sem high] eqA26
/-! ### laws_FnPulses: function 4 -/
mutual
def laws_FnPulses.j0 : Nat → Int → Int → Int → ByteArray → Int → Int → Bool → Option (Bool)
  | 0, _, _, _, _, _, _, _ => none
  | k + 1, x5, x6, x7, x8, x10, x11, x74 => if x74 = true then (some false) else (laws_FnPulses.l0 k x5 x6 x7 x8 x10 x11 0 (-1) 0)
def laws_FnPulses.l0 : Nat → Int → Int → Int → ByteArray → Int → Int → Int → Int → Int → Option (Bool)
  | 0, _, _, _, _, _, _, _, _, _ => none
  | k + 1, x5, x6, x7, x8, x10, x11, x13, x14, x15 => if x15 < 200 then (if 0 ≤ x15 then (if x15 < (x8.size : Int) then (if (bt x8 x15) = 48 then (laws_FnPulses.l0 k x5 x6 x7 x8 x10 x11 x13 x14 (wrap64 (x15 + 1))) else ((impl_PulseTick.f x6 x5 x7 x13).bind fun bt263 => ((impl_PulseError.f k x6 x5 x13).bind fun bt265 => (if bt263.2 = true then (if bt265.2.2 = true then (if bt263.1 = x15 then (if x14 ≥ 0 then (if (wrap64 (x15 - x14)) < x10 then (laws_FnPulses.j2 k x5 x6 x7 x8 x10 x11 x13 x15 true bt265.1 bt265.2.1) else (if (wrap64 (x15 - x14)) > x11 then (laws_FnPulses.j2 k x5 x6 x7 x8 x10 x11 x13 x15 true bt265.1 bt265.2.1) else (if bt265.1 < 0 then (laws_FnPulses.j2 k x5 x6 x7 x8 x10 x11 x13 x15 true bt265.1 bt265.2.1) else (laws_FnPulses.j2 k x5 x6 x7 x8 x10 x11 x13 x15 (decide (bt265.1 ≥ bt265.2.1)) bt265.1 bt265.2.1)))) else (if bt265.1 < 0 then (laws_FnPulses.j2 k x5 x6 x7 x8 x10 x11 x13 x15 true bt265.1 bt265.2.1) else (laws_FnPulses.j2 k x5 x6 x7 x8 x10 x11 x13 x15 (decide (bt265.1 ≥ bt265.2.1)) bt265.1 bt265.2.1))) else (laws_FnPulses.j2 k x5 x6 x7 x8 x10 x11 x13 x15 true bt265.1 bt265.2.1)) else (laws_FnPulses.j2 k x5 x6 x7 x8 x10 x11 x13 x15 true bt265.1 bt265.2.1)) else (laws_FnPulses.j2 k x5 x6 x7 x8 x10 x11 x13 x15 true bt265.1 bt265.2.1))))) else (none)) else (none)) else ((impl_PulseTick.f x6 x5 x7 x13).bind fun bt261 => (if bt261.2 = true then (some (decide (bt261.1 ≥ 200))) else (some false)))
def laws_FnPulses.j2 : Nat → Int → Int → Int → ByteArray → Int → Int → Int → Int → Bool → Int → Int → Option (Bool)
  | 0, _, _, _, _, _, _, _, _, _, _, _ => none
  | k + 1, x5, x6, x7, x8, x10, x11, x13, x15, x138, x269000, x269001 => if x138 = true then (some false) else ((spec_PulseTick.f x6 x5 0 x13).bind fun bt269 => ((spec_MakeFraction.f k (wrap64 ((wrap64 ((wrap64 (bt269.1 + 1)) * x6)) - (wrap64 ((wrap64 (x13 + 1)) * x5)))) x6).bind fun bt271 => (if bt269.2 = true then (if bt271.2.2 = true then (if (!(bt271.1 == x269000) || (!(bt271.2.1 == x269001))) = true then (some false) else (laws_FnPulses.l0 k x5 x6 x7 x8 x10 x11 (wrap64 (x13 + 1)) x15 (wrap64 (x15 + 1)))) else (some false)) else (some false))))
end
def laws_FnPulses.f (k : Nat) (l0 : List Int) (l1 : List Int) : Option (Bool) := (laws_b10Long.f l0 l1).bind fun t252 => (if t252 = true then (some true) else ((laws_b10At.f l0 0 100).bind fun t253 => ((laws_b10At.f l0 1 (wrap64 (1 + t253))).bind fun t254 => ((laws_b10At.f l1 0 (wrap64 (1 + t253))).bind fun t255 => ((impl_AccumulateWave.f (wrap64 (1 + t254)) (wrap64 (1 + t253)) t255 200).bind fun bt256 => ((impl_GapRange.f (wrap64 (1 + t254)) (wrap64 (1 + t253))).bind fun bt258 => (if bt256.2 = true then (if bt258.2.2 = true then (if (bt256.1.size : Int) = 200 then (if (wrap64 (bt258.2.1 - bt258.1)) > 1 then (laws_FnPulses.j0 k (wrap64 (1 + t253)) (wrap64 (1 + t254)) t255 bt256.1 bt258.1 bt258.2.1 true) else (laws_FnPulses.j0 k (wrap64 (1 + t253)) (wrap64 (1 + t254)) t255 bt256.1 bt258.1 bt258.2.1 (decide (bt258.2.1 < bt258.1)))) else (laws_FnPulses.j0 k (wrap64 (1 + t253)) (wrap64 (1 + t254)) t255 bt256.1 bt258.1 bt258.2.1 true)) else (laws_FnPulses.j0 k (wrap64 (1 + t253)) (wrap64 (1 + t254)) t255 bt256.1 bt258.1 bt258.2.1 true)) else (laws_FnPulses.j0 k (wrap64 (1 + t253)) (wrap64 (1 + t254)) t255 bt256.1 bt258.1 bt258.2.1 true))))))))
theorem laws_FnPulses.mono_l : ∀ k, (∀ y0 y1 y2 y3 y4 y5 y6, LeO (laws_FnPulses.j0 k y0 y1 y2 y3 y4 y5 y6) (laws_FnPulses.j0 (k + 1) y0 y1 y2 y3 y4 y5 y6)) ∧ (∀ y0 y1 y2 y3 y4 y5 y6 y7 y8, LeO (laws_FnPulses.l0 k y0 y1 y2 y3 y4 y5 y6 y7 y8) (laws_FnPulses.l0 (k + 1) y0 y1 y2 y3 y4 y5 y6 y7 y8)) ∧ (∀ y0 y1 y2 y3 y4 y5 y6 y7 y8 y9 y10, LeO (laws_FnPulses.j2 k y0 y1 y2 y3 y4 y5 y6 y7 y8 y9 y10) (laws_FnPulses.j2 (k + 1) y0 y1 y2 y3 y4 y5 y6 y7 y8 y9 y10))
  | 0 => ⟨fun _ _ _ _ _ _ _ r h => by simp [laws_FnPulses.j0] at h, fun _ _ _ _ _ _ _ _ _ r h => by simp [laws_FnPulses.l0] at h, fun _ _ _ _ _ _ _ _ _ _ _ r h => by simp [laws_FnPulses.j2] at h⟩
  | k + 1 => by
    obtain ⟨ih0, ih1, ih2⟩ := laws_FnPulses.mono_l k
    refine ⟨?_, ?_, ?_⟩
    · intro y0 y1 y2 y3 y4 y5 y6
      unfold laws_FnPulses.j0
      repeat' first
      | (with_reducible exact ih0 _ _ _ _ _ _ _)
      | (with_reducible exact ih1 _ _ _ _ _ _ _ _ _)
      | (with_reducible exact ih2 _ _ _ _ _ _ _ _ _ _ _)
      | (with_reducible exact impl_PulseError.mono _ _ _ _)
      | (with_reducible exact spec_MakeFraction.mono _ _ _)
      | (with_reducible exact LeO.refl _)
      | (with_reducible exact LeO.none _)
      | (with_reducible refine LeO.ite ?_ ?_)
      | (with_reducible refine LeO.bind ?_ (fun _ => ?_))
      | exact ih0 _ _ _ _ _ _ _
      | exact ih1 _ _ _ _ _ _ _ _ _
      | exact ih2 _ _ _ _ _ _ _ _ _ _ _
      | exact impl_PulseError.mono _ _ _ _
      | exact spec_MakeFraction.mono _ _ _
      | exact LeO.none _
      | refine LeO.ite ?_ ?_
      | refine LeO.bind ?_ (fun _ => ?_)
    · intro y0 y1 y2 y3 y4 y5 y6 y7 y8
      unfold laws_FnPulses.l0
      repeat' first
      | (with_reducible exact ih0 _ _ _ _ _ _ _)
      | (with_reducible exact ih1 _ _ _ _ _ _ _ _ _)
      | (with_reducible exact ih2 _ _ _ _ _ _ _ _ _ _ _)
      | (with_reducible exact impl_PulseError.mono _ _ _ _)
      | (with_reducible exact spec_MakeFraction.mono _ _ _)
      | (with_reducible exact LeO.refl _)
      | (with_reducible exact LeO.none _)
      | (with_reducible refine LeO.ite ?_ ?_)
      | (with_reducible refine LeO.bind ?_ (fun _ => ?_))
      | exact ih0 _ _ _ _ _ _ _
      | exact ih1 _ _ _ _ _ _ _ _ _
      | exact ih2 _ _ _ _ _ _ _ _ _ _ _
      | exact impl_PulseError.mono _ _ _ _
      | exact spec_MakeFraction.mono _ _ _
      | exact LeO.none _
      | refine LeO.ite ?_ ?_
      | refine LeO.bind ?_ (fun _ => ?_)
    · intro y0 y1 y2 y3 y4 y5 y6 y7 y8 y9 y10
      unfold laws_FnPulses.j2
      repeat' first
      | (with_reducible exact ih0 _ _ _ _ _ _ _)
      | (with_reducible exact ih1 _ _ _ _ _ _ _ _ _)
      | (with_reducible exact ih2 _ _ _ _ _ _ _ _ _ _ _)
      | (with_reducible exact impl_PulseError.mono _ _ _ _)
      | (with_reducible exact spec_MakeFraction.mono _ _ _)
      | (with_reducible exact LeO.refl _)
      | (with_reducible exact LeO.none _)
      | (with_reducible refine LeO.ite ?_ ?_)
      | (with_reducible refine LeO.bind ?_ (fun _ => ?_))
      | exact ih0 _ _ _ _ _ _ _
      | exact ih1 _ _ _ _ _ _ _ _ _
      | exact ih2 _ _ _ _ _ _ _ _ _ _ _
      | exact impl_PulseError.mono _ _ _ _
      | exact spec_MakeFraction.mono _ _ _
      | exact LeO.none _
      | refine LeO.ite ?_ ?_
      | refine LeO.bind ?_ (fun _ => ?_)
theorem laws_FnPulses.mono : ∀ a0 a1 k, LeO (laws_FnPulses.f k a0 a1) (laws_FnPulses.f (k + 1) a0 a1) := by
  intro a0 a1 k
  obtain ⟨ih0, ih1, ih2⟩ := laws_FnPulses.mono_l k
  unfold laws_FnPulses.f
  repeat' first
      | (with_reducible exact ih0 _ _ _ _ _ _ _)
      | (with_reducible exact ih1 _ _ _ _ _ _ _ _ _)
      | (with_reducible exact ih2 _ _ _ _ _ _ _ _ _ _ _)
      | (with_reducible exact impl_PulseError.mono _ _ _ _)
      | (with_reducible exact spec_MakeFraction.mono _ _ _)
      | (with_reducible exact LeO.refl _)
      | (with_reducible exact LeO.none _)
      | (with_reducible refine LeO.ite ?_ ?_)
      | (with_reducible refine LeO.bind ?_ (fun _ => ?_))
      | exact ih0 _ _ _ _ _ _ _
      | exact ih1 _ _ _ _ _ _ _ _ _
      | exact ih2 _ _ _ _ _ _ _ _ _ _ _
      | exact impl_PulseError.mono _ _ _ _
      | exact spec_MakeFraction.mono _ _ _
      | exact LeO.none _
      | refine LeO.ite ?_ ?_
      | refine LeO.bind ?_ (fun _ => ?_)
set_option maxHeartbeats 8000000 in
set_option maxRecDepth 100000 in
theorem laws_FnPulses.calls (k : Nat) (A0 : Option Addr) (c0 : Nat) (l0 : List Int) (A1 : Option Addr) (c1 : Nat) (l1 : List Int) (r : Bool) (w : World) (hr0 : Kd.C (Kd.int .u8) w A0 l0.length l0) (hc0 : l0.length ≤ c0) (hr1 : Kd.C (Kd.int .u8) w A1 l1.length l1) (hc1 : l1.length ≤ c1) (h : laws_FnPulses.f k l0 l1 = some r) :
    Calls Try.prog 4 #[.slice A0 l0.length c0, .slice A1 l1.length c1] w fun e w' => e = .returned (.bool r) ∧ Below w.heap.size w w' := by
  have hu26 := Try.underlying26
  have HR0 := Aside0.mk hr0
  have HC0 := Aside0.mk hc0
  clear hr0 hc0
  have HR1 := Aside0.mk hr1
  have HC1 := Aside0.mk hc1
  clear hr1 hc1
  have HB := Aside0.mk (Below.refl w.heap.size w)
  have H : ((laws_b10Long.f l0 l1).bind fun t252 => (if t252 = true then (some true) else ((laws_b10At.f l0 0 100).bind fun t253 => ((laws_b10At.f l0 1 (wrap64 (1 + t253))).bind fun t254 => ((laws_b10At.f l1 0 (wrap64 (1 + t253))).bind fun t255 => ((impl_AccumulateWave.f (wrap64 (1 + t254)) (wrap64 (1 + t253)) t255 200).bind fun bt256 => ((impl_GapRange.f (wrap64 (1 + t254)) (wrap64 (1 + t253))).bind fun bt258 => (if bt256.2 = true then (if bt258.2.2 = true then (if (bt256.1.size : Int) = 200 then (if (wrap64 (bt258.2.1 - bt258.1)) > 1 then (laws_FnPulses.j0 k (wrap64 (1 + t253)) (wrap64 (1 + t254)) t255 bt256.1 bt258.1 bt258.2.1 true) else (laws_FnPulses.j0 k (wrap64 (1 + t253)) (wrap64 (1 + t254)) t255 bt256.1 bt258.1 bt258.2.1 (decide (bt258.2.1 < bt258.1)))) else (laws_FnPulses.j0 k (wrap64 (1 + t253)) (wrap64 (1 + t254)) t255 bt256.1 bt258.1 bt258.2.1 true)) else (laws_FnPulses.j0 k (wrap64 (1 + t253)) (wrap64 (1 + t254)) t255 bt256.1 bt258.1 bt258.2.1 true)) else (laws_FnPulses.j0 k (wrap64 (1 + t253)) (wrap64 (1 + t254)) t255 bt256.1 bt258.1 bt258.2.1 true))))))))) = some r := h
  clear h
  replace H := Option.bind_eq_some_iff.mp H
  obtain ⟨t252, A30, H⟩ := H
  replace H : (if t252 = true then (some true) else ((laws_b10At.f l0 0 100).bind fun t253 => ((laws_b10At.f l0 1 (wrap64 (1 + t253))).bind fun t254 => ((laws_b10At.f l1 0 (wrap64 (1 + t253))).bind fun t255 => ((impl_AccumulateWave.f (wrap64 (1 + t254)) (wrap64 (1 + t253)) t255 200).bind fun bt256 => ((impl_GapRange.f (wrap64 (1 + t254)) (wrap64 (1 + t253))).bind fun bt258 => (if bt256.2 = true then (if bt258.2.2 = true then (if (bt256.1.size : Int) = 200 then (if (wrap64 (bt258.2.1 - bt258.1)) > 1 then (laws_FnPulses.j0 k (wrap64 (1 + t253)) (wrap64 (1 + t254)) t255 bt256.1 bt258.1 bt258.2.1 true) else (laws_FnPulses.j0 k (wrap64 (1 + t253)) (wrap64 (1 + t254)) t255 bt256.1 bt258.1 bt258.2.1 (decide (bt258.2.1 < bt258.1)))) else (laws_FnPulses.j0 k (wrap64 (1 + t253)) (wrap64 (1 + t254)) t255 bt256.1 bt258.1 bt258.2.1 true)) else (laws_FnPulses.j0 k (wrap64 (1 + t253)) (wrap64 (1 + t254)) t255 bt256.1 bt258.1 bt258.2.1 true)) else (laws_FnPulses.j0 k (wrap64 (1 + t253)) (wrap64 (1 + t254)) t255 bt256.1 bt258.1 bt258.2.1 true)))))))) = some r := H
  have A3 := Aside0.mk A30
  clear A30
  by_cases c4 : t252 = true
  · subst c4
    have H1 : (some true) = some r := by rw [if_pos rfl] at H; exact H
    clear H
    have H := H1
    clear H1
    obtain rfl := Option.some.inj H
    go_enter Try.func4, Try.ntmps4
    go_wp2_with (first | ((with_reducible refine gate_callee (f := 5) rfl ?_); refine goesL_ (some 28) rfl rfl Try.func5 (by kernel_rfl) rfl #[.slice A0 l0.length c0, .slice A1 l1.length c1] rfl (by (try simp only [List.map_toArray, List.map_cons, List.map_nil]); first | done | rfl | (simp only [List.length_drop, List.length_take]; rfl)) ?_; (with_reducible refine (laws_b10Long.calls _ _ l0 _ _ l1 true _ ?side1 ?side2 ?side3 ?side4 A3.out).mono ?_); (case side1 => repeat (first | exact HR0.out | (with_reducible refine Kd.C_alloc ?_ _) | (with_reducible refine Kd.C_drewN ?_ _) | (with_reducible refine Kd.C_drew ?_))); (case side2 => exact HC0.out); (case side3 => repeat (first | exact HR1.out | (with_reducible refine Kd.C_alloc ?_ _) | (with_reducible refine Kd.C_drewN ?_ _) | (with_reducible refine Kd.C_drew ?_))); (case side4 => exact HC1.out); rintro e w' ⟨rfl, ⟨nd, rfl⟩⟩; refine ⟨_, rfl, ?_⟩))
    go_ret
    exact ⟨by first | rfl | (simp [errW_none, errW_some] <;> rfl) | (simp [*, errW_none, errW_some] <;> rfl), by repeat (first | (with_reducible first | exact HB.out | apply below_alloc | apply pw_below_drewN | apply below_drew1) | exact HB.out)⟩
  · replace c4 := Bool.eq_false_iff.mpr c4
    subst c4
    have H1 : ((laws_b10At.f l0 0 100).bind fun t253 => ((laws_b10At.f l0 1 (wrap64 (1 + t253))).bind fun t254 => ((laws_b10At.f l1 0 (wrap64 (1 + t253))).bind fun t255 => ((impl_AccumulateWave.f (wrap64 (1 + t254)) (wrap64 (1 + t253)) t255 200).bind fun bt256 => ((impl_GapRange.f (wrap64 (1 + t254)) (wrap64 (1 + t253))).bind fun bt258 => (if bt256.2 = true then (if bt258.2.2 = true then (if (bt256.1.size : Int) = 200 then (if (wrap64 (bt258.2.1 - bt258.1)) > 1 then (laws_FnPulses.j0 k (wrap64 (1 + t253)) (wrap64 (1 + t254)) t255 bt256.1 bt258.1 bt258.2.1 true) else (laws_FnPulses.j0 k (wrap64 (1 + t253)) (wrap64 (1 + t254)) t255 bt256.1 bt258.1 bt258.2.1 (decide (bt258.2.1 < bt258.1)))) else (laws_FnPulses.j0 k (wrap64 (1 + t253)) (wrap64 (1 + t254)) t255 bt256.1 bt258.1 bt258.2.1 true)) else (laws_FnPulses.j0 k (wrap64 (1 + t253)) (wrap64 (1 + t254)) t255 bt256.1 bt258.1 bt258.2.1 true)) else (laws_FnPulses.j0 k (wrap64 (1 + t253)) (wrap64 (1 + t254)) t255 bt256.1 bt258.1 bt258.2.1 true))))))) = some r := by rw [if_neg (show ¬ (false = true) by decide)] at H; exact H
    clear H
    have H := H1
    clear H1
    replace H := Option.bind_eq_some_iff.mp H
    obtain ⟨t253, A50, H⟩ := H
    replace H : ((laws_b10At.f l0 1 (wrap64 (1 + t253))).bind fun t254 => ((laws_b10At.f l1 0 (wrap64 (1 + t253))).bind fun t255 => ((impl_AccumulateWave.f (wrap64 (1 + t254)) (wrap64 (1 + t253)) t255 200).bind fun bt256 => ((impl_GapRange.f (wrap64 (1 + t254)) (wrap64 (1 + t253))).bind fun bt258 => (if bt256.2 = true then (if bt258.2.2 = true then (if (bt256.1.size : Int) = 200 then (if (wrap64 (bt258.2.1 - bt258.1)) > 1 then (laws_FnPulses.j0 k (wrap64 (1 + t253)) (wrap64 (1 + t254)) t255 bt256.1 bt258.1 bt258.2.1 true) else (laws_FnPulses.j0 k (wrap64 (1 + t253)) (wrap64 (1 + t254)) t255 bt256.1 bt258.1 bt258.2.1 (decide (bt258.2.1 < bt258.1)))) else (laws_FnPulses.j0 k (wrap64 (1 + t253)) (wrap64 (1 + t254)) t255 bt256.1 bt258.1 bt258.2.1 true)) else (laws_FnPulses.j0 k (wrap64 (1 + t253)) (wrap64 (1 + t254)) t255 bt256.1 bt258.1 bt258.2.1 true)) else (laws_FnPulses.j0 k (wrap64 (1 + t253)) (wrap64 (1 + t254)) t255 bt256.1 bt258.1 bt258.2.1 true)))))) = some r := H
    have A5 := Aside0.mk A50
    clear A50
    replace H := Option.bind_eq_some_iff.mp H
    obtain ⟨t254, A60, H⟩ := H
    replace H : ((laws_b10At.f l1 0 (wrap64 (1 + t253))).bind fun t255 => ((impl_AccumulateWave.f (wrap64 (1 + t254)) (wrap64 (1 + t253)) t255 200).bind fun bt256 => ((impl_GapRange.f (wrap64 (1 + t254)) (wrap64 (1 + t253))).bind fun bt258 => (if bt256.2 = true then (if bt258.2.2 = true then (if (bt256.1.size : Int) = 200 then (if (wrap64 (bt258.2.1 - bt258.1)) > 1 then (laws_FnPulses.j0 k (wrap64 (1 + t253)) (wrap64 (1 + t254)) t255 bt256.1 bt258.1 bt258.2.1 true) else (laws_FnPulses.j0 k (wrap64 (1 + t253)) (wrap64 (1 + t254)) t255 bt256.1 bt258.1 bt258.2.1 (decide (bt258.2.1 < bt258.1)))) else (laws_FnPulses.j0 k (wrap64 (1 + t253)) (wrap64 (1 + t254)) t255 bt256.1 bt258.1 bt258.2.1 true)) else (laws_FnPulses.j0 k (wrap64 (1 + t253)) (wrap64 (1 + t254)) t255 bt256.1 bt258.1 bt258.2.1 true)) else (laws_FnPulses.j0 k (wrap64 (1 + t253)) (wrap64 (1 + t254)) t255 bt256.1 bt258.1 bt258.2.1 true))))) = some r := H
    have A6 := Aside0.mk A60
    clear A60
    replace H := Option.bind_eq_some_iff.mp H
    obtain ⟨t255, A70, H⟩ := H
    replace H : ((impl_AccumulateWave.f (wrap64 (1 + t254)) (wrap64 (1 + t253)) t255 200).bind fun bt256 => ((impl_GapRange.f (wrap64 (1 + t254)) (wrap64 (1 + t253))).bind fun bt258 => (if bt256.2 = true then (if bt258.2.2 = true then (if (bt256.1.size : Int) = 200 then (if (wrap64 (bt258.2.1 - bt258.1)) > 1 then (laws_FnPulses.j0 k (wrap64 (1 + t253)) (wrap64 (1 + t254)) t255 bt256.1 bt258.1 bt258.2.1 true) else (laws_FnPulses.j0 k (wrap64 (1 + t253)) (wrap64 (1 + t254)) t255 bt256.1 bt258.1 bt258.2.1 (decide (bt258.2.1 < bt258.1)))) else (laws_FnPulses.j0 k (wrap64 (1 + t253)) (wrap64 (1 + t254)) t255 bt256.1 bt258.1 bt258.2.1 true)) else (laws_FnPulses.j0 k (wrap64 (1 + t253)) (wrap64 (1 + t254)) t255 bt256.1 bt258.1 bt258.2.1 true)) else (laws_FnPulses.j0 k (wrap64 (1 + t253)) (wrap64 (1 + t254)) t255 bt256.1 bt258.1 bt258.2.1 true)))) = some r := H
    have A7 := Aside0.mk A70
    clear A70
    replace H := Option.bind_eq_some_iff.mp H
    obtain ⟨⟨t256, t257⟩, A80, H⟩ := H
    replace H : ((impl_GapRange.f (wrap64 (1 + t254)) (wrap64 (1 + t253))).bind fun bt258 => (if t257 = true then (if bt258.2.2 = true then (if (t256.size : Int) = 200 then (if (wrap64 (bt258.2.1 - bt258.1)) > 1 then (laws_FnPulses.j0 k (wrap64 (1 + t253)) (wrap64 (1 + t254)) t255 t256 bt258.1 bt258.2.1 true) else (laws_FnPulses.j0 k (wrap64 (1 + t253)) (wrap64 (1 + t254)) t255 t256 bt258.1 bt258.2.1 (decide (bt258.2.1 < bt258.1)))) else (laws_FnPulses.j0 k (wrap64 (1 + t253)) (wrap64 (1 + t254)) t255 t256 bt258.1 bt258.2.1 true)) else (laws_FnPulses.j0 k (wrap64 (1 + t253)) (wrap64 (1 + t254)) t255 t256 bt258.1 bt258.2.1 true)) else (laws_FnPulses.j0 k (wrap64 (1 + t253)) (wrap64 (1 + t254)) t255 t256 bt258.1 bt258.2.1 true))) = some r := H
    have A8 := Aside0.mk A80
    clear A80
    replace H := Option.bind_eq_some_iff.mp H
    obtain ⟨⟨t258, t259, t260⟩, A90, H⟩ := H
    replace H : (if t257 = true then (if t260 = true then (if (t256.size : Int) = 200 then (if (wrap64 (t259 - t258)) > 1 then (laws_FnPulses.j0 k (wrap64 (1 + t253)) (wrap64 (1 + t254)) t255 t256 t258 t259 true) else (laws_FnPulses.j0 k (wrap64 (1 + t253)) (wrap64 (1 + t254)) t255 t256 t258 t259 (decide (t259 < t258)))) else (laws_FnPulses.j0 k (wrap64 (1 + t253)) (wrap64 (1 + t254)) t255 t256 t258 t259 true)) else (laws_FnPulses.j0 k (wrap64 (1 + t253)) (wrap64 (1 + t254)) t255 t256 t258 t259 true)) else (laws_FnPulses.j0 k (wrap64 (1 + t253)) (wrap64 (1 + t254)) t255 t256 t258 t259 true)) = some r := H
    have A9 := Aside0.mk A90
    clear A90
    have HC10 := Aside0.mk H
    clear H
    go_enter Try.func4, Try.ntmps4
    go_upto_region 8 with (first | ((with_reducible refine gate_callee (f := 5) rfl ?_); refine goesL_ (some 28) rfl rfl Try.func5 (by kernel_rfl) rfl #[.slice A0 l0.length c0, .slice A1 l1.length c1] rfl (by (try simp only [List.map_toArray, List.map_cons, List.map_nil]); first | done | rfl | (simp only [List.length_drop, List.length_take]; rfl)) ?_; (with_reducible refine (laws_b10Long.calls _ _ l0 _ _ l1 false _ ?side1 ?side2 ?side3 ?side4 A3.out).mono ?_); (case side1 => repeat (first | exact HR0.out | (with_reducible refine Kd.C_alloc ?_ _) | (with_reducible refine Kd.C_drewN ?_ _) | (with_reducible refine Kd.C_drew ?_))); (case side2 => exact HC0.out); (case side3 => repeat (first | exact HR1.out | (with_reducible refine Kd.C_alloc ?_ _) | (with_reducible refine Kd.C_drewN ?_ _) | (with_reducible refine Kd.C_drew ?_))); (case side4 => exact HC1.out); rintro e w' ⟨rfl, ⟨nd, rfl⟩⟩; refine ⟨_, rfl, ?_⟩) | ((with_reducible refine gate_callee (f := 6) rfl ?_); refine goesL_ (some 30) rfl rfl Try.func6 (by kernel_rfl) rfl #[.slice A0 l0.length c0, .int .i64 0, .int .i64 100] rfl (by (try simp only [List.map_toArray, List.map_cons, List.map_nil]); first | done | rfl | (simp only [List.length_drop, List.length_take]; rfl)) ?_; (with_reducible refine (laws_b10At.calls _ _ l0 0 100 t253 _ ?side1 ?side2 A5.out).mono ?_); (case side1 => repeat (first | exact HR0.out | (with_reducible refine Kd.C_alloc ?_ _) | (with_reducible refine Kd.C_drewN ?_ _) | (with_reducible refine Kd.C_drew ?_))); (case side2 => exact HC0.out); rintro e w' ⟨rfl, ⟨nd, rfl⟩⟩; refine ⟨_, rfl, ?_⟩) | ((with_reducible refine gate_callee (f := 6) rfl ?_); refine goesL_ (some 34) rfl rfl Try.func6 (by kernel_rfl) rfl #[.slice A0 l0.length c0, .int .i64 1, .int .i64 (wrap64 (1 + t253))] rfl (by (try simp only [List.map_toArray, List.map_cons, List.map_nil]); first | done | rfl | (simp only [List.length_drop, List.length_take]; rfl)) ?_; (with_reducible refine (laws_b10At.calls _ _ l0 1 (wrap64 (1 + t253)) t254 _ ?side1 ?side2 A6.out).mono ?_); (case side1 => repeat (first | exact HR0.out | (with_reducible refine Kd.C_alloc ?_ _) | (with_reducible refine Kd.C_drewN ?_ _) | (with_reducible refine Kd.C_drew ?_))); (case side2 => exact HC0.out); rintro e w' ⟨rfl, ⟨nd, rfl⟩⟩; refine ⟨_, rfl, ?_⟩) | ((with_reducible refine gate_callee (f := 6) rfl ?_); refine goesL_ (some 38) rfl rfl Try.func6 (by kernel_rfl) rfl #[.slice A1 l1.length c1, .int .i64 0, .int .i64 (wrap64 (1 + t253))] rfl (by (try simp only [List.map_toArray, List.map_cons, List.map_nil]); first | done | rfl | (simp only [List.length_drop, List.length_take]; rfl)) ?_; (with_reducible refine (laws_b10At.calls _ _ l1 0 (wrap64 (1 + t253)) t255 _ ?side1 ?side2 A7.out).mono ?_); (case side1 => repeat (first | exact HR1.out | (with_reducible refine Kd.C_alloc ?_ _) | (with_reducible refine Kd.C_drewN ?_ _) | (with_reducible refine Kd.C_drew ?_))); (case side2 => exact HC1.out); rintro e w' ⟨rfl, ⟨nd, rfl⟩⟩; refine ⟨_, rfl, ?_⟩) | ((with_reducible refine gate_callee (f := 11) rfl ?_); refine goesL_ (some 43) rfl rfl Try.func11 (by kernel_rfl) rfl #[.int .i64 (wrap64 (1 + t254)), .int .i64 (wrap64 (1 + t253)), .int .i64 t255, .int .i64 200] rfl (by (try simp only [List.map_toArray, List.map_cons, List.map_nil]); first | done | rfl | (simp only [List.length_drop, List.length_take]; rfl)) ?_; (with_reducible refine (impl_AccumulateWave.calls (wrap64 (1 + t254)) (wrap64 (1 + t253)) t255 200 t256 t257 _ A8.out).mono ?_); rintro e w11 ⟨rfl, hb⟩; refine ⟨_, rfl, ?_⟩; have n0_ := Aside0.mk (below_step (by repeat (first | (with_reducible first | exact HB.out | apply below_alloc | apply pw_below_drewN | apply below_drew1) | exact HB.out)) hb); clear HB; have HB := n0_; clear n0_; (try clear hb); (try clear hb2); (try clear hk); (try clear hi)) | ((with_reducible refine gate_callee (f := 12) rfl ?_); refine goesL_ (some 49) rfl rfl Try.func12 (by kernel_rfl) rfl #[.int .i64 (wrap64 (1 + t254)), .int .i64 (wrap64 (1 + t253))] rfl (by (try simp only [List.map_toArray, List.map_cons, List.map_nil]); first | done | rfl | (simp only [List.length_drop, List.length_take]; rfl)) ?_; (with_reducible refine (impl_GapRange.calls (wrap64 (1 + t254)) (wrap64 (1 + t253)) t258 t259 t260 _ A9.out).mono ?_); rintro e w' ⟨rfl, ⟨nd, rfl⟩⟩; refine ⟨_, rfl, ?_⟩))
    (try simp only [Act.put, List.setIfInBounds_toArray, List.set_cons_zero, List.set_cons_succ])
    go_cut [74] (fun v74 wc => ∃ (kq : Nat) (x74_9 : Bool), v74 = .bool x74_9 ∧ Aside0 (laws_FnPulses.j0 kq (wrap64 (1 + t253)) (wrap64 (1 + t254)) t255 t256 t258 t259 x74_9 = some r) ∧ Aside0 (kq ≤ k) ∧ Aside0 (Below w.heap.size w wc))
    case first =>
      have H := HC10.out
      clear HC10
      by_cases c12 : t257 = true
      · subst c12
        have H1 : (if t260 = true then (if (t256.size : Int) = 200 then (if (wrap64 (t259 - t258)) > 1 then (laws_FnPulses.j0 k (wrap64 (1 + t253)) (wrap64 (1 + t254)) t255 t256 t258 t259 true) else (laws_FnPulses.j0 k (wrap64 (1 + t253)) (wrap64 (1 + t254)) t255 t256 t258 t259 (decide (t259 < t258)))) else (laws_FnPulses.j0 k (wrap64 (1 + t253)) (wrap64 (1 + t254)) t255 t256 t258 t259 true)) else (laws_FnPulses.j0 k (wrap64 (1 + t253)) (wrap64 (1 + t254)) t255 t256 t258 t259 true)) = some r := by rw [if_pos rfl] at H; exact H
        clear H
        have H := H1
        clear H1
        by_cases c13 : t260 = true
        · subst c13
          have H1 : (if (t256.size : Int) = 200 then (if (wrap64 (t259 - t258)) > 1 then (laws_FnPulses.j0 k (wrap64 (1 + t253)) (wrap64 (1 + t254)) t255 t256 t258 t259 true) else (laws_FnPulses.j0 k (wrap64 (1 + t253)) (wrap64 (1 + t254)) t255 t256 t258 t259 (decide (t259 < t258)))) else (laws_FnPulses.j0 k (wrap64 (1 + t253)) (wrap64 (1 + t254)) t255 t256 t258 t259 true)) = some r := by rw [if_pos rfl] at H; exact H
          clear H
          have H := H1
          clear H1
          by_cases c14 : (t256.size : Int) = 200
          · rw [if_pos c14] at H
            have c14b0 : ((t256.size : Int) == 200) = true := beq_iff_eq.mpr c14
            have c14b1 : ((t256.size : Int) != 200) = false := bne_eq_false_iff_eq.mpr c14
            clear c14
            (first | rw [c14b0] | (simp only [i64_w, i32_w]; rw [c14b0]) | skip)
            by_cases c15 : (wrap64 (t259 - t258)) > 1
            · rw [if_pos c15] at H
              have c15b0 : decide (1 < (wrap64 (t259 - t258))) = true := decide_eq_true c15
              clear c15
              have H' := Aside0.mk H
              clear H
              go_wp2
              go_meet
              case rel => exact ⟨_, (true), (by first | rfl | (simp; done) | (simp [*]; done)), H', ⟨by first | omega | exact Nat.le_refl _⟩, ⟨by repeat (first | (with_reducible first | exact HB.out | apply below_alloc | apply pw_below_drewN | apply below_drew1) | exact HB.out)⟩⟩
            · rw [if_neg c15] at H
              have c15b0 : decide (1 < (wrap64 (t259 - t258))) = false := decide_eq_false c15
              clear c15
              have H' := Aside0.mk H
              clear H
              go_wp2
              go_meet
              case rel => exact ⟨_, (decide (t259 < t258)), (by first | rfl | (simp; done) | (simp [*]; done)), H', ⟨by first | omega | exact Nat.le_refl _⟩, ⟨by repeat (first | (with_reducible first | exact HB.out | apply below_alloc | apply pw_below_drewN | apply below_drew1) | exact HB.out)⟩⟩
          · rw [if_neg c14] at H
            have c14b0 : ((t256.size : Int) == 200) = false := beq_eq_false_iff_ne.mpr c14
            have c14b1 : ((t256.size : Int) != 200) = true := bne_iff_ne.mpr c14
            (first | rw [c14b0] | (simp only [i64_w, i32_w]; rw [c14b0]) | skip)
            have H' := Aside0.mk H
            clear H
            go_wp2
            go_meet
            case rel => exact ⟨_, (true), (by first | rfl | (simp; done) | (simp [*]; done)), H', ⟨by first | omega | exact Nat.le_refl _⟩, ⟨by repeat (first | (with_reducible first | exact HB.out | apply below_alloc | apply pw_below_drewN | apply below_drew1) | exact HB.out)⟩⟩
        · replace c13 := Bool.eq_false_iff.mpr c13
          subst c13
          have H1 : (laws_FnPulses.j0 k (wrap64 (1 + t253)) (wrap64 (1 + t254)) t255 t256 t258 t259 true) = some r := by rw [if_neg (show ¬ (false = true) by decide)] at H; exact H
          clear H
          have H := H1
          clear H1
          have H' := Aside0.mk H
          clear H
          go_wp2
          go_meet
          case rel => exact ⟨_, (true), (by first | rfl | (simp; done) | (simp [*]; done)), H', ⟨by first | omega | exact Nat.le_refl _⟩, ⟨by repeat (first | (with_reducible first | exact HB.out | apply below_alloc | apply pw_below_drewN | apply below_drew1) | exact HB.out)⟩⟩
      · replace c12 := Bool.eq_false_iff.mpr c12
        subst c12
        have H1 : (laws_FnPulses.j0 k (wrap64 (1 + t253)) (wrap64 (1 + t254)) t255 t256 t258 t259 true) = some r := by rw [if_neg (show ¬ (false = true) by decide)] at H; exact H
        clear H
        have H := H1
        clear H1
        have H' := Aside0.mk H
        clear H
        go_wp2
        go_meet
        case rel => exact ⟨_, (true), (by first | rfl | (simp; done) | (simp [*]; done)), H', ⟨by first | omega | exact Nat.le_refl _⟩, ⟨by repeat (first | (with_reducible first | exact HB.out | apply below_alloc | apply pw_below_drewN | apply below_drew1) | exact HB.out)⟩⟩
    case rest =>
      clear HC10
      try clear c1
      try clear p2
      try clear c4
      try clear c5
      try clear c6
      try clear p6
      try clear c11
      try clear c12
      try clear c13
      try clear c14
      try clear c14b0
      try clear c14b1
      try clear c15
      try clear c15b0
      obtain ⟨kq, x74_9, rfl, HA, HJ9, HB⟩ := hcut
      cases kq with
      | zero => exact absurd HA.out (by simp [laws_FnPulses.j0])
      | succ kj9 =>
        have H := HA.out
        clear HA
        simp only [laws_FnPulses.j0] at H
        by_cases c16 : x74_9 = true
        · subst c16
          have H1 : (some false) = some r := by rw [if_pos rfl] at H; exact H
          clear H
          have H := H1
          clear H1
          obtain rfl := Option.some.inj H
          go_wp2
          go_ret
          exact ⟨by first | rfl | (simp [errW_none, errW_some] <;> rfl) | (simp [*, errW_none, errW_some] <;> rfl), by repeat (first | (with_reducible first | exact HB.out | apply below_alloc | apply pw_below_drewN | apply below_drew1) | exact HB.out)⟩
        · replace c16 := Bool.eq_false_iff.mpr c16
          subst c16
          have H1 : (laws_FnPulses.l0 kj9 (wrap64 (1 + t253)) (wrap64 (1 + t254)) t255 t256 t258 t259 0 (-1) 0) = some r := by rw [if_neg (show ¬ (false = true) by decide)] at H; exact H
          clear H
          have H := H1
          clear H1
          have H' := Aside0.mk H
          clear H
          go_wp2
          go_loopg [13, 14, 15] kj9 (fun kq v13 v14 v15 w' => ∃ (x13_2 : Int) (x14_2 : Int) (x15_2 : Int), v13 = .int .i64 x13_2 ∧ v14 = .int .i64 x14_2 ∧ v15 = .int .i64 x15_2 ∧ Aside0 (laws_FnPulses.l0 kq (wrap64 (1 + t253)) (wrap64 (1 + t254)) t255 t256 t258 t259 x13_2 x14_2 x15_2 = some r) ∧ Aside0 (kq ≤ kj9) ∧ Aside0 (Below w.heap.size w w'))
          case atStart => exact ⟨(0), ((-1)), (0), (by first | rfl | (simp; done) | (simp [*]; done)), (by first | rfl | (simp; done) | (simp [*]; done)), (by first | rfl | (simp; done) | (simp [*]; done)), H', ⟨Nat.le_refl _⟩, ⟨by repeat (first | (with_reducible first | exact HB.out | apply below_alloc | apply pw_below_drewN | apply below_drew1) | exact HB.out)⟩⟩
          case round =>
            clear H'
            try clear c1
            try clear p2
            try clear c4
            try clear c5
            try clear c6
            try clear p6
            try clear c11
            try clear c12
            try clear c13
            try clear c14
            try clear c14b0
            try clear c14b1
            try clear c15
            try clear c15b0
            try clear c16
            try clear p2
            try clear p6
            obtain ⟨x13_2, x14_2, x15_2, rfl, rfl, rfl, HA, HK2, HB⟩ := hrel
            cases gk with
            | zero => exact absurd HA.out (by simp [laws_FnPulses.l0])
            | succ k2 =>
              have H := HA.out
              clear HA
              simp only [laws_FnPulses.l0] at H
              by_cases c17 : x15_2 < 200
              · rw [if_pos c17] at H
                have c17b0 : decide (x15_2 < 200) = true := decide_eq_true c17
                clear c17
                by_cases c18 : 0 ≤ x15_2
                · rw [if_pos c18] at H
                  have c18b0 : decide (0 ≤ x15_2) = true := decide_eq_true c18
                  clear c18
                  by_cases c19 : x15_2 < (t256.size : Int)
                  · rw [if_pos c19] at H
                    have c19b0 : decide (x15_2 < (t256.size : Int)) = true := decide_eq_true c19
                    clear c19
                    by_cases c21 : (bt t256 x15_2) = 48
                    · rw [if_pos c21] at H
                      have c21b0 : ((bt t256 x15_2) == 48) = true := beq_iff_eq.mpr c21
                      have c21b1 : ((bt t256 x15_2) != 48) = false := bne_eq_false_iff_eq.mpr c21
                      clear c21
                      have H' := Aside0.mk H
                      clear H
                      have p20 : 0 ≤ (x15_2 : Int) := of_decide_eq_true (by first | (with_reducible assumption) | assumption)
                      have q20 : x15_2 < (t256.size : Int) := of_decide_eq_true (by first | (with_reducible assumption) | assumption)
                      have hx20 := bt_at t256 x15_2
                      replace p20 := eq_true p20
                      replace q20 := eq_true q20
                      go_wp2
                      go_roundg k2
                      case measure => have := HJ9.out; have := HK2.out; omega
                      case rel => exact ⟨(x13_2), (x14_2), (wrap64 (x15_2 + 1)), (by first | rfl | (simp; done) | (simp [*]; done)), (by first | rfl | (simp; done) | (simp [*]; done)), (by first | rfl | (simp; done) | (simp [*]; done)), H', ⟨by have := HJ9.out; have := HK2.out; omega⟩, ⟨by repeat (first | (with_reducible first | exact HB.out | apply below_alloc | apply pw_below_drewN | apply below_drew1) | exact HB.out)⟩⟩
                    · rw [if_neg c21] at H
                      have c21b0 : ((bt t256 x15_2) == 48) = false := beq_eq_false_iff_ne.mpr c21
                      have c21b1 : ((bt t256 x15_2) != 48) = true := bne_iff_ne.mpr c21
                      replace H := Option.bind_eq_some_iff.mp H
                      obtain ⟨⟨t263, t264⟩, A220, H⟩ := H
                      replace H : ((impl_PulseError.f k2 (wrap64 (1 + t254)) (wrap64 (1 + t253)) x13_2).bind fun bt265 => (if t264 = true then (if bt265.2.2 = true then (if t263 = x15_2 then (if x14_2 ≥ 0 then (if (wrap64 (x15_2 - x14_2)) < t258 then (laws_FnPulses.j2 k2 (wrap64 (1 + t253)) (wrap64 (1 + t254)) t255 t256 t258 t259 x13_2 x15_2 true bt265.1 bt265.2.1) else (if (wrap64 (x15_2 - x14_2)) > t259 then (laws_FnPulses.j2 k2 (wrap64 (1 + t253)) (wrap64 (1 + t254)) t255 t256 t258 t259 x13_2 x15_2 true bt265.1 bt265.2.1) else (if bt265.1 < 0 then (laws_FnPulses.j2 k2 (wrap64 (1 + t253)) (wrap64 (1 + t254)) t255 t256 t258 t259 x13_2 x15_2 true bt265.1 bt265.2.1) else (laws_FnPulses.j2 k2 (wrap64 (1 + t253)) (wrap64 (1 + t254)) t255 t256 t258 t259 x13_2 x15_2 (decide (bt265.1 ≥ bt265.2.1)) bt265.1 bt265.2.1)))) else (if bt265.1 < 0 then (laws_FnPulses.j2 k2 (wrap64 (1 + t253)) (wrap64 (1 + t254)) t255 t256 t258 t259 x13_2 x15_2 true bt265.1 bt265.2.1) else (laws_FnPulses.j2 k2 (wrap64 (1 + t253)) (wrap64 (1 + t254)) t255 t256 t258 t259 x13_2 x15_2 (decide (bt265.1 ≥ bt265.2.1)) bt265.1 bt265.2.1))) else (laws_FnPulses.j2 k2 (wrap64 (1 + t253)) (wrap64 (1 + t254)) t255 t256 t258 t259 x13_2 x15_2 true bt265.1 bt265.2.1)) else (laws_FnPulses.j2 k2 (wrap64 (1 + t253)) (wrap64 (1 + t254)) t255 t256 t258 t259 x13_2 x15_2 true bt265.1 bt265.2.1)) else (laws_FnPulses.j2 k2 (wrap64 (1 + t253)) (wrap64 (1 + t254)) t255 t256 t258 t259 x13_2 x15_2 true bt265.1 bt265.2.1))) = some r := H
                      have A22 := Aside0.mk A220
                      clear A220
                      replace H := Option.bind_eq_some_iff.mp H
                      obtain ⟨⟨t265, t266, t267⟩, A230, H⟩ := H
                      replace H : (if t264 = true then (if t267 = true then (if t263 = x15_2 then (if x14_2 ≥ 0 then (if (wrap64 (x15_2 - x14_2)) < t258 then (laws_FnPulses.j2 k2 (wrap64 (1 + t253)) (wrap64 (1 + t254)) t255 t256 t258 t259 x13_2 x15_2 true t265 t266) else (if (wrap64 (x15_2 - x14_2)) > t259 then (laws_FnPulses.j2 k2 (wrap64 (1 + t253)) (wrap64 (1 + t254)) t255 t256 t258 t259 x13_2 x15_2 true t265 t266) else (if t265 < 0 then (laws_FnPulses.j2 k2 (wrap64 (1 + t253)) (wrap64 (1 + t254)) t255 t256 t258 t259 x13_2 x15_2 true t265 t266) else (laws_FnPulses.j2 k2 (wrap64 (1 + t253)) (wrap64 (1 + t254)) t255 t256 t258 t259 x13_2 x15_2 (decide (t265 ≥ t266)) t265 t266)))) else (if t265 < 0 then (laws_FnPulses.j2 k2 (wrap64 (1 + t253)) (wrap64 (1 + t254)) t255 t256 t258 t259 x13_2 x15_2 true t265 t266) else (laws_FnPulses.j2 k2 (wrap64 (1 + t253)) (wrap64 (1 + t254)) t255 t256 t258 t259 x13_2 x15_2 (decide (t265 ≥ t266)) t265 t266))) else (laws_FnPulses.j2 k2 (wrap64 (1 + t253)) (wrap64 (1 + t254)) t255 t256 t258 t259 x13_2 x15_2 true t265 t266)) else (laws_FnPulses.j2 k2 (wrap64 (1 + t253)) (wrap64 (1 + t254)) t255 t256 t258 t259 x13_2 x15_2 true t265 t266)) else (laws_FnPulses.j2 k2 (wrap64 (1 + t253)) (wrap64 (1 + t254)) t255 t256 t258 t259 x13_2 x15_2 true t265 t266)) = some r := H
                      have A23 := Aside0.mk A230
                      clear A230
                      have HC24 := Aside0.mk H
                      clear H
                      have p20 : 0 ≤ (x15_2 : Int) := of_decide_eq_true (by first | (with_reducible assumption) | assumption)
                      have q20 : x15_2 < (t256.size : Int) := of_decide_eq_true (by first | (with_reducible assumption) | assumption)
                      have hx20 := bt_at t256 x15_2
                      replace p20 := eq_true p20
                      replace q20 := eq_true q20
                      go_upto_region 18 with (first | ((with_reducible refine gate_callee (f := 13) rfl ?_); refine goesL_ (some 88) rfl rfl Try.func13 (by kernel_rfl) rfl #[.int .i64 (wrap64 (1 + t254)), .int .i64 (wrap64 (1 + t253)), .int .i64 t255, .int .i64 x13_2] rfl (by (try simp only [List.map_toArray, List.map_cons, List.map_nil]); first | done | rfl | (simp only [List.length_drop, List.length_take]; rfl)) ?_; (with_reducible refine (impl_PulseTick.calls (wrap64 (1 + t254)) (wrap64 (1 + t253)) t255 x13_2 t263 t264 _ A22.out).mono ?_); rintro e w' ⟨rfl, ⟨nd, rfl⟩⟩; refine ⟨_, rfl, ?_⟩; (try (rw [drewN_self wr]; generalize hq_ : World.drewN wr _ = wr; have n0_ : Aside0 (Below w.heap.size w wr) := ⟨by rw [← hq_]; exact (by repeat (first | (with_reducible first | exact HB.out | apply below_alloc | apply pw_below_drewN | apply below_drew1) | exact HB.out))⟩; clear HB hq_; have HB := n0_; clear n0_))) | ((with_reducible refine gate_callee (f := 14) rfl ?_); refine goesL_ (some 95) rfl rfl Try.func14 (by kernel_rfl) rfl #[.int .i64 (wrap64 (1 + t254)), .int .i64 (wrap64 (1 + t253)), .int .i64 x13_2] rfl (by (try simp only [List.map_toArray, List.map_cons, List.map_nil]); first | done | rfl | (simp only [List.length_drop, List.length_take]; rfl)) ?_; (with_reducible refine (impl_PulseError.calls k2 (wrap64 (1 + t254)) (wrap64 (1 + t253)) x13_2 t265 t266 t267 _ A23.out).mono ?_); rintro e w25 ⟨rfl, hb⟩; refine ⟨_, rfl, ?_⟩; have n0_ := Aside0.mk (below_step (by repeat (first | (with_reducible first | exact HB.out | apply below_alloc | apply pw_below_drewN | apply below_drew1) | exact HB.out)) hb); clear HB; have HB := n0_; clear n0_; (try clear hb); (try clear hb2); (try clear hk); (try clear hi)) | ((with_reducible refine gate_dst (N := 18) rfl ?_); (try (refine gate_guard (by rfl) ?_; dsimp only)); refine box_event ?hg (N := 18) ?hd (cs := #[.int .i64 0, .int .i64 0]) (t := 26) ?hr ?_; (case hd => rfl); (case hg => rfl); (case hr => first | (go_simp; done) | (go_simp; rfl)); intro gb268 hg w26 hbox hb; have n0_ := Aside0.mk (below_step (by repeat (first | (with_reducible first | exact HB.out | apply below_alloc | apply pw_below_drewN | apply below_drew1) | exact HB.out)) hb); have n1_ := Aside0.mk (hbox); have n2_ := Aside0.mk ((by rw [hg]; exact (below_size (by repeat (first | (with_reducible first | exact HB.out | apply below_alloc | apply pw_below_drewN | apply below_drew1) | exact HB.out))) : w.heap.size ≤ gb268)); have n3_ := Aside0.mk ((by rw [hg]; exact (below_size (by repeat (first | (with_reducible first | exact HB.out | apply below_alloc | apply pw_below_drewN | apply below_drew1) | exact HB.out))) : w.heap.size ≤ gb268)); clear HB; have HB := n0_; have BK268 := n1_; have GW268 := n2_; have GE268 := n3_; clear n0_ n1_ n2_ n3_; clear hb hbox hg; have hcz27_0 : w26.cell? ⟨gb268, 0, none⟩ = some (.int .i64 0) := (blk_cell BK268.out 0).trans rfl; have hcz27_1 : w26.cell? ⟨gb268, 1, none⟩ = some (.int .i64 0) := (blk_cell BK268.out 1).trans rfl; have hfz27_0 := blk_frozen BK268.out 0; have hfz27_1 := blk_frozen BK268.out 1))
                      (try simp only [Act.put, List.setIfInBounds_toArray, List.set_cons_zero, List.set_cons_succ])
                      go_cut [138] (fun v138 wc => ∃ (kq : Nat) (x138_23 : Bool), v138 = .bool x138_23 ∧ Aside0 (laws_FnPulses.j2 kq (wrap64 (1 + t253)) (wrap64 (1 + t254)) t255 t256 t258 t259 x13_2 x15_2 x138_23 t265 t266 = some r) ∧ Aside0 (kq ≤ k2) ∧ Aside0 (wc.heap[gb268]? = some (.cells #[.int .i64 t265, .int .i64 t266] 26 (0, 0))) ∧ Aside0 (Below w.heap.size w wc))
                      case first =>
                        have H := HC24.out
                        clear HC24
                        by_cases c28 : t264 = true
                        · subst c28
                          have H1 : (if t267 = true then (if t263 = x15_2 then (if x14_2 ≥ 0 then (if (wrap64 (x15_2 - x14_2)) < t258 then (laws_FnPulses.j2 k2 (wrap64 (1 + t253)) (wrap64 (1 + t254)) t255 t256 t258 t259 x13_2 x15_2 true t265 t266) else (if (wrap64 (x15_2 - x14_2)) > t259 then (laws_FnPulses.j2 k2 (wrap64 (1 + t253)) (wrap64 (1 + t254)) t255 t256 t258 t259 x13_2 x15_2 true t265 t266) else (if t265 < 0 then (laws_FnPulses.j2 k2 (wrap64 (1 + t253)) (wrap64 (1 + t254)) t255 t256 t258 t259 x13_2 x15_2 true t265 t266) else (laws_FnPulses.j2 k2 (wrap64 (1 + t253)) (wrap64 (1 + t254)) t255 t256 t258 t259 x13_2 x15_2 (decide (t265 ≥ t266)) t265 t266)))) else (if t265 < 0 then (laws_FnPulses.j2 k2 (wrap64 (1 + t253)) (wrap64 (1 + t254)) t255 t256 t258 t259 x13_2 x15_2 true t265 t266) else (laws_FnPulses.j2 k2 (wrap64 (1 + t253)) (wrap64 (1 + t254)) t255 t256 t258 t259 x13_2 x15_2 (decide (t265 ≥ t266)) t265 t266))) else (laws_FnPulses.j2 k2 (wrap64 (1 + t253)) (wrap64 (1 + t254)) t255 t256 t258 t259 x13_2 x15_2 true t265 t266)) else (laws_FnPulses.j2 k2 (wrap64 (1 + t253)) (wrap64 (1 + t254)) t255 t256 t258 t259 x13_2 x15_2 true t265 t266)) = some r := by rw [if_pos rfl] at H; exact H
                          clear H
                          have H := H1
                          clear H1
                          by_cases c29 : t267 = true
                          · subst c29
                            have H1 : (if t263 = x15_2 then (if x14_2 ≥ 0 then (if (wrap64 (x15_2 - x14_2)) < t258 then (laws_FnPulses.j2 k2 (wrap64 (1 + t253)) (wrap64 (1 + t254)) t255 t256 t258 t259 x13_2 x15_2 true t265 t266) else (if (wrap64 (x15_2 - x14_2)) > t259 then (laws_FnPulses.j2 k2 (wrap64 (1 + t253)) (wrap64 (1 + t254)) t255 t256 t258 t259 x13_2 x15_2 true t265 t266) else (if t265 < 0 then (laws_FnPulses.j2 k2 (wrap64 (1 + t253)) (wrap64 (1 + t254)) t255 t256 t258 t259 x13_2 x15_2 true t265 t266) else (laws_FnPulses.j2 k2 (wrap64 (1 + t253)) (wrap64 (1 + t254)) t255 t256 t258 t259 x13_2 x15_2 (decide (t265 ≥ t266)) t265 t266)))) else (if t265 < 0 then (laws_FnPulses.j2 k2 (wrap64 (1 + t253)) (wrap64 (1 + t254)) t255 t256 t258 t259 x13_2 x15_2 true t265 t266) else (laws_FnPulses.j2 k2 (wrap64 (1 + t253)) (wrap64 (1 + t254)) t255 t256 t258 t259 x13_2 x15_2 (decide (t265 ≥ t266)) t265 t266))) else (laws_FnPulses.j2 k2 (wrap64 (1 + t253)) (wrap64 (1 + t254)) t255 t256 t258 t259 x13_2 x15_2 true t265 t266)) = some r := by rw [if_pos rfl] at H; exact H
                            clear H
                            have H := H1
                            clear H1
                            by_cases c30 : t263 = x15_2
                            · rw [if_pos c30] at H
                              have c30b0 : (t263 == x15_2) = true := beq_iff_eq.mpr c30
                              have c30b1 : (t263 != x15_2) = false := bne_eq_false_iff_eq.mpr c30
                              clear c30
                              (first | rw [c30b0] | (simp only [i64_w, i32_w]; rw [c30b0]) | skip)
                              by_cases c31 : x14_2 ≥ 0
                              · rw [if_pos c31] at H
                                have c31b0 : decide (0 ≤ x14_2) = true := decide_eq_true c31
                                clear c31
                                by_cases c32 : (wrap64 (x15_2 - x14_2)) < t258
                                · rw [if_pos c32] at H
                                  have c32b0 : decide ((wrap64 (x15_2 - x14_2)) < t258) = true := decide_eq_true c32
                                  clear c32
                                  have H' := Aside0.mk H
                                  clear H
                                  go_wp2
                                  go_meet
                                  case rel => exact ⟨_, (true), (by first | rfl | (simp; done) | (simp [*]; done)), H', ⟨by have := HJ9.out; have := HK2.out; first | omega | exact Nat.le_refl _⟩, ⟨by (with_reducible repeat (first | refine blk_drewN ?_ _ | refine blk_drew ?_ | refine blk_alloc ?_ _)); refine blk_put (cs := #[.int .i64 t265, .int .i64 0]) ?_ 1 _ rfl; (with_reducible repeat (first | refine blk_drewN ?_ _ | refine blk_drew ?_ | refine blk_alloc ?_ _)); refine blk_put (cs := #[.int .i64 0, .int .i64 0]) ?_ 0 _ rfl; (with_reducible repeat (first | refine blk_drewN ?_ _ | refine blk_drew ?_ | refine blk_alloc ?_ _)); exact BK268.out⟩, ⟨by repeat (first | (with_reducible first | exact HB.out | apply below_alloc | apply pw_below_drewN | apply below_drew1 | refine below_set ?_ GE268.out) | exact HB.out)⟩⟩
                                · rw [if_neg c32] at H
                                  have c32b0 : decide ((wrap64 (x15_2 - x14_2)) < t258) = false := decide_eq_false c32
                                  clear c32
                                  by_cases c33 : (wrap64 (x15_2 - x14_2)) > t259
                                  · rw [if_pos c33] at H
                                    have c33b0 : decide (t259 < (wrap64 (x15_2 - x14_2))) = true := decide_eq_true c33
                                    clear c33
                                    have H' := Aside0.mk H
                                    clear H
                                    go_wp2
                                    go_meet
                                    case rel => exact ⟨_, (true), (by first | rfl | (simp; done) | (simp [*]; done)), H', ⟨by have := HJ9.out; have := HK2.out; first | omega | exact Nat.le_refl _⟩, ⟨by (with_reducible repeat (first | refine blk_drewN ?_ _ | refine blk_drew ?_ | refine blk_alloc ?_ _)); refine blk_put (cs := #[.int .i64 t265, .int .i64 0]) ?_ 1 _ rfl; (with_reducible repeat (first | refine blk_drewN ?_ _ | refine blk_drew ?_ | refine blk_alloc ?_ _)); refine blk_put (cs := #[.int .i64 0, .int .i64 0]) ?_ 0 _ rfl; (with_reducible repeat (first | refine blk_drewN ?_ _ | refine blk_drew ?_ | refine blk_alloc ?_ _)); exact BK268.out⟩, ⟨by repeat (first | (with_reducible first | exact HB.out | apply below_alloc | apply pw_below_drewN | apply below_drew1 | refine below_set ?_ GE268.out) | exact HB.out)⟩⟩
                                  · rw [if_neg c33] at H
                                    have c33b0 : decide (t259 < (wrap64 (x15_2 - x14_2))) = false := decide_eq_false c33
                                    clear c33
                                    by_cases c34 : t265 < 0
                                    · rw [if_pos c34] at H
                                      have c34b0 : decide (t265 < 0) = true := decide_eq_true c34
                                      clear c34
                                      have H' := Aside0.mk H
                                      clear H
                                      have hcz35_0 : w26.cell? ⟨gb268, 0, none⟩ = some (.int .i64 0) := (blk_cell BK268.out 0).trans rfl
                                      have hcz35_1 : w26.cell? ⟨gb268, 1, none⟩ = some (.int .i64 0) := (blk_cell BK268.out 1).trans rfl
                                      have hfz35_0 := blk_frozen BK268.out 0
                                      have hfz35_1 := blk_frozen BK268.out 1
                                      go_wp2
                                      go_meet
                                      case rel => exact ⟨_, (true), (by first | rfl | (simp; done) | (simp [*]; done)), H', ⟨by have := HJ9.out; have := HK2.out; first | omega | exact Nat.le_refl _⟩, ⟨by (with_reducible repeat (first | refine blk_drewN ?_ _ | refine blk_drew ?_ | refine blk_alloc ?_ _)); refine blk_put (cs := #[.int .i64 t265, .int .i64 0]) ?_ 1 _ rfl; (with_reducible repeat (first | refine blk_drewN ?_ _ | refine blk_drew ?_ | refine blk_alloc ?_ _)); refine blk_put (cs := #[.int .i64 0, .int .i64 0]) ?_ 0 _ rfl; (with_reducible repeat (first | refine blk_drewN ?_ _ | refine blk_drew ?_ | refine blk_alloc ?_ _)); exact BK268.out⟩, ⟨by repeat (first | (with_reducible first | exact HB.out | apply below_alloc | apply pw_below_drewN | apply below_drew1 | refine below_set ?_ GE268.out) | exact HB.out)⟩⟩
                                    · rw [if_neg c34] at H
                                      have c34b0 : decide (t265 < 0) = false := decide_eq_false c34
                                      clear c34
                                      have H' := Aside0.mk H
                                      clear H
                                      have hcz36_0 : w26.cell? ⟨gb268, 0, none⟩ = some (.int .i64 0) := (blk_cell BK268.out 0).trans rfl
                                      have hcz36_1 : w26.cell? ⟨gb268, 1, none⟩ = some (.int .i64 0) := (blk_cell BK268.out 1).trans rfl
                                      have hfz36_0 := blk_frozen BK268.out 0
                                      have hfz36_1 := blk_frozen BK268.out 1
                                      go_wp2
                                      go_meet
                                      case rel => exact ⟨_, (decide (t265 ≥ t266)), (by first | rfl | (simp; done) | (simp [*]; done)), H', ⟨by have := HJ9.out; have := HK2.out; first | omega | exact Nat.le_refl _⟩, ⟨by (with_reducible repeat (first | refine blk_drewN ?_ _ | refine blk_drew ?_ | refine blk_alloc ?_ _)); refine blk_put (cs := #[.int .i64 t265, .int .i64 0]) ?_ 1 _ rfl; (with_reducible repeat (first | refine blk_drewN ?_ _ | refine blk_drew ?_ | refine blk_alloc ?_ _)); refine blk_put (cs := #[.int .i64 0, .int .i64 0]) ?_ 0 _ rfl; (with_reducible repeat (first | refine blk_drewN ?_ _ | refine blk_drew ?_ | refine blk_alloc ?_ _)); exact BK268.out⟩, ⟨by repeat (first | (with_reducible first | exact HB.out | apply below_alloc | apply pw_below_drewN | apply below_drew1 | refine below_set ?_ GE268.out) | exact HB.out)⟩⟩
                              · rw [if_neg c31] at H
                                have c31b0 : decide (0 ≤ x14_2) = false := decide_eq_false c31
                                clear c31
                                by_cases c37 : t265 < 0
                                · rw [if_pos c37] at H
                                  have c37b0 : decide (t265 < 0) = true := decide_eq_true c37
                                  clear c37
                                  have H' := Aside0.mk H
                                  clear H
                                  have hcz38_0 : w26.cell? ⟨gb268, 0, none⟩ = some (.int .i64 0) := (blk_cell BK268.out 0).trans rfl
                                  have hcz38_1 : w26.cell? ⟨gb268, 1, none⟩ = some (.int .i64 0) := (blk_cell BK268.out 1).trans rfl
                                  have hfz38_0 := blk_frozen BK268.out 0
                                  have hfz38_1 := blk_frozen BK268.out 1
                                  go_wp2
                                  go_meet
                                  case rel => exact ⟨_, (true), (by first | rfl | (simp; done) | (simp [*]; done)), H', ⟨by have := HJ9.out; have := HK2.out; first | omega | exact Nat.le_refl _⟩, ⟨by (with_reducible repeat (first | refine blk_drewN ?_ _ | refine blk_drew ?_ | refine blk_alloc ?_ _)); refine blk_put (cs := #[.int .i64 t265, .int .i64 0]) ?_ 1 _ rfl; (with_reducible repeat (first | refine blk_drewN ?_ _ | refine blk_drew ?_ | refine blk_alloc ?_ _)); refine blk_put (cs := #[.int .i64 0, .int .i64 0]) ?_ 0 _ rfl; (with_reducible repeat (first | refine blk_drewN ?_ _ | refine blk_drew ?_ | refine blk_alloc ?_ _)); exact BK268.out⟩, ⟨by repeat (first | (with_reducible first | exact HB.out | apply below_alloc | apply pw_below_drewN | apply below_drew1 | refine below_set ?_ GE268.out) | exact HB.out)⟩⟩
                                · rw [if_neg c37] at H
                                  have c37b0 : decide (t265 < 0) = false := decide_eq_false c37
                                  clear c37
                                  have H' := Aside0.mk H
                                  clear H
                                  have hcz39_0 : w26.cell? ⟨gb268, 0, none⟩ = some (.int .i64 0) := (blk_cell BK268.out 0).trans rfl
                                  have hcz39_1 : w26.cell? ⟨gb268, 1, none⟩ = some (.int .i64 0) := (blk_cell BK268.out 1).trans rfl
                                  have hfz39_0 := blk_frozen BK268.out 0
                                  have hfz39_1 := blk_frozen BK268.out 1
                                  go_wp2
                                  go_meet
                                  case rel => exact ⟨_, (decide (t265 ≥ t266)), (by first | rfl | (simp; done) | (simp [*]; done)), H', ⟨by have := HJ9.out; have := HK2.out; first | omega | exact Nat.le_refl _⟩, ⟨by (with_reducible repeat (first | refine blk_drewN ?_ _ | refine blk_drew ?_ | refine blk_alloc ?_ _)); refine blk_put (cs := #[.int .i64 t265, .int .i64 0]) ?_ 1 _ rfl; (with_reducible repeat (first | refine blk_drewN ?_ _ | refine blk_drew ?_ | refine blk_alloc ?_ _)); refine blk_put (cs := #[.int .i64 0, .int .i64 0]) ?_ 0 _ rfl; (with_reducible repeat (first | refine blk_drewN ?_ _ | refine blk_drew ?_ | refine blk_alloc ?_ _)); exact BK268.out⟩, ⟨by repeat (first | (with_reducible first | exact HB.out | apply below_alloc | apply pw_below_drewN | apply below_drew1 | refine below_set ?_ GE268.out) | exact HB.out)⟩⟩
                            · rw [if_neg c30] at H
                              have c30b0 : (t263 == x15_2) = false := beq_eq_false_iff_ne.mpr c30
                              have c30b1 : (t263 != x15_2) = true := bne_iff_ne.mpr c30
                              (first | rw [c30b0] | (simp only [i64_w, i32_w]; rw [c30b0]) | skip)
                              have H' := Aside0.mk H
                              clear H
                              go_wp2
                              go_meet
                              case rel => exact ⟨_, (true), (by first | rfl | (simp; done) | (simp [*]; done)), H', ⟨by have := HJ9.out; have := HK2.out; first | omega | exact Nat.le_refl _⟩, ⟨by (with_reducible repeat (first | refine blk_drewN ?_ _ | refine blk_drew ?_ | refine blk_alloc ?_ _)); refine blk_put (cs := #[.int .i64 t265, .int .i64 0]) ?_ 1 _ rfl; (with_reducible repeat (first | refine blk_drewN ?_ _ | refine blk_drew ?_ | refine blk_alloc ?_ _)); refine blk_put (cs := #[.int .i64 0, .int .i64 0]) ?_ 0 _ rfl; (with_reducible repeat (first | refine blk_drewN ?_ _ | refine blk_drew ?_ | refine blk_alloc ?_ _)); exact BK268.out⟩, ⟨by repeat (first | (with_reducible first | exact HB.out | apply below_alloc | apply pw_below_drewN | apply below_drew1 | refine below_set ?_ GE268.out) | exact HB.out)⟩⟩
                          · replace c29 := Bool.eq_false_iff.mpr c29
                            subst c29
                            have H1 : (laws_FnPulses.j2 k2 (wrap64 (1 + t253)) (wrap64 (1 + t254)) t255 t256 t258 t259 x13_2 x15_2 true t265 t266) = some r := by rw [if_neg (show ¬ (false = true) by decide)] at H; exact H
                            clear H
                            have H := H1
                            clear H1
                            have H' := Aside0.mk H
                            clear H
                            go_wp2
                            go_meet
                            case rel => exact ⟨_, (true), (by first | rfl | (simp; done) | (simp [*]; done)), H', ⟨by have := HJ9.out; have := HK2.out; first | omega | exact Nat.le_refl _⟩, ⟨by (with_reducible repeat (first | refine blk_drewN ?_ _ | refine blk_drew ?_ | refine blk_alloc ?_ _)); refine blk_put (cs := #[.int .i64 t265, .int .i64 0]) ?_ 1 _ rfl; (with_reducible repeat (first | refine blk_drewN ?_ _ | refine blk_drew ?_ | refine blk_alloc ?_ _)); refine blk_put (cs := #[.int .i64 0, .int .i64 0]) ?_ 0 _ rfl; (with_reducible repeat (first | refine blk_drewN ?_ _ | refine blk_drew ?_ | refine blk_alloc ?_ _)); exact BK268.out⟩, ⟨by repeat (first | (with_reducible first | exact HB.out | apply below_alloc | apply pw_below_drewN | apply below_drew1 | refine below_set ?_ GE268.out) | exact HB.out)⟩⟩
                        · replace c28 := Bool.eq_false_iff.mpr c28
                          subst c28
                          have H1 : (laws_FnPulses.j2 k2 (wrap64 (1 + t253)) (wrap64 (1 + t254)) t255 t256 t258 t259 x13_2 x15_2 true t265 t266) = some r := by rw [if_neg (show ¬ (false = true) by decide)] at H; exact H
                          clear H
                          have H := H1
                          clear H1
                          have H' := Aside0.mk H
                          clear H
                          go_wp2
                          go_meet
                          case rel => exact ⟨_, (true), (by first | rfl | (simp; done) | (simp [*]; done)), H', ⟨by have := HJ9.out; have := HK2.out; first | omega | exact Nat.le_refl _⟩, ⟨by (with_reducible repeat (first | refine blk_drewN ?_ _ | refine blk_drew ?_ | refine blk_alloc ?_ _)); refine blk_put (cs := #[.int .i64 t265, .int .i64 0]) ?_ 1 _ rfl; (with_reducible repeat (first | refine blk_drewN ?_ _ | refine blk_drew ?_ | refine blk_alloc ?_ _)); refine blk_put (cs := #[.int .i64 0, .int .i64 0]) ?_ 0 _ rfl; (with_reducible repeat (first | refine blk_drewN ?_ _ | refine blk_drew ?_ | refine blk_alloc ?_ _)); exact BK268.out⟩, ⟨by repeat (first | (with_reducible first | exact HB.out | apply below_alloc | apply pw_below_drewN | apply below_drew1 | refine below_set ?_ GE268.out) | exact HB.out)⟩⟩
                      case rest =>
                        clear HC24
                        try clear c1
                        try clear c2
                        try clear p2
                        try clear q2
                        try clear hx2
                        try clear c3
                        try clear c4
                        try clear c5
                        try clear c6
                        try clear p6
                        try clear c11
                        try clear c12
                        try clear c13
                        try clear c14
                        try clear c14b0
                        try clear c14b1
                        try clear c15
                        try clear c15b0
                        try clear c16
                        try clear c17
                        try clear c17b0
                        try clear c18
                        try clear c18b0
                        try clear c19
                        try clear c19b0
                        try clear p20
                        try clear q20
                        try clear hx20
                        try clear c21
                        try clear c21b0
                        try clear c21b1
                        try clear c28
                        try clear c29
                        try clear c30
                        try clear c30b0
                        try clear c30b1
                        try clear c31
                        try clear c31b0
                        try clear c32
                        try clear c32b0
                        try clear c33
                        try clear c33b0
                        try clear c34
                        try clear c34b0
                        try clear c37
                        try clear c37b0
                        try clear hcz27_0
                        try clear hcz27_1
                        try clear hcz35_0
                        try clear hcz35_1
                        try clear hcz36_0
                        try clear hcz36_1
                        try clear hcz38_0
                        try clear hcz38_1
                        try clear hcz39_0
                        try clear hcz39_1
                        try clear hfz27_0
                        try clear hfz27_1
                        try clear hfz35_0
                        try clear hfz35_1
                        try clear hfz36_0
                        try clear hfz36_1
                        try clear hfz38_0
                        try clear hfz38_1
                        try clear hfz39_0
                        try clear hfz39_1
                        try clear p2
                        try clear p20
                        try clear p6
                        try clear q20
                        obtain ⟨kq, x138_23, rfl, HA, HJ23, BK268, HB⟩ := hcut
                        cases kq with
                        | zero => exact absurd HA.out (by simp [laws_FnPulses.j2])
                        | succ kj23 =>
                          have H := HA.out
                          clear HA
                          simp only [laws_FnPulses.j2] at H
                          by_cases c40 : x138_23 = true
                          · subst c40
                            have H1 : (some false) = some r := by rw [if_pos rfl] at H; exact H
                            clear H
                            have H := H1
                            clear H1
                            obtain rfl := Option.some.inj H
                            go_wp2
                            go_ret
                            exact ⟨by first | rfl | (simp [errW_none, errW_some] <;> rfl) | (simp [*, errW_none, errW_some] <;> rfl), by repeat (first | (with_reducible first | exact HB.out | apply below_alloc | apply pw_below_drewN | apply below_drew1 | refine below_set ?_ GE268.out) | exact HB.out)⟩
                          · replace c40 := Bool.eq_false_iff.mpr c40
                            subst c40
                            have H1 : ((spec_PulseTick.f (wrap64 (1 + t254)) (wrap64 (1 + t253)) 0 x13_2).bind fun bt269 => ((spec_MakeFraction.f kj23 (wrap64 ((wrap64 ((wrap64 (bt269.1 + 1)) * (wrap64 (1 + t254)))) - (wrap64 ((wrap64 (x13_2 + 1)) * (wrap64 (1 + t253)))))) (wrap64 (1 + t254))).bind fun bt271 => (if bt269.2 = true then (if bt271.2.2 = true then (if (!(bt271.1 == t265) || (!(bt271.2.1 == t266))) = true then (some false) else (laws_FnPulses.l0 kj23 (wrap64 (1 + t253)) (wrap64 (1 + t254)) t255 t256 t258 t259 (wrap64 (x13_2 + 1)) x15_2 (wrap64 (x15_2 + 1)))) else (some false)) else (some false)))) = some r := by rw [if_neg (show ¬ (false = true) by decide)] at H; exact H
                            clear H
                            have H := H1
                            clear H1
                            replace H := Option.bind_eq_some_iff.mp H
                            obtain ⟨⟨t269, t270⟩, A410, H⟩ := H
                            replace H : ((spec_MakeFraction.f kj23 (wrap64 ((wrap64 ((wrap64 (t269 + 1)) * (wrap64 (1 + t254)))) - (wrap64 ((wrap64 (x13_2 + 1)) * (wrap64 (1 + t253)))))) (wrap64 (1 + t254))).bind fun bt271 => (if t270 = true then (if bt271.2.2 = true then (if (!(bt271.1 == t265) || (!(bt271.2.1 == t266))) = true then (some false) else (laws_FnPulses.l0 kj23 (wrap64 (1 + t253)) (wrap64 (1 + t254)) t255 t256 t258 t259 (wrap64 (x13_2 + 1)) x15_2 (wrap64 (x15_2 + 1)))) else (some false)) else (some false))) = some r := H
                            have A41 := Aside0.mk A410
                            clear A410
                            replace H := Option.bind_eq_some_iff.mp H
                            obtain ⟨⟨t271, t272, t273⟩, A420, H⟩ := H
                            replace H : (if t270 = true then (if t273 = true then (if (!(t271 == t265) || (!(t272 == t266))) = true then (some false) else (laws_FnPulses.l0 kj23 (wrap64 (1 + t253)) (wrap64 (1 + t254)) t255 t256 t258 t259 (wrap64 (x13_2 + 1)) x15_2 (wrap64 (x15_2 + 1)))) else (some false)) else (some false)) = some r := H
                            have A42 := Aside0.mk A420
                            clear A420
                            by_cases c43 : t270 = true
                            · subst c43
                              have H1 : (if t273 = true then (if (!(t271 == t265) || (!(t272 == t266))) = true then (some false) else (laws_FnPulses.l0 kj23 (wrap64 (1 + t253)) (wrap64 (1 + t254)) t255 t256 t258 t259 (wrap64 (x13_2 + 1)) x15_2 (wrap64 (x15_2 + 1)))) else (some false)) = some r := by rw [if_pos rfl] at H; exact H
                              clear H
                              have H := H1
                              clear H1
                              by_cases c44 : t273 = true
                              · subst c44
                                have H1 : (if (!(t271 == t265) || (!(t272 == t266))) = true then (some false) else (laws_FnPulses.l0 kj23 (wrap64 (1 + t253)) (wrap64 (1 + t254)) t255 t256 t258 t259 (wrap64 (x13_2 + 1)) x15_2 (wrap64 (x15_2 + 1)))) = some r := by rw [if_pos rfl] at H; exact H
                                clear H
                                have H := H1
                                clear H1
                                by_cases c45 : (!(t271 == t265) || (!(t272 == t266))) = true
                                · rw [if_pos c45] at H
                                  have c45b0 : (!(t271 == t265) || (!(t272 == t266))) = true := c45
                                  clear c45
                                  obtain rfl := Option.some.inj H
                                  go_wp2_with (first | ((with_reducible refine gate_callee (f := 15) rfl ?_); refine goesL_ (some 143) rfl rfl Try.func15 (by kernel_rfl) rfl #[.int .i64 (wrap64 (1 + t254)), .int .i64 (wrap64 (1 + t253)), .int .i64 0, .int .i64 x13_2] rfl (by (try simp only [List.map_toArray, List.map_cons, List.map_nil]); first | done | rfl | (simp only [List.length_drop, List.length_take]; rfl)) ?_; (with_reducible refine (spec_PulseTick.calls (wrap64 (1 + t254)) (wrap64 (1 + t253)) 0 x13_2 t269 true _ A41.out).mono ?_); rintro e w' ⟨rfl, ⟨nd, rfl⟩⟩; refine ⟨_, rfl, ?_⟩; (try (rw [drewN_self wc]; generalize hq_ : World.drewN wc _ = wc; have n0_ : Aside0 (wc.heap[gb268]? = some (.cells #[.int .i64 t265, .int .i64 t266] 26 (0, 0))) := ⟨by rw [← hq_]; exact (by (with_reducible repeat (first | refine blk_drewN ?_ _ | refine blk_drew ?_ | refine blk_alloc ?_ _)); exact BK268.out)⟩; have n1_ : Aside0 (Below w.heap.size w wc) := ⟨by rw [← hq_]; exact (by repeat (first | (with_reducible first | exact HB.out | apply below_alloc | apply pw_below_drewN | apply below_drew1 | refine below_set ?_ GE268.out) | exact HB.out))⟩; clear BK268 HB hq_; have BK268 := n0_; have HB := n1_; clear n0_ n1_))) | ((with_reducible refine gate_callee (f := 16) rfl ?_); refine goesL_ (some 157) rfl rfl Try.func16 (by kernel_rfl) rfl #[.int .i64 (wrap64 ((wrap64 ((wrap64 (t269 + 1)) * (wrap64 (1 + t254)))) - (wrap64 ((wrap64 (x13_2 + 1)) * (wrap64 (1 + t253)))))), .int .i64 (wrap64 (1 + t254))] rfl (by (try simp only [List.map_toArray, List.map_cons, List.map_nil]); first | done | rfl | (simp only [List.length_drop, List.length_take]; rfl)) ?_; (with_reducible refine (spec_MakeFraction.calls kj23 (wrap64 ((wrap64 ((wrap64 (t269 + 1)) * (wrap64 (1 + t254)))) - (wrap64 ((wrap64 (x13_2 + 1)) * (wrap64 (1 + t253)))))) (wrap64 (1 + t254)) t271 t272 true _ A42.out).mono ?_); rintro e w46 ⟨rfl, hb⟩; refine ⟨_, rfl, ?_⟩; have n0_ := Aside0.mk (blk_below (g := gb268) (o := .cells #[.int .i64 t265, .int .i64 t266] 26 (0, 0)) (by (with_reducible repeat (first | refine blk_drewN ?_ _ | refine blk_drew ?_ | refine blk_alloc ?_ _)); exact BK268.out) hb); have n1_ := Aside0.mk (below_step (by repeat (first | (with_reducible first | exact HB.out | apply below_alloc | apply pw_below_drewN | apply below_drew1 | refine below_set ?_ GE268.out) | exact HB.out)) hb); clear BK268; clear HB; have BK268 := n0_; have HB := n1_; clear n0_ n1_; (try clear hb); (try clear hb2); (try clear hk); (try clear hi)) | ((with_reducible refine gate_dst (N := 22) rfl ?_); (try (refine gate_guard (by rfl) ?_; dsimp only)); refine box_event ?hg (N := 22) ?hd (cs := #[.int .i64 0, .int .i64 0]) (t := 26) ?hr ?_; (case hd => rfl); (case hg => rfl); (case hr => first | (go_simp; done) | (go_simp; rfl)); intro gb274 hg w47 hbox hb; have n0_ := Aside0.mk (blk_below (g := gb268) (o := .cells #[.int .i64 t265, .int .i64 t266] 26 (0, 0)) (by (with_reducible repeat (first | refine blk_drewN ?_ _ | refine blk_drew ?_ | refine blk_alloc ?_ _)); exact BK268.out) hb); have n1_ := Aside0.mk (below_step (by repeat (first | (with_reducible first | exact HB.out | apply below_alloc | apply pw_below_drewN | apply below_drew1 | refine below_set ?_ GE268.out) | exact HB.out)) hb); have n2_ := Aside0.mk (hbox); have n3_ := Aside0.mk ((by rw [hg]; exact (below_size (by repeat (first | (with_reducible first | exact HB.out | apply below_alloc | apply pw_below_drewN | apply below_drew1 | refine below_set ?_ GE268.out) | exact HB.out))) : w.heap.size ≤ gb274)); have n4_ := Aside0.mk ((by rw [hg]; exact (below_size (by repeat (first | (with_reducible first | exact HB.out | apply below_alloc | apply pw_below_drewN | apply below_drew1 | refine below_set ?_ GE268.out) | exact HB.out))) : w.heap.size ≤ gb274)); have n5_ := Aside0.mk ((by rw [hg]; exact Nat.ne_of_lt (blk_lt (g := gb268) (o := .cells #[.int .i64 t265, .int .i64 t266] 26 (0, 0)) (by (with_reducible repeat (first | refine blk_drewN ?_ _ | refine blk_drew ?_ | refine blk_alloc ?_ _)); exact BK268.out)) : gb268 ≠ gb274)); have n6_ := Aside0.mk ((by rw [hg]; exact Nat.ne_of_gt (blk_lt (g := gb268) (o := .cells #[.int .i64 t265, .int .i64 t266] 26 (0, 0)) (by (with_reducible repeat (first | refine blk_drewN ?_ _ | refine blk_drew ?_ | refine blk_alloc ?_ _)); exact BK268.out)) : gb274 ≠ gb268)); clear BK268; clear HB; have BK268 := n0_; have HB := n1_; have BK274 := n2_; have GW274 := n3_; have GE274 := n4_; have NB268_274 := n5_; have NB274_268 := n6_; clear n0_ n1_ n2_ n3_ n4_ n5_ n6_; clear hb hbox hg; have hnb48 := NB274_268.out; have hnc48 := NB268_274.out; have hcz49_0 : w47.cell? ⟨gb274, 0, none⟩ = some (.int .i64 0) := (blk_cell BK274.out 0).trans rfl; have hcz49_1 : w47.cell? ⟨gb274, 1, none⟩ = some (.int .i64 0) := (blk_cell BK274.out 1).trans rfl; have hfz49_0 := blk_frozen BK274.out 0; have hfz49_1 := blk_frozen BK274.out 1; have hcz50_0 : w47.cell? ⟨gb268, 0, none⟩ = some (.int .i64 t265) := (blk_cell BK268.out 0).trans rfl; have hcz50_1 : w47.cell? ⟨gb268, 1, none⟩ = some (.int .i64 t266) := (blk_cell BK268.out 1).trans rfl; have hfz50_0 := blk_frozen BK268.out 0; have hfz50_1 := blk_frozen BK268.out 1))
                                  go_ret
                                  exact ⟨by first | rfl | (simp [errW_none, errW_some] <;> rfl) | (simp [*, errW_none, errW_some] <;> rfl), by repeat (first | (with_reducible first | exact HB.out | apply below_alloc | apply pw_below_drewN | apply below_drew1 | refine below_set ?_ GE268.out | refine below_set ?_ GE274.out) | exact HB.out)⟩
                                · rw [if_neg c45] at H
                                  have c45b0 : (!(t271 == t265) || (!(t272 == t266))) = false := by simpa using c45
                                  clear c45
                                  have H' := Aside0.mk H
                                  clear H
                                  go_wp2_with (first | ((with_reducible refine gate_callee (f := 15) rfl ?_); refine goesL_ (some 143) rfl rfl Try.func15 (by kernel_rfl) rfl #[.int .i64 (wrap64 (1 + t254)), .int .i64 (wrap64 (1 + t253)), .int .i64 0, .int .i64 x13_2] rfl (by (try simp only [List.map_toArray, List.map_cons, List.map_nil]); first | done | rfl | (simp only [List.length_drop, List.length_take]; rfl)) ?_; (with_reducible refine (spec_PulseTick.calls (wrap64 (1 + t254)) (wrap64 (1 + t253)) 0 x13_2 t269 true _ A41.out).mono ?_); rintro e w' ⟨rfl, ⟨nd, rfl⟩⟩; refine ⟨_, rfl, ?_⟩; (try (rw [drewN_self wc]; generalize hq_ : World.drewN wc _ = wc; have n0_ : Aside0 (wc.heap[gb268]? = some (.cells #[.int .i64 t265, .int .i64 t266] 26 (0, 0))) := ⟨by rw [← hq_]; exact (by (with_reducible repeat (first | refine blk_drewN ?_ _ | refine blk_drew ?_ | refine blk_alloc ?_ _)); exact BK268.out)⟩; have n1_ : Aside0 (Below w.heap.size w wc) := ⟨by rw [← hq_]; exact (by repeat (first | (with_reducible first | exact HB.out | apply below_alloc | apply pw_below_drewN | apply below_drew1 | refine below_set ?_ GE268.out) | exact HB.out))⟩; clear BK268 HB hq_; have BK268 := n0_; have HB := n1_; clear n0_ n1_))) | ((with_reducible refine gate_callee (f := 16) rfl ?_); refine goesL_ (some 157) rfl rfl Try.func16 (by kernel_rfl) rfl #[.int .i64 (wrap64 ((wrap64 ((wrap64 (t269 + 1)) * (wrap64 (1 + t254)))) - (wrap64 ((wrap64 (x13_2 + 1)) * (wrap64 (1 + t253)))))), .int .i64 (wrap64 (1 + t254))] rfl (by (try simp only [List.map_toArray, List.map_cons, List.map_nil]); first | done | rfl | (simp only [List.length_drop, List.length_take]; rfl)) ?_; (with_reducible refine (spec_MakeFraction.calls kj23 (wrap64 ((wrap64 ((wrap64 (t269 + 1)) * (wrap64 (1 + t254)))) - (wrap64 ((wrap64 (x13_2 + 1)) * (wrap64 (1 + t253)))))) (wrap64 (1 + t254)) t271 t272 true _ A42.out).mono ?_); rintro e w51 ⟨rfl, hb⟩; refine ⟨_, rfl, ?_⟩; have n0_ := Aside0.mk (blk_below (g := gb268) (o := .cells #[.int .i64 t265, .int .i64 t266] 26 (0, 0)) (by (with_reducible repeat (first | refine blk_drewN ?_ _ | refine blk_drew ?_ | refine blk_alloc ?_ _)); exact BK268.out) hb); have n1_ := Aside0.mk (below_step (by repeat (first | (with_reducible first | exact HB.out | apply below_alloc | apply pw_below_drewN | apply below_drew1 | refine below_set ?_ GE268.out) | exact HB.out)) hb); clear BK268; clear HB; have BK268 := n0_; have HB := n1_; clear n0_ n1_; (try clear hb); (try clear hb2); (try clear hk); (try clear hi)) | ((with_reducible refine gate_dst (N := 22) rfl ?_); (try (refine gate_guard (by rfl) ?_; dsimp only)); refine box_event ?hg (N := 22) ?hd (cs := #[.int .i64 0, .int .i64 0]) (t := 26) ?hr ?_; (case hd => rfl); (case hg => rfl); (case hr => first | (go_simp; done) | (go_simp; rfl)); intro gb274 hg w52 hbox hb; have n0_ := Aside0.mk (blk_below (g := gb268) (o := .cells #[.int .i64 t265, .int .i64 t266] 26 (0, 0)) (by (with_reducible repeat (first | refine blk_drewN ?_ _ | refine blk_drew ?_ | refine blk_alloc ?_ _)); exact BK268.out) hb); have n1_ := Aside0.mk (below_step (by repeat (first | (with_reducible first | exact HB.out | apply below_alloc | apply pw_below_drewN | apply below_drew1 | refine below_set ?_ GE268.out) | exact HB.out)) hb); have n2_ := Aside0.mk (hbox); have n3_ := Aside0.mk ((by rw [hg]; exact (below_size (by repeat (first | (with_reducible first | exact HB.out | apply below_alloc | apply pw_below_drewN | apply below_drew1 | refine below_set ?_ GE268.out) | exact HB.out))) : w.heap.size ≤ gb274)); have n4_ := Aside0.mk ((by rw [hg]; exact (below_size (by repeat (first | (with_reducible first | exact HB.out | apply below_alloc | apply pw_below_drewN | apply below_drew1 | refine below_set ?_ GE268.out) | exact HB.out))) : w.heap.size ≤ gb274)); have n5_ := Aside0.mk ((by rw [hg]; exact Nat.ne_of_lt (blk_lt (g := gb268) (o := .cells #[.int .i64 t265, .int .i64 t266] 26 (0, 0)) (by (with_reducible repeat (first | refine blk_drewN ?_ _ | refine blk_drew ?_ | refine blk_alloc ?_ _)); exact BK268.out)) : gb268 ≠ gb274)); have n6_ := Aside0.mk ((by rw [hg]; exact Nat.ne_of_gt (blk_lt (g := gb268) (o := .cells #[.int .i64 t265, .int .i64 t266] 26 (0, 0)) (by (with_reducible repeat (first | refine blk_drewN ?_ _ | refine blk_drew ?_ | refine blk_alloc ?_ _)); exact BK268.out)) : gb274 ≠ gb268)); clear BK268; clear HB; have BK268 := n0_; have HB := n1_; have BK274 := n2_; have GW274 := n3_; have GE274 := n4_; have NB268_274 := n5_; have NB274_268 := n6_; clear n0_ n1_ n2_ n3_ n4_ n5_ n6_; clear hb hbox hg; have hnb53 := NB274_268.out; have hnc53 := NB268_274.out; have hcz54_0 : w52.cell? ⟨gb274, 0, none⟩ = some (.int .i64 0) := (blk_cell BK274.out 0).trans rfl; have hcz54_1 : w52.cell? ⟨gb274, 1, none⟩ = some (.int .i64 0) := (blk_cell BK274.out 1).trans rfl; have hfz54_0 := blk_frozen BK274.out 0; have hfz54_1 := blk_frozen BK274.out 1; have hcz55_0 : w52.cell? ⟨gb268, 0, none⟩ = some (.int .i64 t265) := (blk_cell BK268.out 0).trans rfl; have hcz55_1 : w52.cell? ⟨gb268, 1, none⟩ = some (.int .i64 t266) := (blk_cell BK268.out 1).trans rfl; have hfz55_0 := blk_frozen BK268.out 0; have hfz55_1 := blk_frozen BK268.out 1))
                                  go_roundg kj23
                                  case measure => have := HJ9.out; have := HK2.out; have := HJ23.out; omega
                                  case rel => exact ⟨(wrap64 (x13_2 + 1)), (x15_2), (wrap64 (x15_2 + 1)), (by first | rfl | (simp; done) | (simp [*]; done)), (by first | rfl | (simp; done) | (simp [*]; done)), (by first | rfl | (simp; done) | (simp [*]; done)), H', ⟨by have := HJ9.out; have := HK2.out; have := HJ23.out; omega⟩, ⟨by repeat (first | (with_reducible first | exact HB.out | apply below_alloc | apply pw_below_drewN | apply below_drew1 | refine below_set ?_ GE268.out | refine below_set ?_ GE274.out) | exact HB.out)⟩⟩
                              · replace c44 := Bool.eq_false_iff.mpr c44
                                subst c44
                                have H1 : (some false) = some r := by rw [if_neg (show ¬ (false = true) by decide)] at H; exact H
                                clear H
                                have H := H1
                                clear H1
                                obtain rfl := Option.some.inj H
                                go_wp2_with (first | ((with_reducible refine gate_callee (f := 15) rfl ?_); refine goesL_ (some 143) rfl rfl Try.func15 (by kernel_rfl) rfl #[.int .i64 (wrap64 (1 + t254)), .int .i64 (wrap64 (1 + t253)), .int .i64 0, .int .i64 x13_2] rfl (by (try simp only [List.map_toArray, List.map_cons, List.map_nil]); first | done | rfl | (simp only [List.length_drop, List.length_take]; rfl)) ?_; (with_reducible refine (spec_PulseTick.calls (wrap64 (1 + t254)) (wrap64 (1 + t253)) 0 x13_2 t269 true _ A41.out).mono ?_); rintro e w' ⟨rfl, ⟨nd, rfl⟩⟩; refine ⟨_, rfl, ?_⟩; (try (rw [drewN_self wc]; generalize hq_ : World.drewN wc _ = wc; have n0_ : Aside0 (wc.heap[gb268]? = some (.cells #[.int .i64 t265, .int .i64 t266] 26 (0, 0))) := ⟨by rw [← hq_]; exact (by (with_reducible repeat (first | refine blk_drewN ?_ _ | refine blk_drew ?_ | refine blk_alloc ?_ _)); exact BK268.out)⟩; have n1_ : Aside0 (Below w.heap.size w wc) := ⟨by rw [← hq_]; exact (by repeat (first | (with_reducible first | exact HB.out | apply below_alloc | apply pw_below_drewN | apply below_drew1 | refine below_set ?_ GE268.out) | exact HB.out))⟩; clear BK268 HB hq_; have BK268 := n0_; have HB := n1_; clear n0_ n1_))) | ((with_reducible refine gate_callee (f := 16) rfl ?_); refine goesL_ (some 157) rfl rfl Try.func16 (by kernel_rfl) rfl #[.int .i64 (wrap64 ((wrap64 ((wrap64 (t269 + 1)) * (wrap64 (1 + t254)))) - (wrap64 ((wrap64 (x13_2 + 1)) * (wrap64 (1 + t253)))))), .int .i64 (wrap64 (1 + t254))] rfl (by (try simp only [List.map_toArray, List.map_cons, List.map_nil]); first | done | rfl | (simp only [List.length_drop, List.length_take]; rfl)) ?_; (with_reducible refine (spec_MakeFraction.calls kj23 (wrap64 ((wrap64 ((wrap64 (t269 + 1)) * (wrap64 (1 + t254)))) - (wrap64 ((wrap64 (x13_2 + 1)) * (wrap64 (1 + t253)))))) (wrap64 (1 + t254)) t271 t272 false _ A42.out).mono ?_); rintro e w56 ⟨rfl, hb⟩; refine ⟨_, rfl, ?_⟩; have n0_ := Aside0.mk (blk_below (g := gb268) (o := .cells #[.int .i64 t265, .int .i64 t266] 26 (0, 0)) (by (with_reducible repeat (first | refine blk_drewN ?_ _ | refine blk_drew ?_ | refine blk_alloc ?_ _)); exact BK268.out) hb); have n1_ := Aside0.mk (below_step (by repeat (first | (with_reducible first | exact HB.out | apply below_alloc | apply pw_below_drewN | apply below_drew1 | refine below_set ?_ GE268.out) | exact HB.out)) hb); clear BK268; clear HB; have BK268 := n0_; have HB := n1_; clear n0_ n1_; (try clear hb); (try clear hb2); (try clear hk); (try clear hi)) | ((with_reducible refine gate_dst (N := 22) rfl ?_); (try (refine gate_guard (by rfl) ?_; dsimp only)); refine box_event ?hg (N := 22) ?hd (cs := #[.int .i64 0, .int .i64 0]) (t := 26) ?hr ?_; (case hd => rfl); (case hg => rfl); (case hr => first | (go_simp; done) | (go_simp; rfl)); intro gb274 hg w57 hbox hb; have n0_ := Aside0.mk (blk_below (g := gb268) (o := .cells #[.int .i64 t265, .int .i64 t266] 26 (0, 0)) (by (with_reducible repeat (first | refine blk_drewN ?_ _ | refine blk_drew ?_ | refine blk_alloc ?_ _)); exact BK268.out) hb); have n1_ := Aside0.mk (below_step (by repeat (first | (with_reducible first | exact HB.out | apply below_alloc | apply pw_below_drewN | apply below_drew1 | refine below_set ?_ GE268.out) | exact HB.out)) hb); have n2_ := Aside0.mk (hbox); have n3_ := Aside0.mk ((by rw [hg]; exact (below_size (by repeat (first | (with_reducible first | exact HB.out | apply below_alloc | apply pw_below_drewN | apply below_drew1 | refine below_set ?_ GE268.out) | exact HB.out))) : w.heap.size ≤ gb274)); have n4_ := Aside0.mk ((by rw [hg]; exact (below_size (by repeat (first | (with_reducible first | exact HB.out | apply below_alloc | apply pw_below_drewN | apply below_drew1 | refine below_set ?_ GE268.out) | exact HB.out))) : w.heap.size ≤ gb274)); have n5_ := Aside0.mk ((by rw [hg]; exact Nat.ne_of_lt (blk_lt (g := gb268) (o := .cells #[.int .i64 t265, .int .i64 t266] 26 (0, 0)) (by (with_reducible repeat (first | refine blk_drewN ?_ _ | refine blk_drew ?_ | refine blk_alloc ?_ _)); exact BK268.out)) : gb268 ≠ gb274)); have n6_ := Aside0.mk ((by rw [hg]; exact Nat.ne_of_gt (blk_lt (g := gb268) (o := .cells #[.int .i64 t265, .int .i64 t266] 26 (0, 0)) (by (with_reducible repeat (first | refine blk_drewN ?_ _ | refine blk_drew ?_ | refine blk_alloc ?_ _)); exact BK268.out)) : gb274 ≠ gb268)); clear BK268; clear HB; have BK268 := n0_; have HB := n1_; have BK274 := n2_; have GW274 := n3_; have GE274 := n4_; have NB268_274 := n5_; have NB274_268 := n6_; clear n0_ n1_ n2_ n3_ n4_ n5_ n6_; clear hb hbox hg; have hnb58 := NB274_268.out; have hnc58 := NB268_274.out; have hcz59_0 : w57.cell? ⟨gb274, 0, none⟩ = some (.int .i64 0) := (blk_cell BK274.out 0).trans rfl; have hcz59_1 : w57.cell? ⟨gb274, 1, none⟩ = some (.int .i64 0) := (blk_cell BK274.out 1).trans rfl; have hfz59_0 := blk_frozen BK274.out 0; have hfz59_1 := blk_frozen BK274.out 1))
                                go_ret
                                exact ⟨by first | rfl | (simp [errW_none, errW_some] <;> rfl) | (simp [*, errW_none, errW_some] <;> rfl), by repeat (first | (with_reducible first | exact HB.out | apply below_alloc | apply pw_below_drewN | apply below_drew1 | refine below_set ?_ GE268.out | refine below_set ?_ GE274.out) | exact HB.out)⟩
                            · replace c43 := Bool.eq_false_iff.mpr c43
                              subst c43
                              have H1 : (some false) = some r := by rw [if_neg (show ¬ (false = true) by decide)] at H; exact H
                              clear H
                              have H := H1
                              clear H1
                              obtain rfl := Option.some.inj H
                              go_wp2_with (first | ((with_reducible refine gate_callee (f := 15) rfl ?_); refine goesL_ (some 143) rfl rfl Try.func15 (by kernel_rfl) rfl #[.int .i64 (wrap64 (1 + t254)), .int .i64 (wrap64 (1 + t253)), .int .i64 0, .int .i64 x13_2] rfl (by (try simp only [List.map_toArray, List.map_cons, List.map_nil]); first | done | rfl | (simp only [List.length_drop, List.length_take]; rfl)) ?_; (with_reducible refine (spec_PulseTick.calls (wrap64 (1 + t254)) (wrap64 (1 + t253)) 0 x13_2 t269 false _ A41.out).mono ?_); rintro e w' ⟨rfl, ⟨nd, rfl⟩⟩; refine ⟨_, rfl, ?_⟩; (try (rw [drewN_self wc]; generalize hq_ : World.drewN wc _ = wc; have n0_ : Aside0 (wc.heap[gb268]? = some (.cells #[.int .i64 t265, .int .i64 t266] 26 (0, 0))) := ⟨by rw [← hq_]; exact (by (with_reducible repeat (first | refine blk_drewN ?_ _ | refine blk_drew ?_ | refine blk_alloc ?_ _)); exact BK268.out)⟩; have n1_ : Aside0 (Below w.heap.size w wc) := ⟨by rw [← hq_]; exact (by repeat (first | (with_reducible first | exact HB.out | apply below_alloc | apply pw_below_drewN | apply below_drew1 | refine below_set ?_ GE268.out) | exact HB.out))⟩; clear BK268 HB hq_; have BK268 := n0_; have HB := n1_; clear n0_ n1_))) | ((with_reducible refine gate_callee (f := 16) rfl ?_); refine goesL_ (some 157) rfl rfl Try.func16 (by kernel_rfl) rfl #[.int .i64 (wrap64 ((wrap64 ((wrap64 (t269 + 1)) * (wrap64 (1 + t254)))) - (wrap64 ((wrap64 (x13_2 + 1)) * (wrap64 (1 + t253)))))), .int .i64 (wrap64 (1 + t254))] rfl (by (try simp only [List.map_toArray, List.map_cons, List.map_nil]); first | done | rfl | (simp only [List.length_drop, List.length_take]; rfl)) ?_; (with_reducible refine (spec_MakeFraction.calls kj23 (wrap64 ((wrap64 ((wrap64 (t269 + 1)) * (wrap64 (1 + t254)))) - (wrap64 ((wrap64 (x13_2 + 1)) * (wrap64 (1 + t253)))))) (wrap64 (1 + t254)) t271 t272 t273 _ A42.out).mono ?_); rintro e w60 ⟨rfl, hb⟩; refine ⟨_, rfl, ?_⟩; have n0_ := Aside0.mk (blk_below (g := gb268) (o := .cells #[.int .i64 t265, .int .i64 t266] 26 (0, 0)) (by (with_reducible repeat (first | refine blk_drewN ?_ _ | refine blk_drew ?_ | refine blk_alloc ?_ _)); exact BK268.out) hb); have n1_ := Aside0.mk (below_step (by repeat (first | (with_reducible first | exact HB.out | apply below_alloc | apply pw_below_drewN | apply below_drew1 | refine below_set ?_ GE268.out) | exact HB.out)) hb); clear BK268; clear HB; have BK268 := n0_; have HB := n1_; clear n0_ n1_; (try clear hb); (try clear hb2); (try clear hk); (try clear hi)) | ((with_reducible refine gate_dst (N := 22) rfl ?_); (try (refine gate_guard (by rfl) ?_; dsimp only)); refine box_event ?hg (N := 22) ?hd (cs := #[.int .i64 0, .int .i64 0]) (t := 26) ?hr ?_; (case hd => rfl); (case hg => rfl); (case hr => first | (go_simp; done) | (go_simp; rfl)); intro gb274 hg w61 hbox hb; have n0_ := Aside0.mk (blk_below (g := gb268) (o := .cells #[.int .i64 t265, .int .i64 t266] 26 (0, 0)) (by (with_reducible repeat (first | refine blk_drewN ?_ _ | refine blk_drew ?_ | refine blk_alloc ?_ _)); exact BK268.out) hb); have n1_ := Aside0.mk (below_step (by repeat (first | (with_reducible first | exact HB.out | apply below_alloc | apply pw_below_drewN | apply below_drew1 | refine below_set ?_ GE268.out) | exact HB.out)) hb); have n2_ := Aside0.mk (hbox); have n3_ := Aside0.mk ((by rw [hg]; exact (below_size (by repeat (first | (with_reducible first | exact HB.out | apply below_alloc | apply pw_below_drewN | apply below_drew1 | refine below_set ?_ GE268.out) | exact HB.out))) : w.heap.size ≤ gb274)); have n4_ := Aside0.mk ((by rw [hg]; exact (below_size (by repeat (first | (with_reducible first | exact HB.out | apply below_alloc | apply pw_below_drewN | apply below_drew1 | refine below_set ?_ GE268.out) | exact HB.out))) : w.heap.size ≤ gb274)); have n5_ := Aside0.mk ((by rw [hg]; exact Nat.ne_of_lt (blk_lt (g := gb268) (o := .cells #[.int .i64 t265, .int .i64 t266] 26 (0, 0)) (by (with_reducible repeat (first | refine blk_drewN ?_ _ | refine blk_drew ?_ | refine blk_alloc ?_ _)); exact BK268.out)) : gb268 ≠ gb274)); have n6_ := Aside0.mk ((by rw [hg]; exact Nat.ne_of_gt (blk_lt (g := gb268) (o := .cells #[.int .i64 t265, .int .i64 t266] 26 (0, 0)) (by (with_reducible repeat (first | refine blk_drewN ?_ _ | refine blk_drew ?_ | refine blk_alloc ?_ _)); exact BK268.out)) : gb274 ≠ gb268)); clear BK268; clear HB; have BK268 := n0_; have HB := n1_; have BK274 := n2_; have GW274 := n3_; have GE274 := n4_; have NB268_274 := n5_; have NB274_268 := n6_; clear n0_ n1_ n2_ n3_ n4_ n5_ n6_; clear hb hbox hg; have hnb62 := NB274_268.out; have hnc62 := NB268_274.out; have hcz63_0 : w61.cell? ⟨gb274, 0, none⟩ = some (.int .i64 0) := (blk_cell BK274.out 0).trans rfl; have hcz63_1 : w61.cell? ⟨gb274, 1, none⟩ = some (.int .i64 0) := (blk_cell BK274.out 1).trans rfl; have hfz63_0 := blk_frozen BK274.out 0; have hfz63_1 := blk_frozen BK274.out 1))
                              go_ret
                              exact ⟨by first | rfl | (simp [errW_none, errW_some] <;> rfl) | (simp [*, errW_none, errW_some] <;> rfl), by repeat (first | (with_reducible first | exact HB.out | apply below_alloc | apply pw_below_drewN | apply below_drew1 | refine below_set ?_ GE268.out | refine below_set ?_ GE274.out) | exact HB.out)⟩
                  · rw [if_neg c19] at H
                    exact absurd H (by simp)
                · rw [if_neg c18] at H
                  exact absurd H (by simp)
              · rw [if_neg c17] at H
                have c17b0 : decide (x15_2 < 200) = false := decide_eq_false c17
                clear c17
                replace H := Option.bind_eq_some_iff.mp H
                obtain ⟨⟨t261, t262⟩, A640, H⟩ := H
                replace H : (if t262 = true then (some (decide (t261 ≥ 200))) else (some false)) = some r := H
                have A64 := Aside0.mk A640
                clear A640
                by_cases c65 : t262 = true
                · subst c65
                  have H1 : (some (decide (t261 ≥ 200))) = some r := by rw [if_pos rfl] at H; exact H
                  clear H
                  have H := H1
                  clear H1
                  obtain rfl := Option.some.inj H
                  go_wp2_with (first | ((with_reducible refine gate_callee (f := 13) rfl ?_); refine goesL_ (some 179) rfl rfl Try.func13 (by kernel_rfl) rfl #[.int .i64 (wrap64 (1 + t254)), .int .i64 (wrap64 (1 + t253)), .int .i64 t255, .int .i64 x13_2] rfl (by (try simp only [List.map_toArray, List.map_cons, List.map_nil]); first | done | rfl | (simp only [List.length_drop, List.length_take]; rfl)) ?_; (with_reducible refine (impl_PulseTick.calls (wrap64 (1 + t254)) (wrap64 (1 + t253)) t255 x13_2 t261 true _ A64.out).mono ?_); rintro e w' ⟨rfl, ⟨nd, rfl⟩⟩; refine ⟨_, rfl, ?_⟩))
                  go_ret
                  exact ⟨by first | rfl | (simp [errW_none, errW_some] <;> rfl) | (simp [*, errW_none, errW_some] <;> rfl), by repeat (first | (with_reducible first | exact HB.out | apply below_alloc | apply pw_below_drewN | apply below_drew1) | exact HB.out)⟩
                · replace c65 := Bool.eq_false_iff.mpr c65
                  subst c65
                  have H1 : (some false) = some r := by rw [if_neg (show ¬ (false = true) by decide)] at H; exact H
                  clear H
                  have H := H1
                  clear H1
                  obtain rfl := Option.some.inj H
                  go_wp2_with (first | ((with_reducible refine gate_callee (f := 13) rfl ?_); refine goesL_ (some 179) rfl rfl Try.func13 (by kernel_rfl) rfl #[.int .i64 (wrap64 (1 + t254)), .int .i64 (wrap64 (1 + t253)), .int .i64 t255, .int .i64 x13_2] rfl (by (try simp only [List.map_toArray, List.map_cons, List.map_nil]); first | done | rfl | (simp only [List.length_drop, List.length_take]; rfl)) ?_; (with_reducible refine (impl_PulseTick.calls (wrap64 (1 + t254)) (wrap64 (1 + t253)) t255 x13_2 t261 false _ A64.out).mono ?_); rintro e w' ⟨rfl, ⟨nd, rfl⟩⟩; refine ⟨_, rfl, ?_⟩))
                  go_ret
                  exact ⟨by first | rfl | (simp [errW_none, errW_some] <;> rfl) | (simp [*, errW_none, errW_some] <;> rfl), by repeat (first | (with_reducible first | exact HB.out | apply below_alloc | apply pw_below_drewN | apply below_drew1) | exact HB.out)⟩

/-- THE ONE PURE STATEMENT of laws_FnPulses: yours. -/
def laws_FnPulses.Pure : Prop := ∀ (l0 : List Int) (l1 : List Int), l0.length ≤ maxLen → l0.length * 1 ≤ 140737488351232 → (∀ x ∈ l0, (Lit.int .u8 x).wf = true) → l1.length ≤ maxLen → l1.length * 1 ≤ 140737488351232 → (∀ x ∈ l1, (Lit.int .u8 x).wf = true) → ∃ k, laws_FnPulses.f k l0 l1 = some true
theorem laws_FnPulses.walk (P : laws_FnPulses.Pure) (a0 : Option Addr) (len0 cap0 : Nat) (z0 : List Int) (a1 : Option Addr) (len1 cap1 : Nat) (z1 : List Int) (w : World) (w0 : (a0 = none ∧ len0 = 0 ∧ cap0 = 0 ∧ z0 = []) ∨ ∃ x, a0 = some x ∧ len0 ≤ cap0 ∧ cap0 ≤ maxLen ∧ z0.length = cap0 ∧ (∀ i, i < z0.length → w.cell? (x.add i) = some (.int .u8 (z0.getD i 0))) ∧ ∀ n ∈ z0, (Lit.int .u8 n).wf = true) (y0 : len0 * 1 ≤ 140737488351232) (w1 : (a1 = none ∧ len1 = 0 ∧ cap1 = 0 ∧ z1 = []) ∨ ∃ x, a1 = some x ∧ len1 ≤ cap1 ∧ cap1 ≤ maxLen ∧ z1.length = cap1 ∧ (∀ i, i < z1.length → w.cell? (x.add i) = some (.int .u8 (z1.getD i 0))) ∧ ∀ n ∈ z1, (Lit.int .u8 n).wf = true) (y1 : len1 * 1 ≤ 140737488351232) :
    Calls Try.prog 4 #[.slice a0 len0 cap0, .slice a1 len1 cap1] w fun e w' => e = .returned (.bool true) ∧ Below w.heap.size w w' := by
  obtain ⟨l0, rfl, hr0, hm0, hw0, hc0⟩ := ReadsInt.ofRowC w0
  obtain ⟨l1, rfl, hr1, hm1, hw1, hc1⟩ := ReadsInt.ofRowC w1
  obtain ⟨k, h⟩ := P l0 l1 hm0 y0 hw0 hm1 y1 hw1
  refine (laws_FnPulses.calls k _ _ l0 _ _ l1 true w (Kd.C_of_reads (d := (0 : Int)) (h1 := fun _ => rfl) hr0) hc0 (Kd.C_of_reads (d := (0 : Int)) (h1 := fun _ => rfl) hr1) hc1 h).mono ?_
  rintro e w' ⟨rfl, hd⟩
  exact ⟨rfl, hd⟩

end Go.Proofs.Ytmadpelampanfaa.A
