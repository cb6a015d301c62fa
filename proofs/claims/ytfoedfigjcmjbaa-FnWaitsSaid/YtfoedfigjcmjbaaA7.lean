-- Printed by this session's oprint.py through the kit's printer.
import Derived.Test.YtfoedfigjcmjbaaA0
import Derived.Test.YtfoedfigjcmjbaaA16
import Derived.Test.YtfoedfigjcmjbaaA17
import Derived.Test.YtfoedfigjcmjbaaA18
import Derived.Test.YtfoedfigjcmjbaaA22
import Derived.Test.YtfoedfigjcmjbaaA30
import Derived.Test.YtfoedfigjcmjbaaA31
import Derived.Test.YtfoedfigjcmjbaaA32
namespace Go.Proofs.Ytfoedfigjcmjbaa.A
open Go.RowKit Go.Proofs.YtfoedfigjcmjbaaW.PrintWords Go.Proofs.YtfoedfigjcmjbaaW.PrintLast Go.Proofs.YtfoedfigjcmjbaaW.PrintMore
attribute [local go_sem] max2_int min2_int max_two min_two max_three min_three max_four min_four   -- for this text's walks alone
set_option linter.unusedVariables false
set_option linter.unusedSimpArgs false

/-! ### laws_FnWaits: function 7 -/
mutual
def laws_FnWaits.j0 : Nat → Int → Int → Int → Int → Int → Bool → Int → Int → Int → Int → Option (Bool)
  | 0, _, _, _, _, _, _, _, _, _, _ => none
  | k + 1, x7, x9, x11, x12, x13, x74, x342000, x342001, x345000, x345001 => if x74 = true then (some false) else (laws_FnWaits.l0 k x7 x9 x11 x12 x13 (-1) 40 x342000 x342001 x345000 x345001)
def laws_FnWaits.l0 : Nat → Int → Int → Int → Int → Int → Int → Int → Int → Int → Int → Int → Option (Bool)
  | 0, _, _, _, _, _, _, _, _, _, _, _ => none
  | k + 1, x7, x9, x11, x12, x13, x16, x17, x342000, x342001, x345000, x345001 => if x17 < (wrap64 (40 + x9)) then (if x342000 = 0 then (none) else (if (Int.tmod (wrap64 (x17 - x342001)) x342000) = 0 then ((impl_NextEdge.f x345000 x345001 x17).bind fun bt357 => (if bt357.2 = true then (if (wrap64 (bt357.1 - x17)) > x16 then (laws_FnWaits.l0 k x7 x9 x11 x12 x13 (wrap64 (bt357.1 - x17)) (wrap64 (x17 + 1)) x342000 x342001 x345000 x345001) else (laws_FnWaits.l0 k x7 x9 x11 x12 x13 x16 (wrap64 (x17 + 1)) x342000 x342001 x345000 x345001)) else (some false))) else (laws_FnWaits.l0 k x7 x9 x11 x12 x13 x16 (wrap64 (x17 + 1)) x342000 x342001 x345000 x345001))) else (laws_FnWaits.l1 k x7 x9 x11 x12 x13 x16 0 60 x342000 x342001 x345000 x345001)
def laws_FnWaits.l1 : Nat → Int → Int → Int → Int → Int → Int → Int → Int → Int → Int → Int → Int → Option (Bool)
  | 0, _, _, _, _, _, _, _, _, _, _, _, _ => none
  | k + 1, x7, x9, x11, x12, x13, x16, x20, x21, x342000, x342001, x345000, x345001 => if x21 < (wrap64 (60 + x9)) then (if x345000 = 0 then (none) else (if (Int.tmod (wrap64 (x21 - x345001)) x345000) = 0 then (laws_FnWaits.l2 k x7 x9 x11 x12 x13 x16 x20 x21 false (wrap64 (x21 - x11)) x342000 x342001 x345000 x345001) else (laws_FnWaits.l1 k x7 x9 x11 x12 x13 x16 x20 (wrap64 (x21 + 1)) x342000 x342001 x345000 x345001))) else (if x16 = x7 then (some (x20 == x13)) else (some false))
def laws_FnWaits.l2 : Nat → Int → Int → Int → Int → Int → Int → Int → Int → Bool → Int → Int → Int → Int → Int → Option (Bool)
  | 0, _, _, _, _, _, _, _, _, _, _, _, _, _, _ => none
  | k + 1, x7, x9, x11, x12, x13, x16, x20, x21, x22, x23, x342000, x342001, x345000, x345001 => if x23 < (wrap64 (x21 + x12)) then (if x22 = true then (laws_FnWaits.l2 k x7 x9 x11 x12 x13 x16 x20 x21 true (wrap64 (x23 + 1)) x342000 x342001 x345000 x345001) else (if x23 ≤ x21 then (if x23 ≥ x342001 then (if x342000 = 0 then (none) else (if (Int.tmod (wrap64 (x23 - x342001)) x342000) = 0 then (if x23 ≥ (wrap64 (x21 - x11)) then (laws_FnWaits.l2 k x7 x9 x11 x12 x13 x16 x20 x21 true (wrap64 (x23 + 1)) x342000 x342001 x345000 x345001) else (if x23 ≥ x21 then (laws_FnWaits.l2 k x7 x9 x11 x12 x13 x16 x20 x21 (decide (x23 < (wrap64 (x21 + x12)))) (wrap64 (x23 + 1)) x342000 x342001 x345000 x345001) else (laws_FnWaits.l2 k x7 x9 x11 x12 x13 x16 x20 x21 false (wrap64 (x23 + 1)) x342000 x342001 x345000 x345001))) else (laws_FnWaits.l2 k x7 x9 x11 x12 x13 x16 x20 x21 false (wrap64 (x23 + 1)) x342000 x342001 x345000 x345001))) else (laws_FnWaits.l2 k x7 x9 x11 x12 x13 x16 x20 x21 false (wrap64 (x23 + 1)) x342000 x342001 x345000 x345001)) else (if x23 ≥ x342001 then (if x342000 = 0 then (none) else (if (Int.tmod (wrap64 (x23 - x342001)) x342000) = 0 then (if x23 ≥ (wrap64 (x21 - x11)) then (if x23 ≥ x21 then (laws_FnWaits.l2 k x7 x9 x11 x12 x13 x16 x20 x21 (decide (x23 < (wrap64 (x21 + x12)))) (wrap64 (x23 + 1)) x342000 x342001 x345000 x345001) else (laws_FnWaits.l2 k x7 x9 x11 x12 x13 x16 x20 x21 false (wrap64 (x23 + 1)) x342000 x342001 x345000 x345001)) else (if x23 ≥ x21 then (laws_FnWaits.l2 k x7 x9 x11 x12 x13 x16 x20 x21 (decide (x23 < (wrap64 (x21 + x12)))) (wrap64 (x23 + 1)) x342000 x342001 x345000 x345001) else (laws_FnWaits.l2 k x7 x9 x11 x12 x13 x16 x20 x21 false (wrap64 (x23 + 1)) x342000 x342001 x345000 x345001))) else (laws_FnWaits.l2 k x7 x9 x11 x12 x13 x16 x20 x21 false (wrap64 (x23 + 1)) x342000 x342001 x345000 x345001))) else (laws_FnWaits.l2 k x7 x9 x11 x12 x13 x16 x20 x21 false (wrap64 (x23 + 1)) x342000 x342001 x345000 x345001)))) else (if x23 ≤ x21 then (if x22 = true then (laws_FnWaits.l2 k x7 x9 x11 x12 x13 x16 x20 x21 true (wrap64 (x23 + 1)) x342000 x342001 x345000 x345001) else (if x23 ≥ x342001 then (if x342000 = 0 then (none) else (if (Int.tmod (wrap64 (x23 - x342001)) x342000) = 0 then (if x23 ≥ (wrap64 (x21 - x11)) then (laws_FnWaits.l2 k x7 x9 x11 x12 x13 x16 x20 x21 true (wrap64 (x23 + 1)) x342000 x342001 x345000 x345001) else (if x23 ≥ x21 then (laws_FnWaits.l2 k x7 x9 x11 x12 x13 x16 x20 x21 (decide (x23 < (wrap64 (x21 + x12)))) (wrap64 (x23 + 1)) x342000 x342001 x345000 x345001) else (laws_FnWaits.l2 k x7 x9 x11 x12 x13 x16 x20 x21 false (wrap64 (x23 + 1)) x342000 x342001 x345000 x345001))) else (laws_FnWaits.l2 k x7 x9 x11 x12 x13 x16 x20 x21 false (wrap64 (x23 + 1)) x342000 x342001 x345000 x345001))) else (laws_FnWaits.l2 k x7 x9 x11 x12 x13 x16 x20 x21 false (wrap64 (x23 + 1)) x342000 x342001 x345000 x345001))) else (if x22 = true then (laws_FnWaits.l1 k x7 x9 x11 x12 x13 x16 (wrap64 (x20 + 1)) (wrap64 (x21 + 1)) x342000 x342001 x345000 x345001) else (laws_FnWaits.l1 k x7 x9 x11 x12 x13 x16 x20 (wrap64 (x21 + 1)) x342000 x342001 x345000 x345001)))
end
def laws_FnWaits.f (k : Nat) (l0 : List Int) (l1 : List Int) : Option (Bool) := (laws_r8Long.f l0 l1).bind fun t338 => (if t338 = true then (some true) else ((spec_R8Clock.f l0).bind fun bt339 => ((spec_R8Clock.f l1).bind fun bt342 => ((impl_LongestWait.f k bt339.1 bt339.2 bt342.1 bt342.2).bind fun bt345 => ((impl_CommonPeriod.f k (([(⟨bt339.1, bt339.2⟩ : S31), (⟨bt342.1, bt342.2⟩ : S31)] : List (S31)))).bind fun bt350 => ((laws_r8At.f l1 40 5).bind fun t352 => ((laws_r8At.f l1 41 5).bind fun t353 => ((impl_NearEdges.f k bt339.1 bt339.2 bt342.1 bt342.2 t352 t353).bind fun bt354 => (if bt345.2 = true then (if bt350.2 = true then (if bt354.2.2 = true then (if bt342.1 = 0 then (none) else (laws_FnWaits.j0 k bt345.1 bt350.1 t352 t353 bt354.1 (bt354.2.1 != (wrap64 (Int.tdiv bt350.1 bt342.1))) bt339.1 bt339.2 bt342.1 bt342.2)) else (laws_FnWaits.j0 k bt345.1 bt350.1 t352 t353 bt354.1 true bt339.1 bt339.2 bt342.1 bt342.2)) else (laws_FnWaits.j0 k bt345.1 bt350.1 t352 t353 bt354.1 true bt339.1 bt339.2 bt342.1 bt342.2)) else (laws_FnWaits.j0 k bt345.1 bt350.1 t352 t353 bt354.1 true bt339.1 bt339.2 bt342.1 bt342.2))))))))))
theorem laws_FnWaits.mono_l : ∀ k, (∀ y0 y1 y2 y3 y4 y5 y6 y7 y8 y9, LeO (laws_FnWaits.j0 k y0 y1 y2 y3 y4 y5 y6 y7 y8 y9) (laws_FnWaits.j0 (k + 1) y0 y1 y2 y3 y4 y5 y6 y7 y8 y9)) ∧ (∀ y0 y1 y2 y3 y4 y5 y6 y7 y8 y9 y10, LeO (laws_FnWaits.l0 k y0 y1 y2 y3 y4 y5 y6 y7 y8 y9 y10) (laws_FnWaits.l0 (k + 1) y0 y1 y2 y3 y4 y5 y6 y7 y8 y9 y10)) ∧ (∀ y0 y1 y2 y3 y4 y5 y6 y7 y8 y9 y10 y11, LeO (laws_FnWaits.l1 k y0 y1 y2 y3 y4 y5 y6 y7 y8 y9 y10 y11) (laws_FnWaits.l1 (k + 1) y0 y1 y2 y3 y4 y5 y6 y7 y8 y9 y10 y11)) ∧ (∀ y0 y1 y2 y3 y4 y5 y6 y7 y8 y9 y10 y11 y12 y13, LeO (laws_FnWaits.l2 k y0 y1 y2 y3 y4 y5 y6 y7 y8 y9 y10 y11 y12 y13) (laws_FnWaits.l2 (k + 1) y0 y1 y2 y3 y4 y5 y6 y7 y8 y9 y10 y11 y12 y13))
  | 0 => ⟨fun _ _ _ _ _ _ _ _ _ _ r h => by simp [laws_FnWaits.j0] at h, fun _ _ _ _ _ _ _ _ _ _ _ r h => by simp [laws_FnWaits.l0] at h, fun _ _ _ _ _ _ _ _ _ _ _ _ r h => by simp [laws_FnWaits.l1] at h, fun _ _ _ _ _ _ _ _ _ _ _ _ _ _ r h => by simp [laws_FnWaits.l2] at h⟩
  | k + 1 => by
    obtain ⟨ih0, ih1, ih2, ih3⟩ := laws_FnWaits.mono_l k
    refine ⟨?_, ?_, ?_, ?_⟩
    · intro y0 y1 y2 y3 y4 y5 y6 y7 y8 y9
      unfold laws_FnWaits.j0
      repeat' first
      | (with_reducible exact ih0 _ _ _ _ _ _ _ _ _ _)
      | (with_reducible exact ih1 _ _ _ _ _ _ _ _ _ _ _)
      | (with_reducible exact ih2 _ _ _ _ _ _ _ _ _ _ _ _)
      | (with_reducible exact ih3 _ _ _ _ _ _ _ _ _ _ _ _ _ _)
      | (with_reducible exact impl_CommonPeriod.mono _ _)
      | (with_reducible exact impl_LongestWait.mono _ _ _ _ _)
      | (with_reducible exact impl_NearEdges.mono _ _ _ _ _ _ _)
      | (with_reducible exact LeO.refl _)
      | (with_reducible exact LeO.none _)
      | (with_reducible refine LeO.ite ?_ ?_)
      | (with_reducible refine LeO.bind ?_ (fun _ => ?_))
      | exact ih0 _ _ _ _ _ _ _ _ _ _
      | exact ih1 _ _ _ _ _ _ _ _ _ _ _
      | exact ih2 _ _ _ _ _ _ _ _ _ _ _ _
      | exact ih3 _ _ _ _ _ _ _ _ _ _ _ _ _ _
      | exact impl_CommonPeriod.mono _ _
      | exact impl_LongestWait.mono _ _ _ _ _
      | exact impl_NearEdges.mono _ _ _ _ _ _ _
      | exact LeO.none _
      | refine LeO.ite ?_ ?_
      | refine LeO.bind ?_ (fun _ => ?_)
    · intro y0 y1 y2 y3 y4 y5 y6 y7 y8 y9 y10
      unfold laws_FnWaits.l0
      repeat' first
      | (with_reducible exact ih0 _ _ _ _ _ _ _ _ _ _)
      | (with_reducible exact ih1 _ _ _ _ _ _ _ _ _ _ _)
      | (with_reducible exact ih2 _ _ _ _ _ _ _ _ _ _ _ _)
      | (with_reducible exact ih3 _ _ _ _ _ _ _ _ _ _ _ _ _ _)
      | (with_reducible exact impl_CommonPeriod.mono _ _)
      | (with_reducible exact impl_LongestWait.mono _ _ _ _ _)
      | (with_reducible exact impl_NearEdges.mono _ _ _ _ _ _ _)
      | (with_reducible exact LeO.refl _)
      | (with_reducible exact LeO.none _)
      | (with_reducible refine LeO.ite ?_ ?_)
      | (with_reducible refine LeO.bind ?_ (fun _ => ?_))
      | exact ih0 _ _ _ _ _ _ _ _ _ _
      | exact ih1 _ _ _ _ _ _ _ _ _ _ _
      | exact ih2 _ _ _ _ _ _ _ _ _ _ _ _
      | exact ih3 _ _ _ _ _ _ _ _ _ _ _ _ _ _
      | exact impl_CommonPeriod.mono _ _
      | exact impl_LongestWait.mono _ _ _ _ _
      | exact impl_NearEdges.mono _ _ _ _ _ _ _
      | exact LeO.none _
      | refine LeO.ite ?_ ?_
      | refine LeO.bind ?_ (fun _ => ?_)
    · intro y0 y1 y2 y3 y4 y5 y6 y7 y8 y9 y10 y11
      unfold laws_FnWaits.l1
      repeat' first
      | (with_reducible exact ih0 _ _ _ _ _ _ _ _ _ _)
      | (with_reducible exact ih1 _ _ _ _ _ _ _ _ _ _ _)
      | (with_reducible exact ih2 _ _ _ _ _ _ _ _ _ _ _ _)
      | (with_reducible exact ih3 _ _ _ _ _ _ _ _ _ _ _ _ _ _)
      | (with_reducible exact impl_CommonPeriod.mono _ _)
      | (with_reducible exact impl_LongestWait.mono _ _ _ _ _)
      | (with_reducible exact impl_NearEdges.mono _ _ _ _ _ _ _)
      | (with_reducible exact LeO.refl _)
      | (with_reducible exact LeO.none _)
      | (with_reducible refine LeO.ite ?_ ?_)
      | (with_reducible refine LeO.bind ?_ (fun _ => ?_))
      | exact ih0 _ _ _ _ _ _ _ _ _ _
      | exact ih1 _ _ _ _ _ _ _ _ _ _ _
      | exact ih2 _ _ _ _ _ _ _ _ _ _ _ _
      | exact ih3 _ _ _ _ _ _ _ _ _ _ _ _ _ _
      | exact impl_CommonPeriod.mono _ _
      | exact impl_LongestWait.mono _ _ _ _ _
      | exact impl_NearEdges.mono _ _ _ _ _ _ _
      | exact LeO.none _
      | refine LeO.ite ?_ ?_
      | refine LeO.bind ?_ (fun _ => ?_)
    · intro y0 y1 y2 y3 y4 y5 y6 y7 y8 y9 y10 y11 y12 y13
      unfold laws_FnWaits.l2
      repeat' first
      | (with_reducible exact ih0 _ _ _ _ _ _ _ _ _ _)
      | (with_reducible exact ih1 _ _ _ _ _ _ _ _ _ _ _)
      | (with_reducible exact ih2 _ _ _ _ _ _ _ _ _ _ _ _)
      | (with_reducible exact ih3 _ _ _ _ _ _ _ _ _ _ _ _ _ _)
      | (with_reducible exact impl_CommonPeriod.mono _ _)
      | (with_reducible exact impl_LongestWait.mono _ _ _ _ _)
      | (with_reducible exact impl_NearEdges.mono _ _ _ _ _ _ _)
      | (with_reducible exact LeO.refl _)
      | (with_reducible exact LeO.none _)
      | (with_reducible refine LeO.ite ?_ ?_)
      | (with_reducible refine LeO.bind ?_ (fun _ => ?_))
      | exact ih0 _ _ _ _ _ _ _ _ _ _
      | exact ih1 _ _ _ _ _ _ _ _ _ _ _
      | exact ih2 _ _ _ _ _ _ _ _ _ _ _ _
      | exact ih3 _ _ _ _ _ _ _ _ _ _ _ _ _ _
      | exact impl_CommonPeriod.mono _ _
      | exact impl_LongestWait.mono _ _ _ _ _
      | exact impl_NearEdges.mono _ _ _ _ _ _ _
      | exact LeO.none _
      | refine LeO.ite ?_ ?_
      | refine LeO.bind ?_ (fun _ => ?_)
theorem laws_FnWaits.mono : ∀ a0 a1 k, LeO (laws_FnWaits.f k a0 a1) (laws_FnWaits.f (k + 1) a0 a1) := by
  intro a0 a1 k
  obtain ⟨ih0, ih1, ih2, ih3⟩ := laws_FnWaits.mono_l k
  unfold laws_FnWaits.f
  repeat' first
      | (with_reducible exact ih0 _ _ _ _ _ _ _ _ _ _)
      | (with_reducible exact ih1 _ _ _ _ _ _ _ _ _ _ _)
      | (with_reducible exact ih2 _ _ _ _ _ _ _ _ _ _ _ _)
      | (with_reducible exact ih3 _ _ _ _ _ _ _ _ _ _ _ _ _ _)
      | (with_reducible exact impl_CommonPeriod.mono _ _)
      | (with_reducible exact impl_LongestWait.mono _ _ _ _ _)
      | (with_reducible exact impl_NearEdges.mono _ _ _ _ _ _ _)
      | (with_reducible exact LeO.refl _)
      | (with_reducible exact LeO.none _)
      | (with_reducible refine LeO.ite ?_ ?_)
      | (with_reducible refine LeO.bind ?_ (fun _ => ?_))
      | exact ih0 _ _ _ _ _ _ _ _ _ _
      | exact ih1 _ _ _ _ _ _ _ _ _ _ _
      | exact ih2 _ _ _ _ _ _ _ _ _ _ _ _
      | exact ih3 _ _ _ _ _ _ _ _ _ _ _ _ _ _
      | exact impl_CommonPeriod.mono _ _
      | exact impl_LongestWait.mono _ _ _ _ _
      | exact impl_NearEdges.mono _ _ _ _ _ _ _
      | exact LeO.none _
      | refine LeO.ite ?_ ?_
      | refine LeO.bind ?_ (fun _ => ?_)
set_option maxHeartbeats 8000000 in
set_option maxRecDepth 100000 in
theorem laws_FnWaits.calls (k : Nat) (A0 : Option Addr) (c0 : Nat) (l0 : List Int) (A1 : Option Addr) (c1 : Nat) (l1 : List Int) (r : Bool) (w : World) (hr0 : Kd.C (Kd.int .u8) w A0 l0.length l0) (hc0 : l0.length ≤ c0) (hr1 : Kd.C (Kd.int .u8) w A1 l1.length l1) (hc1 : l1.length ≤ c1) (h : laws_FnWaits.f k l0 l1 = some r) :
    Calls Try.prog 7 #[.slice A0 l0.length c0, .slice A1 l1.length c1] w fun e w' => e = .returned (.bool r) ∧ Below w.heap.size w w' := by
  have hu31 := Try.underlying31
  have HR0 := Aside0.mk hr0
  have HC0 := Aside0.mk hc0
  clear hr0 hc0
  have HR1 := Aside0.mk hr1
  have HC1 := Aside0.mk hc1
  clear hr1 hc1
  have HB := Aside0.mk (Below.refl w.heap.size w)
  have H : ((laws_r8Long.f l0 l1).bind fun t338 => (if t338 = true then (some true) else ((spec_R8Clock.f l0).bind fun bt339 => ((spec_R8Clock.f l1).bind fun bt342 => ((impl_LongestWait.f k bt339.1 bt339.2 bt342.1 bt342.2).bind fun bt345 => ((impl_CommonPeriod.f k (([(⟨bt339.1, bt339.2⟩ : S31), (⟨bt342.1, bt342.2⟩ : S31)] : List (S31)))).bind fun bt350 => ((laws_r8At.f l1 40 5).bind fun t352 => ((laws_r8At.f l1 41 5).bind fun t353 => ((impl_NearEdges.f k bt339.1 bt339.2 bt342.1 bt342.2 t352 t353).bind fun bt354 => (if bt345.2 = true then (if bt350.2 = true then (if bt354.2.2 = true then (if bt342.1 = 0 then (none) else (laws_FnWaits.j0 k bt345.1 bt350.1 t352 t353 bt354.1 (bt354.2.1 != (wrap64 (Int.tdiv bt350.1 bt342.1))) bt339.1 bt339.2 bt342.1 bt342.2)) else (laws_FnWaits.j0 k bt345.1 bt350.1 t352 t353 bt354.1 true bt339.1 bt339.2 bt342.1 bt342.2)) else (laws_FnWaits.j0 k bt345.1 bt350.1 t352 t353 bt354.1 true bt339.1 bt339.2 bt342.1 bt342.2)) else (laws_FnWaits.j0 k bt345.1 bt350.1 t352 t353 bt354.1 true bt339.1 bt339.2 bt342.1 bt342.2))))))))))) = some r := h
  clear h
  replace H := Option.bind_eq_some_iff.mp H
  obtain ⟨t338, A30, H⟩ := H
  replace H : (if t338 = true then (some true) else ((spec_R8Clock.f l0).bind fun bt339 => ((spec_R8Clock.f l1).bind fun bt342 => ((impl_LongestWait.f k bt339.1 bt339.2 bt342.1 bt342.2).bind fun bt345 => ((impl_CommonPeriod.f k (([(⟨bt339.1, bt339.2⟩ : S31), (⟨bt342.1, bt342.2⟩ : S31)] : List (S31)))).bind fun bt350 => ((laws_r8At.f l1 40 5).bind fun t352 => ((laws_r8At.f l1 41 5).bind fun t353 => ((impl_NearEdges.f k bt339.1 bt339.2 bt342.1 bt342.2 t352 t353).bind fun bt354 => (if bt345.2 = true then (if bt350.2 = true then (if bt354.2.2 = true then (if bt342.1 = 0 then (none) else (laws_FnWaits.j0 k bt345.1 bt350.1 t352 t353 bt354.1 (bt354.2.1 != (wrap64 (Int.tdiv bt350.1 bt342.1))) bt339.1 bt339.2 bt342.1 bt342.2)) else (laws_FnWaits.j0 k bt345.1 bt350.1 t352 t353 bt354.1 true bt339.1 bt339.2 bt342.1 bt342.2)) else (laws_FnWaits.j0 k bt345.1 bt350.1 t352 t353 bt354.1 true bt339.1 bt339.2 bt342.1 bt342.2)) else (laws_FnWaits.j0 k bt345.1 bt350.1 t352 t353 bt354.1 true bt339.1 bt339.2 bt342.1 bt342.2)))))))))) = some r := H
  have A3 := Aside0.mk A30
  clear A30
  by_cases c4 : t338 = true
  · subst c4
    have H1 : (some true) = some r := by rw [if_pos rfl] at H; exact H
    clear H
    have H := H1
    clear H1
    obtain rfl := Option.some.inj H
    go_enter Try.func7, Try.ntmps7
    go_wp2_with (first | ((with_reducible refine gate_callee (f := 16) rfl ?_); refine goesL_ (some 26) rfl rfl Try.func16 (by kernel_rfl) rfl #[.slice A0 l0.length c0, .slice A1 l1.length c1] rfl (by (try simp only [List.map_toArray, List.map_cons, List.map_nil]); first | done | rfl | (simp only [List.length_drop, List.length_take]; rfl)) ?_; (with_reducible refine (laws_r8Long.calls _ _ l0 _ _ l1 true _ ?side1 ?side2 ?side3 ?side4 A3.out).mono ?_); (case side1 => repeat (first | exact HR0.out | (with_reducible refine Kd.C_alloc ?_ _) | (with_reducible refine Kd.C_drewN ?_ _) | (with_reducible refine Kd.C_drew ?_))); (case side2 => exact HC0.out); (case side3 => repeat (first | exact HR1.out | (with_reducible refine Kd.C_alloc ?_ _) | (with_reducible refine Kd.C_drewN ?_ _) | (with_reducible refine Kd.C_drew ?_))); (case side4 => exact HC1.out); rintro e w' ⟨rfl, ⟨nd, rfl⟩⟩; refine ⟨_, rfl, ?_⟩))
    go_ret
    exact ⟨by first | rfl | (simp [errW_none, errW_some] <;> rfl) | (simp [*, errW_none, errW_some] <;> rfl), by repeat (first | (with_reducible first | exact HB.out | apply below_alloc | apply pw_below_drewN | apply below_drew1) | exact HB.out)⟩
  · replace c4 := Bool.eq_false_iff.mpr c4
    subst c4
    have H1 : ((spec_R8Clock.f l0).bind fun bt339 => ((spec_R8Clock.f l1).bind fun bt342 => ((impl_LongestWait.f k bt339.1 bt339.2 bt342.1 bt342.2).bind fun bt345 => ((impl_CommonPeriod.f k (([(⟨bt339.1, bt339.2⟩ : S31), (⟨bt342.1, bt342.2⟩ : S31)] : List (S31)))).bind fun bt350 => ((laws_r8At.f l1 40 5).bind fun t352 => ((laws_r8At.f l1 41 5).bind fun t353 => ((impl_NearEdges.f k bt339.1 bt339.2 bt342.1 bt342.2 t352 t353).bind fun bt354 => (if bt345.2 = true then (if bt350.2 = true then (if bt354.2.2 = true then (if bt342.1 = 0 then (none) else (laws_FnWaits.j0 k bt345.1 bt350.1 t352 t353 bt354.1 (bt354.2.1 != (wrap64 (Int.tdiv bt350.1 bt342.1))) bt339.1 bt339.2 bt342.1 bt342.2)) else (laws_FnWaits.j0 k bt345.1 bt350.1 t352 t353 bt354.1 true bt339.1 bt339.2 bt342.1 bt342.2)) else (laws_FnWaits.j0 k bt345.1 bt350.1 t352 t353 bt354.1 true bt339.1 bt339.2 bt342.1 bt342.2)) else (laws_FnWaits.j0 k bt345.1 bt350.1 t352 t353 bt354.1 true bt339.1 bt339.2 bt342.1 bt342.2))))))))) = some r := by rw [if_neg (show ¬ (false = true) by decide)] at H; exact H
    clear H
    have H := H1
    clear H1
    replace H := Option.bind_eq_some_iff.mp H
    obtain ⟨⟨t339, t340⟩, A50, H⟩ := H
    replace H : ((spec_R8Clock.f l1).bind fun bt342 => ((impl_LongestWait.f k t339 t340 bt342.1 bt342.2).bind fun bt345 => ((impl_CommonPeriod.f k (([(⟨t339, t340⟩ : S31), (⟨bt342.1, bt342.2⟩ : S31)] : List (S31)))).bind fun bt350 => ((laws_r8At.f l1 40 5).bind fun t352 => ((laws_r8At.f l1 41 5).bind fun t353 => ((impl_NearEdges.f k t339 t340 bt342.1 bt342.2 t352 t353).bind fun bt354 => (if bt345.2 = true then (if bt350.2 = true then (if bt354.2.2 = true then (if bt342.1 = 0 then (none) else (laws_FnWaits.j0 k bt345.1 bt350.1 t352 t353 bt354.1 (bt354.2.1 != (wrap64 (Int.tdiv bt350.1 bt342.1))) t339 t340 bt342.1 bt342.2)) else (laws_FnWaits.j0 k bt345.1 bt350.1 t352 t353 bt354.1 true t339 t340 bt342.1 bt342.2)) else (laws_FnWaits.j0 k bt345.1 bt350.1 t352 t353 bt354.1 true t339 t340 bt342.1 bt342.2)) else (laws_FnWaits.j0 k bt345.1 bt350.1 t352 t353 bt354.1 true t339 t340 bt342.1 bt342.2)))))))) = some r := H
    have A5 := Aside0.mk A50
    clear A50
    replace H := Option.bind_eq_some_iff.mp H
    obtain ⟨⟨t342, t343⟩, A60, H⟩ := H
    replace H : ((impl_LongestWait.f k t339 t340 t342 t343).bind fun bt345 => ((impl_CommonPeriod.f k (([(⟨t339, t340⟩ : S31), (⟨t342, t343⟩ : S31)] : List (S31)))).bind fun bt350 => ((laws_r8At.f l1 40 5).bind fun t352 => ((laws_r8At.f l1 41 5).bind fun t353 => ((impl_NearEdges.f k t339 t340 t342 t343 t352 t353).bind fun bt354 => (if bt345.2 = true then (if bt350.2 = true then (if bt354.2.2 = true then (if t342 = 0 then (none) else (laws_FnWaits.j0 k bt345.1 bt350.1 t352 t353 bt354.1 (bt354.2.1 != (wrap64 (Int.tdiv bt350.1 t342))) t339 t340 t342 t343)) else (laws_FnWaits.j0 k bt345.1 bt350.1 t352 t353 bt354.1 true t339 t340 t342 t343)) else (laws_FnWaits.j0 k bt345.1 bt350.1 t352 t353 bt354.1 true t339 t340 t342 t343)) else (laws_FnWaits.j0 k bt345.1 bt350.1 t352 t353 bt354.1 true t339 t340 t342 t343))))))) = some r := H
    have A6 := Aside0.mk A60
    clear A60
    replace H := Option.bind_eq_some_iff.mp H
    obtain ⟨⟨t345, t346⟩, A70, H⟩ := H
    replace H : ((impl_CommonPeriod.f k (([(⟨t339, t340⟩ : S31), (⟨t342, t343⟩ : S31)] : List (S31)))).bind fun bt350 => ((laws_r8At.f l1 40 5).bind fun t352 => ((laws_r8At.f l1 41 5).bind fun t353 => ((impl_NearEdges.f k t339 t340 t342 t343 t352 t353).bind fun bt354 => (if t346 = true then (if bt350.2 = true then (if bt354.2.2 = true then (if t342 = 0 then (none) else (laws_FnWaits.j0 k t345 bt350.1 t352 t353 bt354.1 (bt354.2.1 != (wrap64 (Int.tdiv bt350.1 t342))) t339 t340 t342 t343)) else (laws_FnWaits.j0 k t345 bt350.1 t352 t353 bt354.1 true t339 t340 t342 t343)) else (laws_FnWaits.j0 k t345 bt350.1 t352 t353 bt354.1 true t339 t340 t342 t343)) else (laws_FnWaits.j0 k t345 bt350.1 t352 t353 bt354.1 true t339 t340 t342 t343)))))) = some r := H
    have A7 := Aside0.mk A70
    clear A70
    obtain ⟨y347, hy347⟩ : ∃ y_ : List (S31), y_ = (([(⟨t339, t340⟩ : S31), (⟨t342, t343⟩ : S31)] : List (S31))) := ⟨_, rfl⟩
    replace H : ((impl_CommonPeriod.f k y347).bind fun bt350 => ((laws_r8At.f l1 40 5).bind fun t352 => ((laws_r8At.f l1 41 5).bind fun t353 => ((impl_NearEdges.f k t339 t340 t342 t343 t352 t353).bind fun bt354 => (if t346 = true then (if bt350.2 = true then (if bt354.2.2 = true then (if t342 = 0 then (none) else (laws_FnWaits.j0 k t345 bt350.1 t352 t353 bt354.1 (bt354.2.1 != (wrap64 (Int.tdiv bt350.1 t342))) t339 t340 t342 t343)) else (laws_FnWaits.j0 k t345 bt350.1 t352 t353 bt354.1 true t339 t340 t342 t343)) else (laws_FnWaits.j0 k t345 bt350.1 t352 t353 bt354.1 true t339 t340 t342 t343)) else (laws_FnWaits.j0 k t345 bt350.1 t352 t353 bt354.1 true t339 t340 t342 t343)))))) = some r := by first | (rw [hy347]; with_reducible exact H) | (have H2_ := (Option.bind_some _ _).symm.trans H; rw [hy347]; with_reducible exact H2_) | (have H2_ := (Option.bind_some _ _).symm.trans H; with_reducible exact H2_) | with_reducible exact H | (rw [hy347]; exact H) | exact H
    have Ny347 := Aside0.mk hy347
    clear hy347
    replace H := Option.bind_eq_some_iff.mp H
    obtain ⟨⟨t350, t351⟩, A80, H⟩ := H
    replace H : ((laws_r8At.f l1 40 5).bind fun t352 => ((laws_r8At.f l1 41 5).bind fun t353 => ((impl_NearEdges.f k t339 t340 t342 t343 t352 t353).bind fun bt354 => (if t346 = true then (if t351 = true then (if bt354.2.2 = true then (if t342 = 0 then (none) else (laws_FnWaits.j0 k t345 t350 t352 t353 bt354.1 (bt354.2.1 != (wrap64 (Int.tdiv t350 t342))) t339 t340 t342 t343)) else (laws_FnWaits.j0 k t345 t350 t352 t353 bt354.1 true t339 t340 t342 t343)) else (laws_FnWaits.j0 k t345 t350 t352 t353 bt354.1 true t339 t340 t342 t343)) else (laws_FnWaits.j0 k t345 t350 t352 t353 bt354.1 true t339 t340 t342 t343))))) = some r := H
    have A8 := Aside0.mk A80
    clear A80
    replace H := Option.bind_eq_some_iff.mp H
    obtain ⟨t352, A90, H⟩ := H
    replace H : ((laws_r8At.f l1 41 5).bind fun t353 => ((impl_NearEdges.f k t339 t340 t342 t343 t352 t353).bind fun bt354 => (if t346 = true then (if t351 = true then (if bt354.2.2 = true then (if t342 = 0 then (none) else (laws_FnWaits.j0 k t345 t350 t352 t353 bt354.1 (bt354.2.1 != (wrap64 (Int.tdiv t350 t342))) t339 t340 t342 t343)) else (laws_FnWaits.j0 k t345 t350 t352 t353 bt354.1 true t339 t340 t342 t343)) else (laws_FnWaits.j0 k t345 t350 t352 t353 bt354.1 true t339 t340 t342 t343)) else (laws_FnWaits.j0 k t345 t350 t352 t353 bt354.1 true t339 t340 t342 t343)))) = some r := H
    have A9 := Aside0.mk A90
    clear A90
    replace H := Option.bind_eq_some_iff.mp H
    obtain ⟨t353, A100, H⟩ := H
    replace H : ((impl_NearEdges.f k t339 t340 t342 t343 t352 t353).bind fun bt354 => (if t346 = true then (if t351 = true then (if bt354.2.2 = true then (if t342 = 0 then (none) else (laws_FnWaits.j0 k t345 t350 t352 t353 bt354.1 (bt354.2.1 != (wrap64 (Int.tdiv t350 t342))) t339 t340 t342 t343)) else (laws_FnWaits.j0 k t345 t350 t352 t353 bt354.1 true t339 t340 t342 t343)) else (laws_FnWaits.j0 k t345 t350 t352 t353 bt354.1 true t339 t340 t342 t343)) else (laws_FnWaits.j0 k t345 t350 t352 t353 bt354.1 true t339 t340 t342 t343))) = some r := H
    have A10 := Aside0.mk A100
    clear A100
    replace H := Option.bind_eq_some_iff.mp H
    obtain ⟨⟨t354, t355, t356⟩, A110, H⟩ := H
    replace H : (if t346 = true then (if t351 = true then (if t356 = true then (if t342 = 0 then (none) else (laws_FnWaits.j0 k t345 t350 t352 t353 t354 (t355 != (wrap64 (Int.tdiv t350 t342))) t339 t340 t342 t343)) else (laws_FnWaits.j0 k t345 t350 t352 t353 t354 true t339 t340 t342 t343)) else (laws_FnWaits.j0 k t345 t350 t352 t353 t354 true t339 t340 t342 t343)) else (laws_FnWaits.j0 k t345 t350 t352 t353 t354 true t339 t340 t342 t343)) = some r := H
    have A11 := Aside0.mk A110
    clear A110
    have HC12 := Aside0.mk H
    clear H
    go_enter Try.func7, Try.ntmps7
    go_upto_region 10 with (first | ((with_reducible refine gate_callee (f := 16) rfl ?_); refine goesL_ (some 26) rfl rfl Try.func16 (by kernel_rfl) rfl #[.slice A0 l0.length c0, .slice A1 l1.length c1] rfl (by (try simp only [List.map_toArray, List.map_cons, List.map_nil]); first | done | rfl | (simp only [List.length_drop, List.length_take]; rfl)) ?_; (with_reducible refine (laws_r8Long.calls _ _ l0 _ _ l1 false _ ?side1 ?side2 ?side3 ?side4 A3.out).mono ?_); (case side1 => repeat (first | exact HR0.out | (with_reducible refine Kd.C_alloc ?_ _) | (with_reducible refine Kd.C_drewN ?_ _) | (with_reducible refine Kd.C_drew ?_))); (case side2 => exact HC0.out); (case side3 => repeat (first | exact HR1.out | (with_reducible refine Kd.C_alloc ?_ _) | (with_reducible refine Kd.C_drewN ?_ _) | (with_reducible refine Kd.C_drew ?_))); (case side4 => exact HC1.out); rintro e w' ⟨rfl, ⟨nd, rfl⟩⟩; refine ⟨_, rfl, ?_⟩) | ((with_reducible refine gate_callee (f := 17) rfl ?_); refine goesL_ (some 28) rfl rfl Try.func17 (by kernel_rfl) rfl #[.slice A0 l0.length c0] rfl (by (try simp only [List.map_toArray, List.map_cons, List.map_nil]); first | done | rfl | (simp only [List.length_drop, List.length_take]; rfl)) ?_; (with_reducible refine (spec_R8Clock.calls _ _ l0 t339 t340 _ ?side1 ?side2 A5.out).mono ?_); (case side1 => repeat (first | exact HR0.out | (with_reducible refine Kd.C_alloc ?_ _) | (with_reducible refine Kd.C_drewN ?_ _) | (with_reducible refine Kd.C_drew ?_))); (case side2 => exact HC0.out); rintro e w13 ⟨rfl, hb⟩; refine ⟨_, rfl, ?_⟩; have n0_ := Aside0.mk (below_step (by repeat (first | (with_reducible first | exact HB.out | apply below_alloc | apply pw_below_drewN | apply below_drew1) | exact HB.out)) hb); clear HB; have HB := n0_; clear n0_; (try clear hb); (try clear hb2); (try clear hk); (try clear hi)) | ((with_reducible refine gate_dst (N := 5) rfl ?_); refine box_event ?hg (N := 5) ?hd (cs := #[.int .i64 0, .int .i64 0]) (t := 31) ?hr ?_; (case hd => rfl); (case hg => rfl); (case hr => first | (go_simp; done) | (go_simp; rfl)); intro gb341 hg w14 hbox hb; have n0_ := Aside0.mk (below_step (by repeat (first | (with_reducible first | exact HB.out | apply below_alloc | apply pw_below_drewN | apply below_drew1) | exact HB.out)) hb); have n1_ := Aside0.mk (hbox); have n2_ := Aside0.mk ((by rw [hg]; exact (below_size (by repeat (first | (with_reducible first | exact HB.out | apply below_alloc | apply pw_below_drewN | apply below_drew1) | exact HB.out))) : w.heap.size ≤ gb341)); have n3_ := Aside0.mk ((by rw [hg]; exact (below_size (by repeat (first | (with_reducible first | exact HB.out | apply below_alloc | apply pw_below_drewN | apply below_drew1) | exact HB.out))) : w.heap.size ≤ gb341)); clear HB; have HB := n0_; have BK341 := n1_; have GW341 := n2_; have GE341 := n3_; clear n0_ n1_ n2_ n3_; clear hb hbox hg; have hcz15_0 : w14.cell? ⟨gb341, 0, none⟩ = some (.int .i64 0) := (blk_cell BK341.out 0).trans rfl; have hcz15_1 : w14.cell? ⟨gb341, 1, none⟩ = some (.int .i64 0) := (blk_cell BK341.out 1).trans rfl; have hfz15_0 := blk_frozen BK341.out 0; have hfz15_1 := blk_frozen BK341.out 1) | ((with_reducible refine gate_callee (f := 17) rfl ?_); refine goesL_ (some 30) rfl rfl Try.func17 (by kernel_rfl) rfl #[.slice A1 l1.length c1] rfl (by (try simp only [List.map_toArray, List.map_cons, List.map_nil]); first | done | rfl | (simp only [List.length_drop, List.length_take]; rfl)) ?_; (with_reducible refine (spec_R8Clock.calls _ _ l1 t342 t343 _ ?side1 ?side2 A6.out).mono ?_); (case side1 => exact Kd.C_below HR1.out (by repeat (first | (with_reducible first | exact HB.out | apply below_alloc | apply pw_below_drewN | apply below_drew1 | refine below_set ?_ GE341.out) | exact HB.out))); (case side2 => exact HC1.out); rintro e w16 ⟨rfl, hb⟩; refine ⟨_, rfl, ?_⟩; have n0_ := Aside0.mk (blk_below (g := gb341) (o := .cells #[.int .i64 t339, .int .i64 t340] 31 (0, 0)) (by (with_reducible repeat (first | refine blk_drewN ?_ _ | refine blk_drew ?_ | refine blk_alloc ?_ _)); refine blk_put (cs := #[.int .i64 t339, .int .i64 0]) ?_ 1 _ rfl; (with_reducible repeat (first | refine blk_drewN ?_ _ | refine blk_drew ?_ | refine blk_alloc ?_ _)); refine blk_put (cs := #[.int .i64 0, .int .i64 0]) ?_ 0 _ rfl; (with_reducible repeat (first | refine blk_drewN ?_ _ | refine blk_drew ?_ | refine blk_alloc ?_ _)); exact BK341.out) hb); have n1_ := Aside0.mk (below_step (by repeat (first | (with_reducible first | exact HB.out | apply below_alloc | apply pw_below_drewN | apply below_drew1 | refine below_set ?_ GE341.out) | exact HB.out)) hb); clear BK341; clear HB; have BK341 := n0_; have HB := n1_; clear n0_ n1_; (try clear hb); (try clear hb2); (try clear hk); (try clear hi)) | ((with_reducible refine gate_dst (N := 6) rfl ?_); refine box_event ?hg (N := 6) ?hd (cs := #[.int .i64 0, .int .i64 0]) (t := 31) ?hr ?_; (case hd => rfl); (case hg => rfl); (case hr => first | (go_simp; done) | (go_simp; rfl)); intro gb344 hg w17 hbox hb; have n0_ := Aside0.mk (blk_below (g := gb341) (o := .cells #[.int .i64 t339, .int .i64 t340] 31 (0, 0)) (by (with_reducible repeat (first | refine blk_drewN ?_ _ | refine blk_drew ?_ | refine blk_alloc ?_ _)); exact BK341.out) hb); have n1_ := Aside0.mk (below_step (by repeat (first | (with_reducible first | exact HB.out | apply below_alloc | apply pw_below_drewN | apply below_drew1 | refine below_set ?_ GE341.out) | exact HB.out)) hb); have n2_ := Aside0.mk (hbox); have n3_ := Aside0.mk ((by rw [hg]; exact (below_size (by repeat (first | (with_reducible first | exact HB.out | apply below_alloc | apply pw_below_drewN | apply below_drew1 | refine below_set ?_ GE341.out) | exact HB.out))) : w.heap.size ≤ gb344)); have n4_ := Aside0.mk ((by rw [hg]; exact (below_size (by repeat (first | (with_reducible first | exact HB.out | apply below_alloc | apply pw_below_drewN | apply below_drew1 | refine below_set ?_ GE341.out) | exact HB.out))) : w.heap.size ≤ gb344)); have n5_ := Aside0.mk ((by rw [hg]; exact Nat.ne_of_lt (blk_lt (g := gb341) (o := .cells #[.int .i64 t339, .int .i64 t340] 31 (0, 0)) (by (with_reducible repeat (first | refine blk_drewN ?_ _ | refine blk_drew ?_ | refine blk_alloc ?_ _)); exact BK341.out)) : gb341 ≠ gb344)); have n6_ := Aside0.mk ((by rw [hg]; exact Nat.ne_of_gt (blk_lt (g := gb341) (o := .cells #[.int .i64 t339, .int .i64 t340] 31 (0, 0)) (by (with_reducible repeat (first | refine blk_drewN ?_ _ | refine blk_drew ?_ | refine blk_alloc ?_ _)); exact BK341.out)) : gb344 ≠ gb341)); clear BK341; clear HB; have BK341 := n0_; have HB := n1_; have BK344 := n2_; have GW344 := n3_; have GE344 := n4_; have NB341_344 := n5_; have NB344_341 := n6_; clear n0_ n1_ n2_ n3_ n4_ n5_ n6_; clear hb hbox hg; have hnb18 := NB344_341.out; have hnc18 := NB341_344.out; have hcz19_0 : w17.cell? ⟨gb344, 0, none⟩ = some (.int .i64 0) := (blk_cell BK344.out 0).trans rfl; have hcz19_1 : w17.cell? ⟨gb344, 1, none⟩ = some (.int .i64 0) := (blk_cell BK344.out 1).trans rfl; have hfz19_0 := blk_frozen BK344.out 0; have hfz19_1 := blk_frozen BK344.out 1; have hcz20_0 : w17.cell? ⟨gb341, 0, none⟩ = some (.int .i64 t339) := (blk_cell BK341.out 0).trans rfl; have hcz20_1 : w17.cell? ⟨gb341, 1, none⟩ = some (.int .i64 t340) := (blk_cell BK341.out 1).trans rfl; have hfz20_0 := blk_frozen BK341.out 0; have hfz20_1 := blk_frozen BK341.out 1) | ((with_reducible refine gate_callee (f := 30) rfl ?_); refine goesL_ (some 34) rfl rfl Try.func30 (by kernel_rfl) rfl #[.agg #[.int .i64 t339, .int .i64 t340], .agg #[.int .i64 t342, .int .i64 t343]] rfl (by (try simp only [List.map_toArray, List.map_cons, List.map_nil]); first | done | rfl | (simp only [List.length_drop, List.length_take]; rfl)) ?_; (with_reducible refine (impl_LongestWait.calls k t339 t340 t342 t343 t345 t346 _ A7.out).mono ?_); rintro e w21 ⟨rfl, hb⟩; refine ⟨_, rfl, ?_⟩; have n0_ := Aside0.mk (blk_below (g := gb341) (o := .cells #[.int .i64 t339, .int .i64 t340] 31 (0, 0)) (by (with_reducible repeat (first | refine blk_drewN ?_ _ | refine blk_drew ?_ | refine blk_alloc ?_ _)); refine blk_far ?_ NB341_344.out _; (with_reducible repeat (first | refine blk_drewN ?_ _ | refine blk_drew ?_ | refine blk_alloc ?_ _)); refine blk_far ?_ NB341_344.out _; (with_reducible repeat (first | refine blk_drewN ?_ _ | refine blk_drew ?_ | refine blk_alloc ?_ _)); exact BK341.out) hb); have n1_ := Aside0.mk (blk_below (g := gb344) (o := .cells #[.int .i64 t342, .int .i64 t343] 31 (0, 0)) (by (with_reducible repeat (first | refine blk_drewN ?_ _ | refine blk_drew ?_ | refine blk_alloc ?_ _)); refine blk_put (cs := #[.int .i64 t342, .int .i64 0]) ?_ 1 _ rfl; (with_reducible repeat (first | refine blk_drewN ?_ _ | refine blk_drew ?_ | refine blk_alloc ?_ _)); refine blk_put (cs := #[.int .i64 0, .int .i64 0]) ?_ 0 _ rfl; (with_reducible repeat (first | refine blk_drewN ?_ _ | refine blk_drew ?_ | refine blk_alloc ?_ _)); exact BK344.out) hb); have n2_ := Aside0.mk (below_step (by repeat (first | (with_reducible first | exact HB.out | apply below_alloc | apply pw_below_drewN | apply below_drew1 | refine below_set ?_ GE341.out | refine below_set ?_ GE344.out) | exact HB.out)) hb); clear BK341; clear BK344; clear HB; have BK341 := n0_; have BK344 := n1_; have HB := n2_; clear n0_ n1_ n2_; (try clear hb); (try clear hb2); (try clear hk); (try clear hi); have hcz22_0 : w21.cell? ⟨gb341, 0, none⟩ = some (.int .i64 t339) := (blk_cell BK341.out 0).trans rfl; have hcz22_1 : w21.cell? ⟨gb341, 1, none⟩ = some (.int .i64 t340) := (blk_cell BK341.out 1).trans rfl; have hfz22_0 := blk_frozen BK341.out 0; have hfz22_1 := blk_frozen BK341.out 1; have hcz23_0 : w21.cell? ⟨gb344, 0, none⟩ = some (.int .i64 t342) := (blk_cell BK344.out 0).trans rfl; have hcz23_1 : w21.cell? ⟨gb344, 1, none⟩ = some (.int .i64 t343) := (blk_cell BK344.out 1).trans rfl; have hfz23_0 := blk_frozen BK344.out 0; have hfz23_1 := blk_frozen BK344.out 1) | ((with_reducible refine gate_dst (N := 40) rfl ?_); refine Kd.R_lit k31 _ 31 ?hg (N := 40) ?hd (xs := ([(⟨t339, t340⟩ : S31), (⟨t342, t343⟩ : S31)] : List (S31))) (inner := [.int .i64 t339, .int .i64 t340, .int .i64 t342, .int .i64 t343]) (ok := fun _ => True) (okp := fun _ => True) ?hr ?hp (fun _ hk => hk) trivial (Below.refl _ _) (Nat.le_refl _) (by simp) ?_; (case hd => rfl); (case hg => rfl); (case hr => first | (go_simp; done) | (go_simp; rfl)); (case hp => exact (Reps.c2 (show Kd.M k31 _ _ _ (⟨t339, t340⟩ : S31) [.int .i64 t339, .int .i64 t340] from (k31_mkM _ _ _ (⟨t339, t340⟩ : S31) )) (Reps.c2 (show Kd.M k31 _ _ _ (⟨t342, t343⟩ : S31) [.int .i64 t342, .int .i64 t343] from (k31_mkM _ _ _ (⟨t342, t343⟩ : S31) )) (Reps.none _ _)))); intro v348 w24 ho25 hb hg_ hnew_; clear hg_ hnew_; (first | rw [← Ny347.out] at ho25 | (simp only [Int.reduceToNat] at ho25; rw [← Ny347.out] at ho25)); have n0_ := Aside0.mk (Kd.R_lower (Kd.R_newB (Kd.R_newB ho25 (g := gb341) (o := .cells #[.int .i64 t339, .int .i64 t340] 31 (0, 0)) (by (with_reducible repeat (first | refine blk_drewN ?_ _ | refine blk_drew ?_ | refine blk_alloc ?_ _)); exact BK341.out)) (g := gb344) (o := .cells #[.int .i64 t342, .int .i64 t343] 31 (0, 0)) (by (with_reducible repeat (first | refine blk_drewN ?_ _ | refine blk_drew ?_ | refine blk_alloc ?_ _)); exact BK344.out)) (below_size (by repeat (first | (with_reducible first | exact HB.out | apply below_alloc | apply pw_below_drewN | apply below_drew1 | refine below_set ?_ GE341.out | refine below_set ?_ GE344.out) | exact HB.out)))); have n1_ := Aside0.mk (blk_below (g := gb341) (o := .cells #[.int .i64 t339, .int .i64 t340] 31 (0, 0)) (by (with_reducible repeat (first | refine blk_drewN ?_ _ | refine blk_drew ?_ | refine blk_alloc ?_ _)); exact BK341.out) hb); have n2_ := Aside0.mk (blk_below (g := gb344) (o := .cells #[.int .i64 t342, .int .i64 t343] 31 (0, 0)) (by (with_reducible repeat (first | refine blk_drewN ?_ _ | refine blk_drew ?_ | refine blk_alloc ?_ _)); exact BK344.out) hb); have n3_ := Aside0.mk (below_step (by repeat (first | (with_reducible first | exact HB.out | apply below_alloc | apply pw_below_drewN | apply below_drew1 | refine below_set ?_ GE341.out | refine below_set ?_ GE344.out) | exact HB.out)) hb); clear BK341; clear BK344; clear HB; have HO349 := n0_; have BK341 := n1_; have BK344 := n2_; have HB := n3_; clear n0_ n1_ n2_ n3_; clear hb ho25; obtain ⟨Ao26, co26, eo26⟩ := Kd.R_slice HO349.out; subst eo26) | ((with_reducible refine gate_callee (f := 31) rfl ?_); refine goesL_ (some 41) rfl rfl Try.func31 (by kernel_rfl) rfl #[.slice Ao26 y347.length co26] rfl (by (try simp only [List.map_toArray, List.map_cons, List.map_nil]); first | done | rfl | (simp only [List.length_drop, List.length_take]; rfl)) ?_; (with_reducible refine (impl_CommonPeriod.calls k _ _ y347 t350 t351 _ ?side1 ?side2 A8.out).mono ?_); (case side1 => repeat (first | exact (Kd.R_reads' HO349.out).2.2 | (with_reducible refine Kd.C_alloc ?_ _) | (with_reducible refine Kd.C_drewN ?_ _) | (with_reducible refine Kd.C_drew ?_))); (case side2 => exact (Kd.R_reads' HO349.out).2.1); rintro e w27 ⟨rfl, hb⟩; refine ⟨_, rfl, ?_⟩; have n0_ := Aside0.mk (Kd.R_below (by (with_reducible repeat (first | apply Kd.R_alloc | apply Kd.R_drewN | apply Kd.R_drew)); exact HO349.out) hb); have n1_ := Aside0.mk (blk_below (g := gb341) (o := .cells #[.int .i64 t339, .int .i64 t340] 31 (0, 0)) (by (with_reducible repeat (first | refine blk_drewN ?_ _ | refine blk_drew ?_ | refine blk_alloc ?_ _)); exact BK341.out) hb); have n2_ := Aside0.mk (blk_below (g := gb344) (o := .cells #[.int .i64 t342, .int .i64 t343] 31 (0, 0)) (by (with_reducible repeat (first | refine blk_drewN ?_ _ | refine blk_drew ?_ | refine blk_alloc ?_ _)); exact BK344.out) hb); have n3_ := Aside0.mk (below_step (by repeat (first | (with_reducible first | exact HB.out | apply below_alloc | apply pw_below_drewN | apply below_drew1 | refine below_set ?_ GE341.out | refine below_set ?_ GE344.out) | exact HB.out)) hb); clear HO349; clear BK341; clear BK344; clear HB; have HO349 := n0_; have BK341 := n1_; have BK344 := n2_; have HB := n3_; clear n0_ n1_ n2_ n3_; (try clear hb); (try clear hb2); (try clear hk); (try clear hi)) | ((with_reducible refine gate_callee (f := 18) rfl ?_); refine goesL_ (some 45) rfl rfl Try.func18 (by kernel_rfl) rfl #[.slice A1 l1.length c1, .int .i64 40, .int .i64 5] rfl (by (try simp only [List.map_toArray, List.map_cons, List.map_nil]); first | done | rfl | (simp only [List.length_drop, List.length_take]; rfl)) ?_; (with_reducible refine (laws_r8At.calls _ _ l1 40 5 t352 _ ?side1 ?side2 A9.out).mono ?_); (case side1 => repeat (first | exact (Kd.C_below HR1.out HB.out) | (with_reducible refine Kd.C_alloc ?_ _) | (with_reducible refine Kd.C_drewN ?_ _) | (with_reducible refine Kd.C_drew ?_))); (case side2 => exact HC1.out); rintro e w' ⟨rfl, ⟨nd, rfl⟩⟩; refine ⟨_, rfl, ?_⟩) | ((with_reducible refine gate_callee (f := 18) rfl ?_); refine goesL_ (some 47) rfl rfl Try.func18 (by kernel_rfl) rfl #[.slice A1 l1.length c1, .int .i64 41, .int .i64 5] rfl (by (try simp only [List.map_toArray, List.map_cons, List.map_nil]); first | done | rfl | (simp only [List.length_drop, List.length_take]; rfl)) ?_; (with_reducible refine (laws_r8At.calls _ _ l1 41 5 t353 _ ?side1 ?side2 A10.out).mono ?_); (case side1 => repeat (first | exact (Kd.C_below HR1.out (by repeat (first | (with_reducible first | exact HB.out | apply below_alloc | apply pw_below_drewN | apply below_drew1 | refine below_set ?_ GE341.out | refine below_set ?_ GE344.out) | exact HB.out))) | (with_reducible refine Kd.C_alloc ?_ _) | (with_reducible refine Kd.C_drewN ?_ _) | (with_reducible refine Kd.C_drew ?_))); (case side2 => exact HC1.out); rintro e w' ⟨rfl, ⟨nd, rfl⟩⟩; refine ⟨_, rfl, ?_⟩; have hcz28_0 : w27.cell? ⟨gb341, 0, none⟩ = some (.int .i64 t339) := (blk_cell BK341.out 0).trans rfl; have hcz28_1 : w27.cell? ⟨gb341, 1, none⟩ = some (.int .i64 t340) := (blk_cell BK341.out 1).trans rfl; have hfz28_0 := blk_frozen BK341.out 0; have hfz28_1 := blk_frozen BK341.out 1; have hcz29_0 : w27.cell? ⟨gb344, 0, none⟩ = some (.int .i64 t342) := (blk_cell BK344.out 0).trans rfl; have hcz29_1 : w27.cell? ⟨gb344, 1, none⟩ = some (.int .i64 t343) := (blk_cell BK344.out 1).trans rfl; have hfz29_0 := blk_frozen BK344.out 0; have hfz29_1 := blk_frozen BK344.out 1) | ((with_reducible refine gate_callee (f := 32) rfl ?_); refine goesL_ (some 53) rfl rfl Try.func32 (by kernel_rfl) rfl #[.agg #[.int .i64 t339, .int .i64 t340], .agg #[.int .i64 t342, .int .i64 t343], .int .i64 t352, .int .i64 t353] rfl (by (try simp only [List.map_toArray, List.map_cons, List.map_nil]); first | done | rfl | (simp only [List.length_drop, List.length_take]; rfl)) ?_; (with_reducible refine (impl_NearEdges.calls k t339 t340 t342 t343 t352 t353 t354 t355 t356 _ A11.out).mono ?_); rintro e w30 ⟨rfl, hb⟩; refine ⟨_, rfl, ?_⟩; have n0_ := Aside0.mk (Kd.R_below (by (with_reducible repeat (first | apply Kd.R_alloc | apply Kd.R_drewN | apply Kd.R_drew)); exact HO349.out) hb); have n1_ := Aside0.mk (blk_below (g := gb341) (o := .cells #[.int .i64 t339, .int .i64 t340] 31 (0, 0)) (by (with_reducible repeat (first | refine blk_drewN ?_ _ | refine blk_drew ?_ | refine blk_alloc ?_ _)); exact BK341.out) hb); have n2_ := Aside0.mk (blk_below (g := gb344) (o := .cells #[.int .i64 t342, .int .i64 t343] 31 (0, 0)) (by (with_reducible repeat (first | refine blk_drewN ?_ _ | refine blk_drew ?_ | refine blk_alloc ?_ _)); exact BK344.out) hb); have n3_ := Aside0.mk (below_step (by repeat (first | (with_reducible first | exact HB.out | apply below_alloc | apply pw_below_drewN | apply below_drew1 | refine below_set ?_ GE341.out | refine below_set ?_ GE344.out) | exact HB.out)) hb); clear HO349; clear BK341; clear BK344; clear HB; have HO349 := n0_; have BK341 := n1_; have BK344 := n2_; have HB := n3_; clear n0_ n1_ n2_ n3_; (try clear hb); (try clear hb2); (try clear hk); (try clear hi)))
    (try simp only [Act.put, List.setIfInBounds_toArray, List.set_cons_zero, List.set_cons_succ])
    go_cut [74] (fun v74 wc => ∃ (kq : Nat) (x74_11 : Bool), v74 = .bool x74_11 ∧ Aside0 (laws_FnWaits.j0 kq t345 t350 t352 t353 t354 x74_11 t339 t340 t342 t343 = some r) ∧ Aside0 (kq ≤ k) ∧ Aside0 (wc.heap[gb341]? = some (.cells #[.int .i64 t339, .int .i64 t340] 31 (0, 0))) ∧ Aside0 (wc.heap[gb344]? = some (.cells #[.int .i64 t342, .int .i64 t343] 31 (0, 0))) ∧ Aside0 (Below w.heap.size w wc))
    case first =>
      have H := HC12.out
      clear HC12
      by_cases c31 : t346 = true
      · subst c31
        have H1 : (if t351 = true then (if t356 = true then (if t342 = 0 then (none) else (laws_FnWaits.j0 k t345 t350 t352 t353 t354 (t355 != (wrap64 (Int.tdiv t350 t342))) t339 t340 t342 t343)) else (laws_FnWaits.j0 k t345 t350 t352 t353 t354 true t339 t340 t342 t343)) else (laws_FnWaits.j0 k t345 t350 t352 t353 t354 true t339 t340 t342 t343)) = some r := by rw [if_pos rfl] at H; exact H
        clear H
        have H := H1
        clear H1
        by_cases c32 : t351 = true
        · subst c32
          have H1 : (if t356 = true then (if t342 = 0 then (none) else (laws_FnWaits.j0 k t345 t350 t352 t353 t354 (t355 != (wrap64 (Int.tdiv t350 t342))) t339 t340 t342 t343)) else (laws_FnWaits.j0 k t345 t350 t352 t353 t354 true t339 t340 t342 t343)) = some r := by rw [if_pos rfl] at H; exact H
          clear H
          have H := H1
          clear H1
          by_cases c33 : t356 = true
          · subst c33
            have H1 : (if t342 = 0 then (none) else (laws_FnWaits.j0 k t345 t350 t352 t353 t354 (t355 != (wrap64 (Int.tdiv t350 t342))) t339 t340 t342 t343)) = some r := by rw [if_pos rfl] at H; exact H
            clear H
            have H := H1
            clear H1
            by_cases c34 : t342 = 0
            · rw [if_pos c34] at H
              exact absurd H (by simp)
            · rw [if_neg c34] at H
              have c34b0 : (t342 == 0) = false := beq_eq_false_iff_ne.mpr c34
              have c34b1 : (t342 != 0) = true := bne_iff_ne.mpr c34
              (first | rw [c34b0] | (simp only [i64_w, i32_w]; rw [c34b0]) | skip)
              have H' := Aside0.mk H
              clear H
              have hnb35 := NB344_341.out
              have hnc35 := NB341_344.out
              have hcz36_0 : w30.cell? ⟨gb344, 0, none⟩ = some (.int .i64 t342) := (blk_cell BK344.out 0).trans rfl
              have hcz36_1 : w30.cell? ⟨gb344, 1, none⟩ = some (.int .i64 t343) := (blk_cell BK344.out 1).trans rfl
              have hfz36_0 := blk_frozen BK344.out 0
              have hfz36_1 := blk_frozen BK344.out 1
              go_wp2
              go_meet
              case rel => exact ⟨_, ((t355 != (wrap64 (Int.tdiv t350 t342)))), (by first | rfl | (simp; done) | (simp [*]; done)), H', ⟨by first | omega | exact Nat.le_refl _⟩, ⟨by (with_reducible repeat (first | refine blk_drewN ?_ _ | refine blk_drew ?_ | refine blk_alloc ?_ _)); exact BK341.out⟩, ⟨by (with_reducible repeat (first | refine blk_drewN ?_ _ | refine blk_drew ?_ | refine blk_alloc ?_ _)); exact BK344.out⟩, ⟨by repeat (first | (with_reducible first | exact HB.out | apply below_alloc | apply pw_below_drewN | apply below_drew1 | refine below_set ?_ GE341.out | refine below_set ?_ GE344.out) | exact HB.out)⟩⟩
          · replace c33 := Bool.eq_false_iff.mpr c33
            subst c33
            have H1 : (laws_FnWaits.j0 k t345 t350 t352 t353 t354 true t339 t340 t342 t343) = some r := by rw [if_neg (show ¬ (false = true) by decide)] at H; exact H
            clear H
            have H := H1
            clear H1
            have H' := Aside0.mk H
            clear H
            go_wp2
            go_meet
            case rel => exact ⟨_, (true), (by first | rfl | (simp; done) | (simp [*]; done)), H', ⟨by first | omega | exact Nat.le_refl _⟩, ⟨by (with_reducible repeat (first | refine blk_drewN ?_ _ | refine blk_drew ?_ | refine blk_alloc ?_ _)); exact BK341.out⟩, ⟨by (with_reducible repeat (first | refine blk_drewN ?_ _ | refine blk_drew ?_ | refine blk_alloc ?_ _)); exact BK344.out⟩, ⟨by repeat (first | (with_reducible first | exact HB.out | apply below_alloc | apply pw_below_drewN | apply below_drew1 | refine below_set ?_ GE341.out | refine below_set ?_ GE344.out) | exact HB.out)⟩⟩
        · replace c32 := Bool.eq_false_iff.mpr c32
          subst c32
          have H1 : (laws_FnWaits.j0 k t345 t350 t352 t353 t354 true t339 t340 t342 t343) = some r := by rw [if_neg (show ¬ (false = true) by decide)] at H; exact H
          clear H
          have H := H1
          clear H1
          have H' := Aside0.mk H
          clear H
          go_wp2
          go_meet
          case rel => exact ⟨_, (true), (by first | rfl | (simp; done) | (simp [*]; done)), H', ⟨by first | omega | exact Nat.le_refl _⟩, ⟨by (with_reducible repeat (first | refine blk_drewN ?_ _ | refine blk_drew ?_ | refine blk_alloc ?_ _)); exact BK341.out⟩, ⟨by (with_reducible repeat (first | refine blk_drewN ?_ _ | refine blk_drew ?_ | refine blk_alloc ?_ _)); exact BK344.out⟩, ⟨by repeat (first | (with_reducible first | exact HB.out | apply below_alloc | apply pw_below_drewN | apply below_drew1 | refine below_set ?_ GE341.out | refine below_set ?_ GE344.out) | exact HB.out)⟩⟩
      · replace c31 := Bool.eq_false_iff.mpr c31
        subst c31
        have H1 : (laws_FnWaits.j0 k t345 t350 t352 t353 t354 true t339 t340 t342 t343) = some r := by rw [if_neg (show ¬ (false = true) by decide)] at H; exact H
        clear H
        have H := H1
        clear H1
        have H' := Aside0.mk H
        clear H
        go_wp2
        go_meet
        case rel => exact ⟨_, (true), (by first | rfl | (simp; done) | (simp [*]; done)), H', ⟨by first | omega | exact Nat.le_refl _⟩, ⟨by (with_reducible repeat (first | refine blk_drewN ?_ _ | refine blk_drew ?_ | refine blk_alloc ?_ _)); exact BK341.out⟩, ⟨by (with_reducible repeat (first | refine blk_drewN ?_ _ | refine blk_drew ?_ | refine blk_alloc ?_ _)); exact BK344.out⟩, ⟨by repeat (first | (with_reducible first | exact HB.out | apply below_alloc | apply pw_below_drewN | apply below_drew1 | refine below_set ?_ GE341.out | refine below_set ?_ GE344.out) | exact HB.out)⟩⟩
    case rest =>
      clear HC12
      try clear c1
      try clear c2
      try clear p2
      try clear c3
      try clear c4
      try clear p6
      try clear c7
      try clear c16
      try clear c17
      try clear c18
      try clear c30
      try clear c31
      try clear c32
      try clear c33
      try clear c34
      try clear c34b0
      try clear c34b1
      try clear c35
      try clear hcz15_0
      try clear hcz15_1
      try clear hcz19_0
      try clear hcz19_1
      try clear hcz20_0
      try clear hcz20_1
      try clear hcz22_0
      try clear hcz22_1
      try clear hcz23_0
      try clear hcz23_1
      try clear hcz28_0
      try clear hcz28_1
      try clear hcz29_0
      try clear hcz29_1
      try clear hcz36_0
      try clear hcz36_1
      try clear hfz15_0
      try clear hfz15_1
      try clear hfz19_0
      try clear hfz19_1
      try clear hfz20_0
      try clear hfz20_1
      try clear hfz22_0
      try clear hfz22_1
      try clear hfz23_0
      try clear hfz23_1
      try clear hfz28_0
      try clear hfz28_1
      try clear hfz29_0
      try clear hfz29_1
      try clear hfz36_0
      try clear hfz36_1
      obtain ⟨kq, x74_11, rfl, HA, HJ11, BK341, BK344, HB⟩ := hcut
      cases kq with
      | zero => exact absurd HA.out (by simp [laws_FnWaits.j0])
      | succ kj11 =>
        have H := HA.out
        clear HA
        simp only [laws_FnWaits.j0] at H
        by_cases c37 : x74_11 = true
        · subst c37
          have H1 : (some false) = some r := by rw [if_pos rfl] at H; exact H
          clear H
          have H := H1
          clear H1
          obtain rfl := Option.some.inj H
          go_wp2
          go_ret
          exact ⟨by first | rfl | (simp [errW_none, errW_some] <;> rfl) | (simp [*, errW_none, errW_some] <;> rfl), by repeat (first | (with_reducible first | exact HB.out | apply below_alloc | apply pw_below_drewN | apply below_drew1 | refine below_set ?_ GE341.out | refine below_set ?_ GE344.out) | exact HB.out)⟩
        · replace c37 := Bool.eq_false_iff.mpr c37
          subst c37
          have H1 : (laws_FnWaits.l0 kj11 t345 t350 t352 t353 t354 (-1) 40 t339 t340 t342 t343) = some r := by rw [if_neg (show ¬ (false = true) by decide)] at H; exact H
          clear H
          have H := H1
          clear H1
          have H' := Aside0.mk H
          clear H
          go_wp2
          go_loopg [16, 17] kj11 (fun kq v16 v17 w' => ∃ (x16_2 : Int) (x17_2 : Int), v16 = .int .i64 x16_2 ∧ v17 = .int .i64 x17_2 ∧ Aside0 (laws_FnWaits.l0 kq t345 t350 t352 t353 t354 x16_2 x17_2 t339 t340 t342 t343 = some r) ∧ Aside0 (kq ≤ kj11) ∧ Aside0 (w'.heap[gb341]? = some (.cells #[.int .i64 t339, .int .i64 t340] 31 (0, 0))) ∧ Aside0 (w'.heap[gb344]? = some (.cells #[.int .i64 t342, .int .i64 t343] 31 (0, 0))) ∧ Aside0 (Below w.heap.size w w'))
          case atStart => exact ⟨((-1)), (40), (by first | rfl | (simp; done) | (simp [*]; done)), (by first | rfl | (simp; done) | (simp [*]; done)), H', ⟨Nat.le_refl _⟩, ⟨by (with_reducible repeat (first | refine blk_drewN ?_ _ | refine blk_drew ?_ | refine blk_alloc ?_ _)); exact BK341.out⟩, ⟨by (with_reducible repeat (first | refine blk_drewN ?_ _ | refine blk_drew ?_ | refine blk_alloc ?_ _)); exact BK344.out⟩, ⟨by repeat (first | (with_reducible first | exact HB.out | apply below_alloc | apply pw_below_drewN | apply below_drew1 | refine below_set ?_ GE341.out | refine below_set ?_ GE344.out) | exact HB.out)⟩⟩
          case round =>
            clear H'
            try clear c1
            try clear c2
            try clear p2
            try clear c3
            try clear c4
            try clear p6
            try clear c7
            try clear c16
            try clear c17
            try clear c18
            try clear c30
            try clear c31
            try clear c32
            try clear c33
            try clear c34
            try clear c34b0
            try clear c34b1
            try clear c35
            try clear c37
            try clear hcz15_0
            try clear hcz15_1
            try clear hcz19_0
            try clear hcz19_1
            try clear hcz20_0
            try clear hcz20_1
            try clear hcz22_0
            try clear hcz22_1
            try clear hcz23_0
            try clear hcz23_1
            try clear hcz28_0
            try clear hcz28_1
            try clear hcz29_0
            try clear hcz29_1
            try clear hcz36_0
            try clear hcz36_1
            try clear hfz15_0
            try clear hfz15_1
            try clear hfz19_0
            try clear hfz19_1
            try clear hfz20_0
            try clear hfz20_1
            try clear hfz22_0
            try clear hfz22_1
            try clear hfz23_0
            try clear hfz23_1
            try clear hfz28_0
            try clear hfz28_1
            try clear hfz29_0
            try clear hfz29_1
            try clear hfz36_0
            try clear hfz36_1
            try clear p2
            try clear p6
            obtain ⟨x16_2, x17_2, rfl, rfl, HA, HK2, BK341, BK344, HB⟩ := hrel
            cases gk with
            | zero => exact absurd HA.out (by simp [laws_FnWaits.l0])
            | succ k2 =>
              have H := HA.out
              clear HA
              simp only [laws_FnWaits.l0] at H
              by_cases c38 : x17_2 < (wrap64 (40 + t350))
              · rw [if_pos c38] at H
                have c38b0 : decide (x17_2 < (wrap64 (40 + t350))) = true := decide_eq_true c38
                clear c38
                by_cases c39 : t339 = 0
                · rw [if_pos c39] at H
                  exact absurd H (by simp)
                · rw [if_neg c39] at H
                  have c39b0 : (t339 == 0) = false := beq_eq_false_iff_ne.mpr c39
                  have c39b1 : (t339 != 0) = true := bne_iff_ne.mpr c39
                  by_cases c40 : (Int.tmod (wrap64 (x17_2 - t340)) t339) = 0
                  · rw [if_pos c40] at H
                    have c40b0 : ((Int.tmod (wrap64 (x17_2 - t340)) t339) == 0) = true := beq_iff_eq.mpr c40
                    have c40b1 : ((Int.tmod (wrap64 (x17_2 - t340)) t339) != 0) = false := bne_eq_false_iff_eq.mpr c40
                    clear c40
                    replace H := Option.bind_eq_some_iff.mp H
                    obtain ⟨⟨t357, t358⟩, A410, H⟩ := H
                    replace H : (if t358 = true then (if (wrap64 (t357 - x17_2)) > x16_2 then (laws_FnWaits.l0 k2 t345 t350 t352 t353 t354 (wrap64 (t357 - x17_2)) (wrap64 (x17_2 + 1)) t339 t340 t342 t343) else (laws_FnWaits.l0 k2 t345 t350 t352 t353 t354 x16_2 (wrap64 (x17_2 + 1)) t339 t340 t342 t343)) else (some false)) = some r := H
                    have A41 := Aside0.mk A410
                    clear A410
                    by_cases c42 : t358 = true
                    · subst c42
                      have H1 : (if (wrap64 (t357 - x17_2)) > x16_2 then (laws_FnWaits.l0 k2 t345 t350 t352 t353 t354 (wrap64 (t357 - x17_2)) (wrap64 (x17_2 + 1)) t339 t340 t342 t343) else (laws_FnWaits.l0 k2 t345 t350 t352 t353 t354 x16_2 (wrap64 (x17_2 + 1)) t339 t340 t342 t343)) = some r := by rw [if_pos rfl] at H; exact H
                      clear H
                      have H := H1
                      clear H1
                      by_cases c43 : (wrap64 (t357 - x17_2)) > x16_2
                      · rw [if_pos c43] at H
                        have c43b0 : decide (x16_2 < (wrap64 (t357 - x17_2))) = true := decide_eq_true c43
                        clear c43
                        have H' := Aside0.mk H
                        clear H
                        have hnb44 := NB341_344.out
                        have hnc44 := NB344_341.out
                        have hcz45_0 : wr.cell? ⟨gb341, 0, none⟩ = some (.int .i64 t339) := (blk_cell BK341.out 0).trans rfl
                        have hcz45_1 : wr.cell? ⟨gb341, 1, none⟩ = some (.int .i64 t340) := (blk_cell BK341.out 1).trans rfl
                        have hfz45_0 := blk_frozen BK341.out 0
                        have hfz45_1 := blk_frozen BK341.out 1
                        have hcz46_0 : wr.cell? ⟨gb344, 0, none⟩ = some (.int .i64 t342) := (blk_cell BK344.out 0).trans rfl
                        have hcz46_1 : wr.cell? ⟨gb344, 1, none⟩ = some (.int .i64 t343) := (blk_cell BK344.out 1).trans rfl
                        have hfz46_0 := blk_frozen BK344.out 0
                        have hfz46_1 := blk_frozen BK344.out 1
                        go_wp2_with (first | ((with_reducible refine gate_callee (f := 22) rfl ?_); refine goesL_ (some 92) rfl rfl Try.func22 (by kernel_rfl) rfl #[.agg #[.int .i64 t342, .int .i64 t343], .int .i64 x17_2] rfl (by (try simp only [List.map_toArray, List.map_cons, List.map_nil]); first | done | rfl | (simp only [List.length_drop, List.length_take]; rfl)) ?_; (with_reducible refine (impl_NextEdge.calls t342 t343 x17_2 t357 true _ A41.out).mono ?_); rintro e w47 ⟨rfl, hb⟩; refine ⟨_, rfl, ?_⟩; have n0_ := Aside0.mk (blk_below (g := gb341) (o := .cells #[.int .i64 t339, .int .i64 t340] 31 (0, 0)) (by (with_reducible repeat (first | refine blk_drewN ?_ _ | refine blk_drew ?_ | refine blk_alloc ?_ _)); exact BK341.out) hb); have n1_ := Aside0.mk (blk_below (g := gb344) (o := .cells #[.int .i64 t342, .int .i64 t343] 31 (0, 0)) (by (with_reducible repeat (first | refine blk_drewN ?_ _ | refine blk_drew ?_ | refine blk_alloc ?_ _)); exact BK344.out) hb); have n2_ := Aside0.mk (below_step (by repeat (first | (with_reducible first | exact HB.out | apply below_alloc | apply pw_below_drewN | apply below_drew1 | refine below_set ?_ GE341.out | refine below_set ?_ GE344.out) | exact HB.out)) hb); clear BK341; clear BK344; clear HB; have BK341 := n0_; have BK344 := n1_; have HB := n2_; clear n0_ n1_ n2_; (try clear hb); (try clear hb2); (try clear hk); (try clear hi)))
                        go_roundg k2
                        case measure => have := HJ11.out; have := HK2.out; omega
                        case rel => exact ⟨(wrap64 (t357 - x17_2)), (wrap64 (x17_2 + 1)), (by first | rfl | (simp; done) | (simp [*]; done)), (by first | rfl | (simp; done) | (simp [*]; done)), H', ⟨by have := HJ11.out; have := HK2.out; omega⟩, ⟨by (with_reducible repeat (first | refine blk_drewN ?_ _ | refine blk_drew ?_ | refine blk_alloc ?_ _)); exact BK341.out⟩, ⟨by (with_reducible repeat (first | refine blk_drewN ?_ _ | refine blk_drew ?_ | refine blk_alloc ?_ _)); exact BK344.out⟩, ⟨by repeat (first | (with_reducible first | exact HB.out | apply below_alloc | apply pw_below_drewN | apply below_drew1 | refine below_set ?_ GE341.out | refine below_set ?_ GE344.out) | exact HB.out)⟩⟩
                      · rw [if_neg c43] at H
                        have c43b0 : decide (x16_2 < (wrap64 (t357 - x17_2))) = false := decide_eq_false c43
                        clear c43
                        have H' := Aside0.mk H
                        clear H
                        have hnb48 := NB341_344.out
                        have hnc48 := NB344_341.out
                        have hcz49_0 : wr.cell? ⟨gb341, 0, none⟩ = some (.int .i64 t339) := (blk_cell BK341.out 0).trans rfl
                        have hcz49_1 : wr.cell? ⟨gb341, 1, none⟩ = some (.int .i64 t340) := (blk_cell BK341.out 1).trans rfl
                        have hfz49_0 := blk_frozen BK341.out 0
                        have hfz49_1 := blk_frozen BK341.out 1
                        have hcz50_0 : wr.cell? ⟨gb344, 0, none⟩ = some (.int .i64 t342) := (blk_cell BK344.out 0).trans rfl
                        have hcz50_1 : wr.cell? ⟨gb344, 1, none⟩ = some (.int .i64 t343) := (blk_cell BK344.out 1).trans rfl
                        have hfz50_0 := blk_frozen BK344.out 0
                        have hfz50_1 := blk_frozen BK344.out 1
                        go_wp2_with (first | ((with_reducible refine gate_callee (f := 22) rfl ?_); refine goesL_ (some 92) rfl rfl Try.func22 (by kernel_rfl) rfl #[.agg #[.int .i64 t342, .int .i64 t343], .int .i64 x17_2] rfl (by (try simp only [List.map_toArray, List.map_cons, List.map_nil]); first | done | rfl | (simp only [List.length_drop, List.length_take]; rfl)) ?_; (with_reducible refine (impl_NextEdge.calls t342 t343 x17_2 t357 true _ A41.out).mono ?_); rintro e w51 ⟨rfl, hb⟩; refine ⟨_, rfl, ?_⟩; have n0_ := Aside0.mk (blk_below (g := gb341) (o := .cells #[.int .i64 t339, .int .i64 t340] 31 (0, 0)) (by (with_reducible repeat (first | refine blk_drewN ?_ _ | refine blk_drew ?_ | refine blk_alloc ?_ _)); exact BK341.out) hb); have n1_ := Aside0.mk (blk_below (g := gb344) (o := .cells #[.int .i64 t342, .int .i64 t343] 31 (0, 0)) (by (with_reducible repeat (first | refine blk_drewN ?_ _ | refine blk_drew ?_ | refine blk_alloc ?_ _)); exact BK344.out) hb); have n2_ := Aside0.mk (below_step (by repeat (first | (with_reducible first | exact HB.out | apply below_alloc | apply pw_below_drewN | apply below_drew1 | refine below_set ?_ GE341.out | refine below_set ?_ GE344.out) | exact HB.out)) hb); clear BK341; clear BK344; clear HB; have BK341 := n0_; have BK344 := n1_; have HB := n2_; clear n0_ n1_ n2_; (try clear hb); (try clear hb2); (try clear hk); (try clear hi)))
                        go_roundg k2
                        case measure => have := HJ11.out; have := HK2.out; omega
                        case rel => exact ⟨(x16_2), (wrap64 (x17_2 + 1)), (by first | rfl | (simp; done) | (simp [*]; done)), (by first | rfl | (simp; done) | (simp [*]; done)), H', ⟨by have := HJ11.out; have := HK2.out; omega⟩, ⟨by (with_reducible repeat (first | refine blk_drewN ?_ _ | refine blk_drew ?_ | refine blk_alloc ?_ _)); exact BK341.out⟩, ⟨by (with_reducible repeat (first | refine blk_drewN ?_ _ | refine blk_drew ?_ | refine blk_alloc ?_ _)); exact BK344.out⟩, ⟨by repeat (first | (with_reducible first | exact HB.out | apply below_alloc | apply pw_below_drewN | apply below_drew1 | refine below_set ?_ GE341.out | refine below_set ?_ GE344.out) | exact HB.out)⟩⟩
                    · replace c42 := Bool.eq_false_iff.mpr c42
                      subst c42
                      have H1 : (some false) = some r := by rw [if_neg (show ¬ (false = true) by decide)] at H; exact H
                      clear H
                      have H := H1
                      clear H1
                      obtain rfl := Option.some.inj H
                      have hnb52 := NB341_344.out
                      have hnc52 := NB344_341.out
                      have hcz53_0 : wr.cell? ⟨gb341, 0, none⟩ = some (.int .i64 t339) := (blk_cell BK341.out 0).trans rfl
                      have hcz53_1 : wr.cell? ⟨gb341, 1, none⟩ = some (.int .i64 t340) := (blk_cell BK341.out 1).trans rfl
                      have hfz53_0 := blk_frozen BK341.out 0
                      have hfz53_1 := blk_frozen BK341.out 1
                      have hcz54_0 : wr.cell? ⟨gb344, 0, none⟩ = some (.int .i64 t342) := (blk_cell BK344.out 0).trans rfl
                      have hcz54_1 : wr.cell? ⟨gb344, 1, none⟩ = some (.int .i64 t343) := (blk_cell BK344.out 1).trans rfl
                      have hfz54_0 := blk_frozen BK344.out 0
                      have hfz54_1 := blk_frozen BK344.out 1
                      go_wp2_with (first | ((with_reducible refine gate_callee (f := 22) rfl ?_); refine goesL_ (some 92) rfl rfl Try.func22 (by kernel_rfl) rfl #[.agg #[.int .i64 t342, .int .i64 t343], .int .i64 x17_2] rfl (by (try simp only [List.map_toArray, List.map_cons, List.map_nil]); first | done | rfl | (simp only [List.length_drop, List.length_take]; rfl)) ?_; (with_reducible refine (impl_NextEdge.calls t342 t343 x17_2 t357 false _ A41.out).mono ?_); rintro e w55 ⟨rfl, hb⟩; refine ⟨_, rfl, ?_⟩; have n0_ := Aside0.mk (blk_below (g := gb341) (o := .cells #[.int .i64 t339, .int .i64 t340] 31 (0, 0)) (by (with_reducible repeat (first | refine blk_drewN ?_ _ | refine blk_drew ?_ | refine blk_alloc ?_ _)); exact BK341.out) hb); have n1_ := Aside0.mk (blk_below (g := gb344) (o := .cells #[.int .i64 t342, .int .i64 t343] 31 (0, 0)) (by (with_reducible repeat (first | refine blk_drewN ?_ _ | refine blk_drew ?_ | refine blk_alloc ?_ _)); exact BK344.out) hb); have n2_ := Aside0.mk (below_step (by repeat (first | (with_reducible first | exact HB.out | apply below_alloc | apply pw_below_drewN | apply below_drew1 | refine below_set ?_ GE341.out | refine below_set ?_ GE344.out) | exact HB.out)) hb); clear BK341; clear BK344; clear HB; have BK341 := n0_; have BK344 := n1_; have HB := n2_; clear n0_ n1_ n2_; (try clear hb); (try clear hb2); (try clear hk); (try clear hi)))
                      go_ret
                      exact ⟨by first | rfl | (simp [errW_none, errW_some] <;> rfl) | (simp [*, errW_none, errW_some] <;> rfl), by repeat (first | (with_reducible first | exact HB.out | apply below_alloc | apply pw_below_drewN | apply below_drew1 | refine below_set ?_ GE341.out | refine below_set ?_ GE344.out) | exact HB.out)⟩
                  · rw [if_neg c40] at H
                    have c40b0 : ((Int.tmod (wrap64 (x17_2 - t340)) t339) == 0) = false := beq_eq_false_iff_ne.mpr c40
                    have c40b1 : ((Int.tmod (wrap64 (x17_2 - t340)) t339) != 0) = true := bne_iff_ne.mpr c40
                    have H' := Aside0.mk H
                    clear H
                    have hnb56 := NB341_344.out
                    have hnc56 := NB344_341.out
                    have hcz57_0 : wr.cell? ⟨gb341, 0, none⟩ = some (.int .i64 t339) := (blk_cell BK341.out 0).trans rfl
                    have hcz57_1 : wr.cell? ⟨gb341, 1, none⟩ = some (.int .i64 t340) := (blk_cell BK341.out 1).trans rfl
                    have hfz57_0 := blk_frozen BK341.out 0
                    have hfz57_1 := blk_frozen BK341.out 1
                    go_wp2
                    go_roundg k2
                    case measure => have := HJ11.out; have := HK2.out; omega
                    case rel => exact ⟨(x16_2), (wrap64 (x17_2 + 1)), (by first | rfl | (simp; done) | (simp [*]; done)), (by first | rfl | (simp; done) | (simp [*]; done)), H', ⟨by have := HJ11.out; have := HK2.out; omega⟩, ⟨by (with_reducible repeat (first | refine blk_drewN ?_ _ | refine blk_drew ?_ | refine blk_alloc ?_ _)); exact BK341.out⟩, ⟨by (with_reducible repeat (first | refine blk_drewN ?_ _ | refine blk_drew ?_ | refine blk_alloc ?_ _)); exact BK344.out⟩, ⟨by repeat (first | (with_reducible first | exact HB.out | apply below_alloc | apply pw_below_drewN | apply below_drew1 | refine below_set ?_ GE341.out | refine below_set ?_ GE344.out) | exact HB.out)⟩⟩
              · rw [if_neg c38] at H
                have c38b0 : decide (x17_2 < (wrap64 (40 + t350))) = false := decide_eq_false c38
                clear c38
                have H' := Aside0.mk H
                clear H
                go_wp2
                go_loopg [20, 21] k2 (fun kq v20 v21 w' => ∃ (x20_3 : Int) (x21_3 : Int), v20 = .int .i64 x20_3 ∧ v21 = .int .i64 x21_3 ∧ Aside0 (laws_FnWaits.l1 kq t345 t350 t352 t353 t354 x16_2 x20_3 x21_3 t339 t340 t342 t343 = some r) ∧ Aside0 (kq ≤ k2) ∧ Aside0 (w'.heap[gb341]? = some (.cells #[.int .i64 t339, .int .i64 t340] 31 (0, 0))) ∧ Aside0 (w'.heap[gb344]? = some (.cells #[.int .i64 t342, .int .i64 t343] 31 (0, 0))) ∧ Aside0 (Below w.heap.size w w'))
                case atStart => exact ⟨(0), (60), (by first | rfl | (simp; done) | (simp [*]; done)), (by first | rfl | (simp; done) | (simp [*]; done)), H', ⟨Nat.le_refl _⟩, ⟨by (with_reducible repeat (first | refine blk_drewN ?_ _ | refine blk_drew ?_ | refine blk_alloc ?_ _)); exact BK341.out⟩, ⟨by (with_reducible repeat (first | refine blk_drewN ?_ _ | refine blk_drew ?_ | refine blk_alloc ?_ _)); exact BK344.out⟩, ⟨by repeat (first | (with_reducible first | exact HB.out | apply below_alloc | apply pw_below_drewN | apply below_drew1 | refine below_set ?_ GE341.out | refine below_set ?_ GE344.out) | exact HB.out)⟩⟩
                case round =>
                  clear H'
                  try clear c1
                  try clear c2
                  try clear p2
                  try clear c3
                  try clear c4
                  try clear c5
                  try clear p6
                  try clear c7
                  try clear c16
                  try clear c17
                  try clear c18
                  try clear c22
                  try clear c30
                  try clear c31
                  try clear c32
                  try clear c33
                  try clear c34
                  try clear c34b0
                  try clear c34b1
                  try clear c35
                  try clear c37
                  try clear c38
                  try clear c38b0
                  try clear c39
                  try clear c39b0
                  try clear c39b1
                  try clear c40
                  try clear c40b0
                  try clear c40b1
                  try clear c42
                  try clear c43
                  try clear c43b0
                  try clear c44
                  try clear c48
                  try clear c52
                  try clear c56
                  try clear hcz15_0
                  try clear hcz15_1
                  try clear hcz19_0
                  try clear hcz19_1
                  try clear hcz20_0
                  try clear hcz20_1
                  try clear hcz22_0
                  try clear hcz22_1
                  try clear hcz23_0
                  try clear hcz23_1
                  try clear hcz28_0
                  try clear hcz28_1
                  try clear hcz29_0
                  try clear hcz29_1
                  try clear hcz36_0
                  try clear hcz36_1
                  try clear hcz45_0
                  try clear hcz45_1
                  try clear hcz46_0
                  try clear hcz46_1
                  try clear hcz49_0
                  try clear hcz49_1
                  try clear hcz50_0
                  try clear hcz50_1
                  try clear hcz53_0
                  try clear hcz53_1
                  try clear hcz54_0
                  try clear hcz54_1
                  try clear hcz57_0
                  try clear hcz57_1
                  try clear hfz15_0
                  try clear hfz15_1
                  try clear hfz19_0
                  try clear hfz19_1
                  try clear hfz20_0
                  try clear hfz20_1
                  try clear hfz22_0
                  try clear hfz22_1
                  try clear hfz23_0
                  try clear hfz23_1
                  try clear hfz28_0
                  try clear hfz28_1
                  try clear hfz29_0
                  try clear hfz29_1
                  try clear hfz36_0
                  try clear hfz36_1
                  try clear hfz45_0
                  try clear hfz45_1
                  try clear hfz46_0
                  try clear hfz46_1
                  try clear hfz49_0
                  try clear hfz49_1
                  try clear hfz50_0
                  try clear hfz50_1
                  try clear hfz53_0
                  try clear hfz53_1
                  try clear hfz54_0
                  try clear hfz54_1
                  try clear hfz57_0
                  try clear hfz57_1
                  try clear p2
                  try clear p6
                  obtain ⟨x20_3, x21_3, rfl, rfl, HA, HK3, BK341, BK344, HB⟩ := hrel
                  cases gk with
                  | zero => exact absurd HA.out (by simp [laws_FnWaits.l1])
                  | succ k3 =>
                    have H := HA.out
                    clear HA
                    simp only [laws_FnWaits.l1] at H
                    by_cases c58 : x21_3 < (wrap64 (60 + t350))
                    · rw [if_pos c58] at H
                      have c58b0 : decide (x21_3 < (wrap64 (60 + t350))) = true := decide_eq_true c58
                      clear c58
                      by_cases c59 : t342 = 0
                      · rw [if_pos c59] at H
                        exact absurd H (by simp)
                      · rw [if_neg c59] at H
                        have c59b0 : (t342 == 0) = false := beq_eq_false_iff_ne.mpr c59
                        have c59b1 : (t342 != 0) = true := bne_iff_ne.mpr c59
                        by_cases c60 : (Int.tmod (wrap64 (x21_3 - t343)) t342) = 0
                        · rw [if_pos c60] at H
                          have c60b0 : ((Int.tmod (wrap64 (x21_3 - t343)) t342) == 0) = true := beq_iff_eq.mpr c60
                          have c60b1 : ((Int.tmod (wrap64 (x21_3 - t343)) t342) != 0) = false := bne_eq_false_iff_eq.mpr c60
                          clear c60
                          have H' := Aside0.mk H
                          clear H
                          have hnb61 := NB344_341.out
                          have hnc61 := NB341_344.out
                          have hcz62_0 : wr.cell? ⟨gb344, 0, none⟩ = some (.int .i64 t342) := (blk_cell BK344.out 0).trans rfl
                          have hcz62_1 : wr.cell? ⟨gb344, 1, none⟩ = some (.int .i64 t343) := (blk_cell BK344.out 1).trans rfl
                          have hfz62_0 := blk_frozen BK344.out 0
                          have hfz62_1 := blk_frozen BK344.out 1
                          go_wp2
                          go_loopg [22, 23] k3 (fun kq v22 v23 w' => ∃ (x22_4 : Bool) (x23_4 : Int), v22 = .bool x22_4 ∧ v23 = .int .i64 x23_4 ∧ Aside0 (laws_FnWaits.l2 kq t345 t350 t352 t353 t354 x16_2 x20_3 x21_3 x22_4 x23_4 t339 t340 t342 t343 = some r) ∧ Aside0 (kq ≤ k3) ∧ Aside0 (w'.heap[gb341]? = some (.cells #[.int .i64 t339, .int .i64 t340] 31 (0, 0))) ∧ Aside0 (w'.heap[gb344]? = some (.cells #[.int .i64 t342, .int .i64 t343] 31 (0, 0))) ∧ Aside0 (Below w.heap.size w w'))
                          case atStart => exact ⟨(false), (wrap64 (x21_3 - t352)), (by first | rfl | (simp; done) | (simp [*]; done)), (by first | rfl | (simp; done) | (simp [*]; done)), H', ⟨Nat.le_refl _⟩, ⟨by (with_reducible repeat (first | refine blk_drewN ?_ _ | refine blk_drew ?_ | refine blk_alloc ?_ _)); exact BK341.out⟩, ⟨by (with_reducible repeat (first | refine blk_drewN ?_ _ | refine blk_drew ?_ | refine blk_alloc ?_ _)); exact BK344.out⟩, ⟨by repeat (first | (with_reducible first | exact HB.out | apply below_alloc | apply pw_below_drewN | apply below_drew1 | refine below_set ?_ GE341.out | refine below_set ?_ GE344.out) | exact HB.out)⟩⟩
                          case round =>
                            clear H'
                            try clear c1
                            try clear c2
                            try clear p2
                            try clear c3
                            try clear c4
                            try clear c5
                            try clear c6
                            try clear p6
                            try clear c7
                            try clear c16
                            try clear c17
                            try clear c18
                            try clear c22
                            try clear c30
                            try clear c31
                            try clear c32
                            try clear c33
                            try clear c34
                            try clear c34b0
                            try clear c34b1
                            try clear c35
                            try clear c37
                            try clear c38
                            try clear c38b0
                            try clear c39
                            try clear c39b0
                            try clear c39b1
                            try clear c40
                            try clear c40b0
                            try clear c40b1
                            try clear c42
                            try clear c43
                            try clear c43b0
                            try clear c44
                            try clear c48
                            try clear c52
                            try clear c56
                            try clear c58
                            try clear c58b0
                            try clear c59
                            try clear c59b0
                            try clear c59b1
                            try clear c60
                            try clear c60b0
                            try clear c60b1
                            try clear c61
                            try clear hcz15_0
                            try clear hcz15_1
                            try clear hcz19_0
                            try clear hcz19_1
                            try clear hcz20_0
                            try clear hcz20_1
                            try clear hcz22_0
                            try clear hcz22_1
                            try clear hcz23_0
                            try clear hcz23_1
                            try clear hcz28_0
                            try clear hcz28_1
                            try clear hcz29_0
                            try clear hcz29_1
                            try clear hcz36_0
                            try clear hcz36_1
                            try clear hcz45_0
                            try clear hcz45_1
                            try clear hcz46_0
                            try clear hcz46_1
                            try clear hcz49_0
                            try clear hcz49_1
                            try clear hcz50_0
                            try clear hcz50_1
                            try clear hcz53_0
                            try clear hcz53_1
                            try clear hcz54_0
                            try clear hcz54_1
                            try clear hcz57_0
                            try clear hcz57_1
                            try clear hcz62_0
                            try clear hcz62_1
                            try clear hfz15_0
                            try clear hfz15_1
                            try clear hfz19_0
                            try clear hfz19_1
                            try clear hfz20_0
                            try clear hfz20_1
                            try clear hfz22_0
                            try clear hfz22_1
                            try clear hfz23_0
                            try clear hfz23_1
                            try clear hfz28_0
                            try clear hfz28_1
                            try clear hfz29_0
                            try clear hfz29_1
                            try clear hfz36_0
                            try clear hfz36_1
                            try clear hfz45_0
                            try clear hfz45_1
                            try clear hfz46_0
                            try clear hfz46_1
                            try clear hfz49_0
                            try clear hfz49_1
                            try clear hfz50_0
                            try clear hfz50_1
                            try clear hfz53_0
                            try clear hfz53_1
                            try clear hfz54_0
                            try clear hfz54_1
                            try clear hfz57_0
                            try clear hfz57_1
                            try clear hfz62_0
                            try clear hfz62_1
                            try clear p2
                            try clear p6
                            obtain ⟨x22_4, x23_4, rfl, rfl, HA, HK4, BK341, BK344, HB⟩ := hrel
                            cases gk with
                            | zero => exact absurd HA.out (by simp [laws_FnWaits.l2])
                            | succ k4 =>
                              have H := HA.out
                              clear HA
                              simp only [laws_FnWaits.l2] at H
                              by_cases c63 : x23_4 < (wrap64 (x21_3 + t353))
                              · rw [if_pos c63] at H
                                have c63b0 : decide (x23_4 < (wrap64 (x21_3 + t353))) = true := decide_eq_true c63
                                clear c63
                                by_cases c64 : x22_4 = true
                                · subst c64
                                  have H1 : (laws_FnWaits.l2 k4 t345 t350 t352 t353 t354 x16_2 x20_3 x21_3 true (wrap64 (x23_4 + 1)) t339 t340 t342 t343) = some r := by rw [if_pos rfl] at H; exact H
                                  clear H
                                  have H := H1
                                  clear H1
                                  have H' := Aside0.mk H
                                  clear H
                                  go_wp2
                                  go_roundg k4
                                  case measure => have := HJ11.out; have := HK2.out; have := HK3.out; have := HK4.out; omega
                                  case rel => exact ⟨(true), (wrap64 (x23_4 + 1)), (by first | rfl | (simp; done) | (simp [*]; done)), (by first | rfl | (simp; done) | (simp [*]; done)), H', ⟨by have := HJ11.out; have := HK2.out; have := HK3.out; have := HK4.out; omega⟩, ⟨by (with_reducible repeat (first | refine blk_drewN ?_ _ | refine blk_drew ?_ | refine blk_alloc ?_ _)); exact BK341.out⟩, ⟨by (with_reducible repeat (first | refine blk_drewN ?_ _ | refine blk_drew ?_ | refine blk_alloc ?_ _)); exact BK344.out⟩, ⟨by repeat (first | (with_reducible first | exact HB.out | apply below_alloc | apply pw_below_drewN | apply below_drew1 | refine below_set ?_ GE341.out | refine below_set ?_ GE344.out) | exact HB.out)⟩⟩
                                · replace c64 := Bool.eq_false_iff.mpr c64
                                  subst c64
                                  have H1 : (if x23_4 ≤ x21_3 then (if x23_4 ≥ t340 then (if t339 = 0 then (none) else (if (Int.tmod (wrap64 (x23_4 - t340)) t339) = 0 then (if x23_4 ≥ (wrap64 (x21_3 - t352)) then (laws_FnWaits.l2 k4 t345 t350 t352 t353 t354 x16_2 x20_3 x21_3 true (wrap64 (x23_4 + 1)) t339 t340 t342 t343) else (if x23_4 ≥ x21_3 then (laws_FnWaits.l2 k4 t345 t350 t352 t353 t354 x16_2 x20_3 x21_3 (decide (x23_4 < (wrap64 (x21_3 + t353)))) (wrap64 (x23_4 + 1)) t339 t340 t342 t343) else (laws_FnWaits.l2 k4 t345 t350 t352 t353 t354 x16_2 x20_3 x21_3 false (wrap64 (x23_4 + 1)) t339 t340 t342 t343))) else (laws_FnWaits.l2 k4 t345 t350 t352 t353 t354 x16_2 x20_3 x21_3 false (wrap64 (x23_4 + 1)) t339 t340 t342 t343))) else (laws_FnWaits.l2 k4 t345 t350 t352 t353 t354 x16_2 x20_3 x21_3 false (wrap64 (x23_4 + 1)) t339 t340 t342 t343)) else (if x23_4 ≥ t340 then (if t339 = 0 then (none) else (if (Int.tmod (wrap64 (x23_4 - t340)) t339) = 0 then (if x23_4 ≥ (wrap64 (x21_3 - t352)) then (if x23_4 ≥ x21_3 then (laws_FnWaits.l2 k4 t345 t350 t352 t353 t354 x16_2 x20_3 x21_3 (decide (x23_4 < (wrap64 (x21_3 + t353)))) (wrap64 (x23_4 + 1)) t339 t340 t342 t343) else (laws_FnWaits.l2 k4 t345 t350 t352 t353 t354 x16_2 x20_3 x21_3 false (wrap64 (x23_4 + 1)) t339 t340 t342 t343)) else (if x23_4 ≥ x21_3 then (laws_FnWaits.l2 k4 t345 t350 t352 t353 t354 x16_2 x20_3 x21_3 (decide (x23_4 < (wrap64 (x21_3 + t353)))) (wrap64 (x23_4 + 1)) t339 t340 t342 t343) else (laws_FnWaits.l2 k4 t345 t350 t352 t353 t354 x16_2 x20_3 x21_3 false (wrap64 (x23_4 + 1)) t339 t340 t342 t343))) else (laws_FnWaits.l2 k4 t345 t350 t352 t353 t354 x16_2 x20_3 x21_3 false (wrap64 (x23_4 + 1)) t339 t340 t342 t343))) else (laws_FnWaits.l2 k4 t345 t350 t352 t353 t354 x16_2 x20_3 x21_3 false (wrap64 (x23_4 + 1)) t339 t340 t342 t343))) = some r := by rw [if_neg (show ¬ (false = true) by decide)] at H; exact H
                                  clear H
                                  have H := H1
                                  clear H1
                                  by_cases c65 : x23_4 ≤ x21_3
                                  · rw [if_pos c65] at H
                                    have c65b0 : decide (x23_4 ≤ x21_3) = true := decide_eq_true c65
                                    clear c65
                                    by_cases c66 : x23_4 ≥ t340
                                    · rw [if_pos c66] at H
                                      have c66b0 : decide (t340 ≤ x23_4) = true := decide_eq_true c66
                                      clear c66
                                      by_cases c67 : t339 = 0
                                      · rw [if_pos c67] at H
                                        exact absurd H (by simp)
                                      · rw [if_neg c67] at H
                                        have c67b0 : (t339 == 0) = false := beq_eq_false_iff_ne.mpr c67
                                        have c67b1 : (t339 != 0) = true := bne_iff_ne.mpr c67
                                        by_cases c68 : (Int.tmod (wrap64 (x23_4 - t340)) t339) = 0
                                        · rw [if_pos c68] at H
                                          have c68b0 : ((Int.tmod (wrap64 (x23_4 - t340)) t339) == 0) = true := beq_iff_eq.mpr c68
                                          have c68b1 : ((Int.tmod (wrap64 (x23_4 - t340)) t339) != 0) = false := bne_eq_false_iff_eq.mpr c68
                                          clear c68
                                          by_cases c69 : x23_4 ≥ (wrap64 (x21_3 - t352))
                                          · rw [if_pos c69] at H
                                            have c69b0 : decide ((wrap64 (x21_3 - t352)) ≤ x23_4) = true := decide_eq_true c69
                                            clear c69
                                            have H' := Aside0.mk H
                                            clear H
                                            have hnb70 := NB341_344.out
                                            have hnc70 := NB344_341.out
                                            have hcz71_0 : wr.cell? ⟨gb341, 0, none⟩ = some (.int .i64 t339) := (blk_cell BK341.out 0).trans rfl
                                            have hcz71_1 : wr.cell? ⟨gb341, 1, none⟩ = some (.int .i64 t340) := (blk_cell BK341.out 1).trans rfl
                                            have hfz71_0 := blk_frozen BK341.out 0
                                            have hfz71_1 := blk_frozen BK341.out 1
                                            go_wp2
                                            go_roundg k4
                                            case measure => have := HJ11.out; have := HK2.out; have := HK3.out; have := HK4.out; omega
                                            case rel => exact ⟨(true), (wrap64 (x23_4 + 1)), (by first | rfl | (simp; done) | (simp [*]; done)), (by first | rfl | (simp; done) | (simp [*]; done)), H', ⟨by have := HJ11.out; have := HK2.out; have := HK3.out; have := HK4.out; omega⟩, ⟨by (with_reducible repeat (first | refine blk_drewN ?_ _ | refine blk_drew ?_ | refine blk_alloc ?_ _)); exact BK341.out⟩, ⟨by (with_reducible repeat (first | refine blk_drewN ?_ _ | refine blk_drew ?_ | refine blk_alloc ?_ _)); exact BK344.out⟩, ⟨by repeat (first | (with_reducible first | exact HB.out | apply below_alloc | apply pw_below_drewN | apply below_drew1 | refine below_set ?_ GE341.out | refine below_set ?_ GE344.out) | exact HB.out)⟩⟩
                                          · rw [if_neg c69] at H
                                            have c69b0 : decide ((wrap64 (x21_3 - t352)) ≤ x23_4) = false := decide_eq_false c69
                                            clear c69
                                            by_cases c72 : x23_4 ≥ x21_3
                                            · rw [if_pos c72] at H
                                              have c72b0 : decide (x21_3 ≤ x23_4) = true := decide_eq_true c72
                                              clear c72
                                              have H' := Aside0.mk H
                                              clear H
                                              have hnb73 := NB341_344.out
                                              have hnc73 := NB344_341.out
                                              have hcz74_0 : wr.cell? ⟨gb341, 0, none⟩ = some (.int .i64 t339) := (blk_cell BK341.out 0).trans rfl
                                              have hcz74_1 : wr.cell? ⟨gb341, 1, none⟩ = some (.int .i64 t340) := (blk_cell BK341.out 1).trans rfl
                                              have hfz74_0 := blk_frozen BK341.out 0
                                              have hfz74_1 := blk_frozen BK341.out 1
                                              go_wp2
                                              go_roundg k4
                                              case measure => have := HJ11.out; have := HK2.out; have := HK3.out; have := HK4.out; omega
                                              case rel => exact ⟨(decide (x23_4 < (wrap64 (x21_3 + t353)))), (wrap64 (x23_4 + 1)), (by first | rfl | (simp; done) | (simp [*]; done)), (by first | rfl | (simp; done) | (simp [*]; done)), H', ⟨by have := HJ11.out; have := HK2.out; have := HK3.out; have := HK4.out; omega⟩, ⟨by (with_reducible repeat (first | refine blk_drewN ?_ _ | refine blk_drew ?_ | refine blk_alloc ?_ _)); exact BK341.out⟩, ⟨by (with_reducible repeat (first | refine blk_drewN ?_ _ | refine blk_drew ?_ | refine blk_alloc ?_ _)); exact BK344.out⟩, ⟨by repeat (first | (with_reducible first | exact HB.out | apply below_alloc | apply pw_below_drewN | apply below_drew1 | refine below_set ?_ GE341.out | refine below_set ?_ GE344.out) | exact HB.out)⟩⟩
                                            · rw [if_neg c72] at H
                                              have c72b0 : decide (x21_3 ≤ x23_4) = false := decide_eq_false c72
                                              clear c72
                                              have H' := Aside0.mk H
                                              clear H
                                              have hnb75 := NB341_344.out
                                              have hnc75 := NB344_341.out
                                              have hcz76_0 : wr.cell? ⟨gb341, 0, none⟩ = some (.int .i64 t339) := (blk_cell BK341.out 0).trans rfl
                                              have hcz76_1 : wr.cell? ⟨gb341, 1, none⟩ = some (.int .i64 t340) := (blk_cell BK341.out 1).trans rfl
                                              have hfz76_0 := blk_frozen BK341.out 0
                                              have hfz76_1 := blk_frozen BK341.out 1
                                              go_wp2
                                              go_roundg k4
                                              case measure => have := HJ11.out; have := HK2.out; have := HK3.out; have := HK4.out; omega
                                              case rel => exact ⟨(false), (wrap64 (x23_4 + 1)), (by first | rfl | (simp; done) | (simp [*]; done)), (by first | rfl | (simp; done) | (simp [*]; done)), H', ⟨by have := HJ11.out; have := HK2.out; have := HK3.out; have := HK4.out; omega⟩, ⟨by (with_reducible repeat (first | refine blk_drewN ?_ _ | refine blk_drew ?_ | refine blk_alloc ?_ _)); exact BK341.out⟩, ⟨by (with_reducible repeat (first | refine blk_drewN ?_ _ | refine blk_drew ?_ | refine blk_alloc ?_ _)); exact BK344.out⟩, ⟨by repeat (first | (with_reducible first | exact HB.out | apply below_alloc | apply pw_below_drewN | apply below_drew1 | refine below_set ?_ GE341.out | refine below_set ?_ GE344.out) | exact HB.out)⟩⟩
                                        · rw [if_neg c68] at H
                                          have c68b0 : ((Int.tmod (wrap64 (x23_4 - t340)) t339) == 0) = false := beq_eq_false_iff_ne.mpr c68
                                          have c68b1 : ((Int.tmod (wrap64 (x23_4 - t340)) t339) != 0) = true := bne_iff_ne.mpr c68
                                          have H' := Aside0.mk H
                                          clear H
                                          have hnb77 := NB341_344.out
                                          have hnc77 := NB344_341.out
                                          have hcz78_0 : wr.cell? ⟨gb341, 0, none⟩ = some (.int .i64 t339) := (blk_cell BK341.out 0).trans rfl
                                          have hcz78_1 : wr.cell? ⟨gb341, 1, none⟩ = some (.int .i64 t340) := (blk_cell BK341.out 1).trans rfl
                                          have hfz78_0 := blk_frozen BK341.out 0
                                          have hfz78_1 := blk_frozen BK341.out 1
                                          go_wp2
                                          go_roundg k4
                                          case measure => have := HJ11.out; have := HK2.out; have := HK3.out; have := HK4.out; omega
                                          case rel => exact ⟨(false), (wrap64 (x23_4 + 1)), (by first | rfl | (simp; done) | (simp [*]; done)), (by first | rfl | (simp; done) | (simp [*]; done)), H', ⟨by have := HJ11.out; have := HK2.out; have := HK3.out; have := HK4.out; omega⟩, ⟨by (with_reducible repeat (first | refine blk_drewN ?_ _ | refine blk_drew ?_ | refine blk_alloc ?_ _)); exact BK341.out⟩, ⟨by (with_reducible repeat (first | refine blk_drewN ?_ _ | refine blk_drew ?_ | refine blk_alloc ?_ _)); exact BK344.out⟩, ⟨by repeat (first | (with_reducible first | exact HB.out | apply below_alloc | apply pw_below_drewN | apply below_drew1 | refine below_set ?_ GE341.out | refine below_set ?_ GE344.out) | exact HB.out)⟩⟩
                                    · rw [if_neg c66] at H
                                      have c66b0 : decide (t340 ≤ x23_4) = false := decide_eq_false c66
                                      clear c66
                                      have H' := Aside0.mk H
                                      clear H
                                      have hnb79 := NB341_344.out
                                      have hnc79 := NB344_341.out
                                      have hcz80_0 : wr.cell? ⟨gb341, 0, none⟩ = some (.int .i64 t339) := (blk_cell BK341.out 0).trans rfl
                                      have hcz80_1 : wr.cell? ⟨gb341, 1, none⟩ = some (.int .i64 t340) := (blk_cell BK341.out 1).trans rfl
                                      have hfz80_0 := blk_frozen BK341.out 0
                                      have hfz80_1 := blk_frozen BK341.out 1
                                      go_wp2
                                      go_roundg k4
                                      case measure => have := HJ11.out; have := HK2.out; have := HK3.out; have := HK4.out; omega
                                      case rel => exact ⟨(false), (wrap64 (x23_4 + 1)), (by first | rfl | (simp; done) | (simp [*]; done)), (by first | rfl | (simp; done) | (simp [*]; done)), H', ⟨by have := HJ11.out; have := HK2.out; have := HK3.out; have := HK4.out; omega⟩, ⟨by (with_reducible repeat (first | refine blk_drewN ?_ _ | refine blk_drew ?_ | refine blk_alloc ?_ _)); exact BK341.out⟩, ⟨by (with_reducible repeat (first | refine blk_drewN ?_ _ | refine blk_drew ?_ | refine blk_alloc ?_ _)); exact BK344.out⟩, ⟨by repeat (first | (with_reducible first | exact HB.out | apply below_alloc | apply pw_below_drewN | apply below_drew1 | refine below_set ?_ GE341.out | refine below_set ?_ GE344.out) | exact HB.out)⟩⟩
                                  · rw [if_neg c65] at H
                                    have c65b0 : decide (x23_4 ≤ x21_3) = false := decide_eq_false c65
                                    clear c65
                                    by_cases c81 : x23_4 ≥ t340
                                    · rw [if_pos c81] at H
                                      have c81b0 : decide (t340 ≤ x23_4) = true := decide_eq_true c81
                                      clear c81
                                      by_cases c82 : t339 = 0
                                      · rw [if_pos c82] at H
                                        exact absurd H (by simp)
                                      · rw [if_neg c82] at H
                                        have c82b0 : (t339 == 0) = false := beq_eq_false_iff_ne.mpr c82
                                        have c82b1 : (t339 != 0) = true := bne_iff_ne.mpr c82
                                        by_cases c83 : (Int.tmod (wrap64 (x23_4 - t340)) t339) = 0
                                        · rw [if_pos c83] at H
                                          have c83b0 : ((Int.tmod (wrap64 (x23_4 - t340)) t339) == 0) = true := beq_iff_eq.mpr c83
                                          have c83b1 : ((Int.tmod (wrap64 (x23_4 - t340)) t339) != 0) = false := bne_eq_false_iff_eq.mpr c83
                                          clear c83
                                          by_cases c84 : x23_4 ≥ (wrap64 (x21_3 - t352))
                                          · rw [if_pos c84] at H
                                            have c84b0 : decide ((wrap64 (x21_3 - t352)) ≤ x23_4) = true := decide_eq_true c84
                                            clear c84
                                            by_cases c85 : x23_4 ≥ x21_3
                                            · rw [if_pos c85] at H
                                              have c85b0 : decide (x21_3 ≤ x23_4) = true := decide_eq_true c85
                                              clear c85
                                              have H' := Aside0.mk H
                                              clear H
                                              have hnb86 := NB341_344.out
                                              have hnc86 := NB344_341.out
                                              have hcz87_0 : wr.cell? ⟨gb341, 0, none⟩ = some (.int .i64 t339) := (blk_cell BK341.out 0).trans rfl
                                              have hcz87_1 : wr.cell? ⟨gb341, 1, none⟩ = some (.int .i64 t340) := (blk_cell BK341.out 1).trans rfl
                                              have hfz87_0 := blk_frozen BK341.out 0
                                              have hfz87_1 := blk_frozen BK341.out 1
                                              go_wp2
                                              go_roundg k4
                                              case measure => have := HJ11.out; have := HK2.out; have := HK3.out; have := HK4.out; omega
                                              case rel => exact ⟨(decide (x23_4 < (wrap64 (x21_3 + t353)))), (wrap64 (x23_4 + 1)), (by first | rfl | (simp; done) | (simp [*]; done)), (by first | rfl | (simp; done) | (simp [*]; done)), H', ⟨by have := HJ11.out; have := HK2.out; have := HK3.out; have := HK4.out; omega⟩, ⟨by (with_reducible repeat (first | refine blk_drewN ?_ _ | refine blk_drew ?_ | refine blk_alloc ?_ _)); exact BK341.out⟩, ⟨by (with_reducible repeat (first | refine blk_drewN ?_ _ | refine blk_drew ?_ | refine blk_alloc ?_ _)); exact BK344.out⟩, ⟨by repeat (first | (with_reducible first | exact HB.out | apply below_alloc | apply pw_below_drewN | apply below_drew1 | refine below_set ?_ GE341.out | refine below_set ?_ GE344.out) | exact HB.out)⟩⟩
                                            · rw [if_neg c85] at H
                                              have c85b0 : decide (x21_3 ≤ x23_4) = false := decide_eq_false c85
                                              clear c85
                                              have H' := Aside0.mk H
                                              clear H
                                              have hnb88 := NB341_344.out
                                              have hnc88 := NB344_341.out
                                              have hcz89_0 : wr.cell? ⟨gb341, 0, none⟩ = some (.int .i64 t339) := (blk_cell BK341.out 0).trans rfl
                                              have hcz89_1 : wr.cell? ⟨gb341, 1, none⟩ = some (.int .i64 t340) := (blk_cell BK341.out 1).trans rfl
                                              have hfz89_0 := blk_frozen BK341.out 0
                                              have hfz89_1 := blk_frozen BK341.out 1
                                              go_wp2
                                              go_roundg k4
                                              case measure => have := HJ11.out; have := HK2.out; have := HK3.out; have := HK4.out; omega
                                              case rel => exact ⟨(false), (wrap64 (x23_4 + 1)), (by first | rfl | (simp; done) | (simp [*]; done)), (by first | rfl | (simp; done) | (simp [*]; done)), H', ⟨by have := HJ11.out; have := HK2.out; have := HK3.out; have := HK4.out; omega⟩, ⟨by (with_reducible repeat (first | refine blk_drewN ?_ _ | refine blk_drew ?_ | refine blk_alloc ?_ _)); exact BK341.out⟩, ⟨by (with_reducible repeat (first | refine blk_drewN ?_ _ | refine blk_drew ?_ | refine blk_alloc ?_ _)); exact BK344.out⟩, ⟨by repeat (first | (with_reducible first | exact HB.out | apply below_alloc | apply pw_below_drewN | apply below_drew1 | refine below_set ?_ GE341.out | refine below_set ?_ GE344.out) | exact HB.out)⟩⟩
                                          · rw [if_neg c84] at H
                                            have c84b0 : decide ((wrap64 (x21_3 - t352)) ≤ x23_4) = false := decide_eq_false c84
                                            clear c84
                                            by_cases c90 : x23_4 ≥ x21_3
                                            · rw [if_pos c90] at H
                                              have c90b0 : decide (x21_3 ≤ x23_4) = true := decide_eq_true c90
                                              clear c90
                                              have H' := Aside0.mk H
                                              clear H
                                              have hnb91 := NB341_344.out
                                              have hnc91 := NB344_341.out
                                              have hcz92_0 : wr.cell? ⟨gb341, 0, none⟩ = some (.int .i64 t339) := (blk_cell BK341.out 0).trans rfl
                                              have hcz92_1 : wr.cell? ⟨gb341, 1, none⟩ = some (.int .i64 t340) := (blk_cell BK341.out 1).trans rfl
                                              have hfz92_0 := blk_frozen BK341.out 0
                                              have hfz92_1 := blk_frozen BK341.out 1
                                              go_wp2
                                              go_roundg k4
                                              case measure => have := HJ11.out; have := HK2.out; have := HK3.out; have := HK4.out; omega
                                              case rel => exact ⟨(decide (x23_4 < (wrap64 (x21_3 + t353)))), (wrap64 (x23_4 + 1)), (by first | rfl | (simp; done) | (simp [*]; done)), (by first | rfl | (simp; done) | (simp [*]; done)), H', ⟨by have := HJ11.out; have := HK2.out; have := HK3.out; have := HK4.out; omega⟩, ⟨by (with_reducible repeat (first | refine blk_drewN ?_ _ | refine blk_drew ?_ | refine blk_alloc ?_ _)); exact BK341.out⟩, ⟨by (with_reducible repeat (first | refine blk_drewN ?_ _ | refine blk_drew ?_ | refine blk_alloc ?_ _)); exact BK344.out⟩, ⟨by repeat (first | (with_reducible first | exact HB.out | apply below_alloc | apply pw_below_drewN | apply below_drew1 | refine below_set ?_ GE341.out | refine below_set ?_ GE344.out) | exact HB.out)⟩⟩
                                            · rw [if_neg c90] at H
                                              have c90b0 : decide (x21_3 ≤ x23_4) = false := decide_eq_false c90
                                              clear c90
                                              have H' := Aside0.mk H
                                              clear H
                                              have hnb93 := NB341_344.out
                                              have hnc93 := NB344_341.out
                                              have hcz94_0 : wr.cell? ⟨gb341, 0, none⟩ = some (.int .i64 t339) := (blk_cell BK341.out 0).trans rfl
                                              have hcz94_1 : wr.cell? ⟨gb341, 1, none⟩ = some (.int .i64 t340) := (blk_cell BK341.out 1).trans rfl
                                              have hfz94_0 := blk_frozen BK341.out 0
                                              have hfz94_1 := blk_frozen BK341.out 1
                                              go_wp2
                                              go_roundg k4
                                              case measure => have := HJ11.out; have := HK2.out; have := HK3.out; have := HK4.out; omega
                                              case rel => exact ⟨(false), (wrap64 (x23_4 + 1)), (by first | rfl | (simp; done) | (simp [*]; done)), (by first | rfl | (simp; done) | (simp [*]; done)), H', ⟨by have := HJ11.out; have := HK2.out; have := HK3.out; have := HK4.out; omega⟩, ⟨by (with_reducible repeat (first | refine blk_drewN ?_ _ | refine blk_drew ?_ | refine blk_alloc ?_ _)); exact BK341.out⟩, ⟨by (with_reducible repeat (first | refine blk_drewN ?_ _ | refine blk_drew ?_ | refine blk_alloc ?_ _)); exact BK344.out⟩, ⟨by repeat (first | (with_reducible first | exact HB.out | apply below_alloc | apply pw_below_drewN | apply below_drew1 | refine below_set ?_ GE341.out | refine below_set ?_ GE344.out) | exact HB.out)⟩⟩
                                        · rw [if_neg c83] at H
                                          have c83b0 : ((Int.tmod (wrap64 (x23_4 - t340)) t339) == 0) = false := beq_eq_false_iff_ne.mpr c83
                                          have c83b1 : ((Int.tmod (wrap64 (x23_4 - t340)) t339) != 0) = true := bne_iff_ne.mpr c83
                                          have H' := Aside0.mk H
                                          clear H
                                          have hnb95 := NB341_344.out
                                          have hnc95 := NB344_341.out
                                          have hcz96_0 : wr.cell? ⟨gb341, 0, none⟩ = some (.int .i64 t339) := (blk_cell BK341.out 0).trans rfl
                                          have hcz96_1 : wr.cell? ⟨gb341, 1, none⟩ = some (.int .i64 t340) := (blk_cell BK341.out 1).trans rfl
                                          have hfz96_0 := blk_frozen BK341.out 0
                                          have hfz96_1 := blk_frozen BK341.out 1
                                          go_wp2
                                          go_roundg k4
                                          case measure => have := HJ11.out; have := HK2.out; have := HK3.out; have := HK4.out; omega
                                          case rel => exact ⟨(false), (wrap64 (x23_4 + 1)), (by first | rfl | (simp; done) | (simp [*]; done)), (by first | rfl | (simp; done) | (simp [*]; done)), H', ⟨by have := HJ11.out; have := HK2.out; have := HK3.out; have := HK4.out; omega⟩, ⟨by (with_reducible repeat (first | refine blk_drewN ?_ _ | refine blk_drew ?_ | refine blk_alloc ?_ _)); exact BK341.out⟩, ⟨by (with_reducible repeat (first | refine blk_drewN ?_ _ | refine blk_drew ?_ | refine blk_alloc ?_ _)); exact BK344.out⟩, ⟨by repeat (first | (with_reducible first | exact HB.out | apply below_alloc | apply pw_below_drewN | apply below_drew1 | refine below_set ?_ GE341.out | refine below_set ?_ GE344.out) | exact HB.out)⟩⟩
                                    · rw [if_neg c81] at H
                                      have c81b0 : decide (t340 ≤ x23_4) = false := decide_eq_false c81
                                      clear c81
                                      have H' := Aside0.mk H
                                      clear H
                                      have hnb97 := NB341_344.out
                                      have hnc97 := NB344_341.out
                                      have hcz98_0 : wr.cell? ⟨gb341, 0, none⟩ = some (.int .i64 t339) := (blk_cell BK341.out 0).trans rfl
                                      have hcz98_1 : wr.cell? ⟨gb341, 1, none⟩ = some (.int .i64 t340) := (blk_cell BK341.out 1).trans rfl
                                      have hfz98_0 := blk_frozen BK341.out 0
                                      have hfz98_1 := blk_frozen BK341.out 1
                                      go_wp2
                                      go_roundg k4
                                      case measure => have := HJ11.out; have := HK2.out; have := HK3.out; have := HK4.out; omega
                                      case rel => exact ⟨(false), (wrap64 (x23_4 + 1)), (by first | rfl | (simp; done) | (simp [*]; done)), (by first | rfl | (simp; done) | (simp [*]; done)), H', ⟨by have := HJ11.out; have := HK2.out; have := HK3.out; have := HK4.out; omega⟩, ⟨by (with_reducible repeat (first | refine blk_drewN ?_ _ | refine blk_drew ?_ | refine blk_alloc ?_ _)); exact BK341.out⟩, ⟨by (with_reducible repeat (first | refine blk_drewN ?_ _ | refine blk_drew ?_ | refine blk_alloc ?_ _)); exact BK344.out⟩, ⟨by repeat (first | (with_reducible first | exact HB.out | apply below_alloc | apply pw_below_drewN | apply below_drew1 | refine below_set ?_ GE341.out | refine below_set ?_ GE344.out) | exact HB.out)⟩⟩
                              · rw [if_neg c63] at H
                                have c63b0 : decide (x23_4 < (wrap64 (x21_3 + t353))) = false := decide_eq_false c63
                                clear c63
                                by_cases c99 : x23_4 ≤ x21_3
                                · rw [if_pos c99] at H
                                  have c99b0 : decide (x23_4 ≤ x21_3) = true := decide_eq_true c99
                                  clear c99
                                  by_cases c100 : x22_4 = true
                                  · subst c100
                                    have H1 : (laws_FnWaits.l2 k4 t345 t350 t352 t353 t354 x16_2 x20_3 x21_3 true (wrap64 (x23_4 + 1)) t339 t340 t342 t343) = some r := by rw [if_pos rfl] at H; exact H
                                    clear H
                                    have H := H1
                                    clear H1
                                    have H' := Aside0.mk H
                                    clear H
                                    go_wp2
                                    go_roundg k4
                                    case measure => have := HJ11.out; have := HK2.out; have := HK3.out; have := HK4.out; omega
                                    case rel => exact ⟨(true), (wrap64 (x23_4 + 1)), (by first | rfl | (simp; done) | (simp [*]; done)), (by first | rfl | (simp; done) | (simp [*]; done)), H', ⟨by have := HJ11.out; have := HK2.out; have := HK3.out; have := HK4.out; omega⟩, ⟨by (with_reducible repeat (first | refine blk_drewN ?_ _ | refine blk_drew ?_ | refine blk_alloc ?_ _)); exact BK341.out⟩, ⟨by (with_reducible repeat (first | refine blk_drewN ?_ _ | refine blk_drew ?_ | refine blk_alloc ?_ _)); exact BK344.out⟩, ⟨by repeat (first | (with_reducible first | exact HB.out | apply below_alloc | apply pw_below_drewN | apply below_drew1 | refine below_set ?_ GE341.out | refine below_set ?_ GE344.out) | exact HB.out)⟩⟩
                                  · replace c100 := Bool.eq_false_iff.mpr c100
                                    subst c100
                                    have H1 : (if x23_4 ≥ t340 then (if t339 = 0 then (none) else (if (Int.tmod (wrap64 (x23_4 - t340)) t339) = 0 then (if x23_4 ≥ (wrap64 (x21_3 - t352)) then (laws_FnWaits.l2 k4 t345 t350 t352 t353 t354 x16_2 x20_3 x21_3 true (wrap64 (x23_4 + 1)) t339 t340 t342 t343) else (if x23_4 ≥ x21_3 then (laws_FnWaits.l2 k4 t345 t350 t352 t353 t354 x16_2 x20_3 x21_3 (decide (x23_4 < (wrap64 (x21_3 + t353)))) (wrap64 (x23_4 + 1)) t339 t340 t342 t343) else (laws_FnWaits.l2 k4 t345 t350 t352 t353 t354 x16_2 x20_3 x21_3 false (wrap64 (x23_4 + 1)) t339 t340 t342 t343))) else (laws_FnWaits.l2 k4 t345 t350 t352 t353 t354 x16_2 x20_3 x21_3 false (wrap64 (x23_4 + 1)) t339 t340 t342 t343))) else (laws_FnWaits.l2 k4 t345 t350 t352 t353 t354 x16_2 x20_3 x21_3 false (wrap64 (x23_4 + 1)) t339 t340 t342 t343)) = some r := by rw [if_neg (show ¬ (false = true) by decide)] at H; exact H
                                    clear H
                                    have H := H1
                                    clear H1
                                    by_cases c101 : x23_4 ≥ t340
                                    · rw [if_pos c101] at H
                                      have c101b0 : decide (t340 ≤ x23_4) = true := decide_eq_true c101
                                      clear c101
                                      by_cases c102 : t339 = 0
                                      · rw [if_pos c102] at H
                                        exact absurd H (by simp)
                                      · rw [if_neg c102] at H
                                        have c102b0 : (t339 == 0) = false := beq_eq_false_iff_ne.mpr c102
                                        have c102b1 : (t339 != 0) = true := bne_iff_ne.mpr c102
                                        by_cases c103 : (Int.tmod (wrap64 (x23_4 - t340)) t339) = 0
                                        · rw [if_pos c103] at H
                                          have c103b0 : ((Int.tmod (wrap64 (x23_4 - t340)) t339) == 0) = true := beq_iff_eq.mpr c103
                                          have c103b1 : ((Int.tmod (wrap64 (x23_4 - t340)) t339) != 0) = false := bne_eq_false_iff_eq.mpr c103
                                          clear c103
                                          by_cases c104 : x23_4 ≥ (wrap64 (x21_3 - t352))
                                          · rw [if_pos c104] at H
                                            have c104b0 : decide ((wrap64 (x21_3 - t352)) ≤ x23_4) = true := decide_eq_true c104
                                            clear c104
                                            have H' := Aside0.mk H
                                            clear H
                                            have hnb105 := NB341_344.out
                                            have hnc105 := NB344_341.out
                                            have hcz106_0 : wr.cell? ⟨gb341, 0, none⟩ = some (.int .i64 t339) := (blk_cell BK341.out 0).trans rfl
                                            have hcz106_1 : wr.cell? ⟨gb341, 1, none⟩ = some (.int .i64 t340) := (blk_cell BK341.out 1).trans rfl
                                            have hfz106_0 := blk_frozen BK341.out 0
                                            have hfz106_1 := blk_frozen BK341.out 1
                                            go_wp2
                                            go_roundg k4
                                            case measure => have := HJ11.out; have := HK2.out; have := HK3.out; have := HK4.out; omega
                                            case rel => exact ⟨(true), (wrap64 (x23_4 + 1)), (by first | rfl | (simp; done) | (simp [*]; done)), (by first | rfl | (simp; done) | (simp [*]; done)), H', ⟨by have := HJ11.out; have := HK2.out; have := HK3.out; have := HK4.out; omega⟩, ⟨by (with_reducible repeat (first | refine blk_drewN ?_ _ | refine blk_drew ?_ | refine blk_alloc ?_ _)); exact BK341.out⟩, ⟨by (with_reducible repeat (first | refine blk_drewN ?_ _ | refine blk_drew ?_ | refine blk_alloc ?_ _)); exact BK344.out⟩, ⟨by repeat (first | (with_reducible first | exact HB.out | apply below_alloc | apply pw_below_drewN | apply below_drew1 | refine below_set ?_ GE341.out | refine below_set ?_ GE344.out) | exact HB.out)⟩⟩
                                          · rw [if_neg c104] at H
                                            have c104b0 : decide ((wrap64 (x21_3 - t352)) ≤ x23_4) = false := decide_eq_false c104
                                            clear c104
                                            by_cases c107 : x23_4 ≥ x21_3
                                            · rw [if_pos c107] at H
                                              have c107b0 : decide (x21_3 ≤ x23_4) = true := decide_eq_true c107
                                              clear c107
                                              have H' := Aside0.mk H
                                              clear H
                                              have hnb108 := NB341_344.out
                                              have hnc108 := NB344_341.out
                                              have hcz109_0 : wr.cell? ⟨gb341, 0, none⟩ = some (.int .i64 t339) := (blk_cell BK341.out 0).trans rfl
                                              have hcz109_1 : wr.cell? ⟨gb341, 1, none⟩ = some (.int .i64 t340) := (blk_cell BK341.out 1).trans rfl
                                              have hfz109_0 := blk_frozen BK341.out 0
                                              have hfz109_1 := blk_frozen BK341.out 1
                                              go_wp2
                                              go_roundg k4
                                              case measure => have := HJ11.out; have := HK2.out; have := HK3.out; have := HK4.out; omega
                                              case rel => exact ⟨(decide (x23_4 < (wrap64 (x21_3 + t353)))), (wrap64 (x23_4 + 1)), (by first | rfl | (simp; done) | (simp [*]; done)), (by first | rfl | (simp; done) | (simp [*]; done)), H', ⟨by have := HJ11.out; have := HK2.out; have := HK3.out; have := HK4.out; omega⟩, ⟨by (with_reducible repeat (first | refine blk_drewN ?_ _ | refine blk_drew ?_ | refine blk_alloc ?_ _)); exact BK341.out⟩, ⟨by (with_reducible repeat (first | refine blk_drewN ?_ _ | refine blk_drew ?_ | refine blk_alloc ?_ _)); exact BK344.out⟩, ⟨by repeat (first | (with_reducible first | exact HB.out | apply below_alloc | apply pw_below_drewN | apply below_drew1 | refine below_set ?_ GE341.out | refine below_set ?_ GE344.out) | exact HB.out)⟩⟩
                                            · rw [if_neg c107] at H
                                              have c107b0 : decide (x21_3 ≤ x23_4) = false := decide_eq_false c107
                                              clear c107
                                              have H' := Aside0.mk H
                                              clear H
                                              have hnb110 := NB341_344.out
                                              have hnc110 := NB344_341.out
                                              have hcz111_0 : wr.cell? ⟨gb341, 0, none⟩ = some (.int .i64 t339) := (blk_cell BK341.out 0).trans rfl
                                              have hcz111_1 : wr.cell? ⟨gb341, 1, none⟩ = some (.int .i64 t340) := (blk_cell BK341.out 1).trans rfl
                                              have hfz111_0 := blk_frozen BK341.out 0
                                              have hfz111_1 := blk_frozen BK341.out 1
                                              go_wp2
                                              go_roundg k4
                                              case measure => have := HJ11.out; have := HK2.out; have := HK3.out; have := HK4.out; omega
                                              case rel => exact ⟨(false), (wrap64 (x23_4 + 1)), (by first | rfl | (simp; done) | (simp [*]; done)), (by first | rfl | (simp; done) | (simp [*]; done)), H', ⟨by have := HJ11.out; have := HK2.out; have := HK3.out; have := HK4.out; omega⟩, ⟨by (with_reducible repeat (first | refine blk_drewN ?_ _ | refine blk_drew ?_ | refine blk_alloc ?_ _)); exact BK341.out⟩, ⟨by (with_reducible repeat (first | refine blk_drewN ?_ _ | refine blk_drew ?_ | refine blk_alloc ?_ _)); exact BK344.out⟩, ⟨by repeat (first | (with_reducible first | exact HB.out | apply below_alloc | apply pw_below_drewN | apply below_drew1 | refine below_set ?_ GE341.out | refine below_set ?_ GE344.out) | exact HB.out)⟩⟩
                                        · rw [if_neg c103] at H
                                          have c103b0 : ((Int.tmod (wrap64 (x23_4 - t340)) t339) == 0) = false := beq_eq_false_iff_ne.mpr c103
                                          have c103b1 : ((Int.tmod (wrap64 (x23_4 - t340)) t339) != 0) = true := bne_iff_ne.mpr c103
                                          have H' := Aside0.mk H
                                          clear H
                                          have hnb112 := NB341_344.out
                                          have hnc112 := NB344_341.out
                                          have hcz113_0 : wr.cell? ⟨gb341, 0, none⟩ = some (.int .i64 t339) := (blk_cell BK341.out 0).trans rfl
                                          have hcz113_1 : wr.cell? ⟨gb341, 1, none⟩ = some (.int .i64 t340) := (blk_cell BK341.out 1).trans rfl
                                          have hfz113_0 := blk_frozen BK341.out 0
                                          have hfz113_1 := blk_frozen BK341.out 1
                                          go_wp2
                                          go_roundg k4
                                          case measure => have := HJ11.out; have := HK2.out; have := HK3.out; have := HK4.out; omega
                                          case rel => exact ⟨(false), (wrap64 (x23_4 + 1)), (by first | rfl | (simp; done) | (simp [*]; done)), (by first | rfl | (simp; done) | (simp [*]; done)), H', ⟨by have := HJ11.out; have := HK2.out; have := HK3.out; have := HK4.out; omega⟩, ⟨by (with_reducible repeat (first | refine blk_drewN ?_ _ | refine blk_drew ?_ | refine blk_alloc ?_ _)); exact BK341.out⟩, ⟨by (with_reducible repeat (first | refine blk_drewN ?_ _ | refine blk_drew ?_ | refine blk_alloc ?_ _)); exact BK344.out⟩, ⟨by repeat (first | (with_reducible first | exact HB.out | apply below_alloc | apply pw_below_drewN | apply below_drew1 | refine below_set ?_ GE341.out | refine below_set ?_ GE344.out) | exact HB.out)⟩⟩
                                    · rw [if_neg c101] at H
                                      have c101b0 : decide (t340 ≤ x23_4) = false := decide_eq_false c101
                                      clear c101
                                      have H' := Aside0.mk H
                                      clear H
                                      have hnb114 := NB341_344.out
                                      have hnc114 := NB344_341.out
                                      have hcz115_0 : wr.cell? ⟨gb341, 0, none⟩ = some (.int .i64 t339) := (blk_cell BK341.out 0).trans rfl
                                      have hcz115_1 : wr.cell? ⟨gb341, 1, none⟩ = some (.int .i64 t340) := (blk_cell BK341.out 1).trans rfl
                                      have hfz115_0 := blk_frozen BK341.out 0
                                      have hfz115_1 := blk_frozen BK341.out 1
                                      go_wp2
                                      go_roundg k4
                                      case measure => have := HJ11.out; have := HK2.out; have := HK3.out; have := HK4.out; omega
                                      case rel => exact ⟨(false), (wrap64 (x23_4 + 1)), (by first | rfl | (simp; done) | (simp [*]; done)), (by first | rfl | (simp; done) | (simp [*]; done)), H', ⟨by have := HJ11.out; have := HK2.out; have := HK3.out; have := HK4.out; omega⟩, ⟨by (with_reducible repeat (first | refine blk_drewN ?_ _ | refine blk_drew ?_ | refine blk_alloc ?_ _)); exact BK341.out⟩, ⟨by (with_reducible repeat (first | refine blk_drewN ?_ _ | refine blk_drew ?_ | refine blk_alloc ?_ _)); exact BK344.out⟩, ⟨by repeat (first | (with_reducible first | exact HB.out | apply below_alloc | apply pw_below_drewN | apply below_drew1 | refine below_set ?_ GE341.out | refine below_set ?_ GE344.out) | exact HB.out)⟩⟩
                                · rw [if_neg c99] at H
                                  have c99b0 : decide (x23_4 ≤ x21_3) = false := decide_eq_false c99
                                  clear c99
                                  by_cases c116 : x22_4 = true
                                  · subst c116
                                    have H1 : (laws_FnWaits.l1 k4 t345 t350 t352 t353 t354 x16_2 (wrap64 (x20_3 + 1)) (wrap64 (x21_3 + 1)) t339 t340 t342 t343) = some r := by rw [if_pos rfl] at H; exact H
                                    clear H
                                    have H := H1
                                    clear H1
                                    have H' := Aside0.mk H
                                    clear H
                                    go_wp2
                                    go_roundg k4
                                    case measure => have := HJ11.out; have := HK2.out; have := HK3.out; have := HK4.out; omega
                                    case rel => exact ⟨(wrap64 (x20_3 + 1)), (wrap64 (x21_3 + 1)), (by first | rfl | (simp; done) | (simp [*]; done)), (by first | rfl | (simp; done) | (simp [*]; done)), H', ⟨by have := HJ11.out; have := HK2.out; have := HK3.out; have := HK4.out; omega⟩, ⟨by (with_reducible repeat (first | refine blk_drewN ?_ _ | refine blk_drew ?_ | refine blk_alloc ?_ _)); exact BK341.out⟩, ⟨by (with_reducible repeat (first | refine blk_drewN ?_ _ | refine blk_drew ?_ | refine blk_alloc ?_ _)); exact BK344.out⟩, ⟨by repeat (first | (with_reducible first | exact HB.out | apply below_alloc | apply pw_below_drewN | apply below_drew1 | refine below_set ?_ GE341.out | refine below_set ?_ GE344.out) | exact HB.out)⟩⟩
                                  · replace c116 := Bool.eq_false_iff.mpr c116
                                    subst c116
                                    have H1 : (laws_FnWaits.l1 k4 t345 t350 t352 t353 t354 x16_2 x20_3 (wrap64 (x21_3 + 1)) t339 t340 t342 t343) = some r := by rw [if_neg (show ¬ (false = true) by decide)] at H; exact H
                                    clear H
                                    have H := H1
                                    clear H1
                                    have H' := Aside0.mk H
                                    clear H
                                    go_wp2
                                    go_roundg k4
                                    case measure => have := HJ11.out; have := HK2.out; have := HK3.out; have := HK4.out; omega
                                    case rel => exact ⟨(x20_3), (wrap64 (x21_3 + 1)), (by first | rfl | (simp; done) | (simp [*]; done)), (by first | rfl | (simp; done) | (simp [*]; done)), H', ⟨by have := HJ11.out; have := HK2.out; have := HK3.out; have := HK4.out; omega⟩, ⟨by (with_reducible repeat (first | refine blk_drewN ?_ _ | refine blk_drew ?_ | refine blk_alloc ?_ _)); exact BK341.out⟩, ⟨by (with_reducible repeat (first | refine blk_drewN ?_ _ | refine blk_drew ?_ | refine blk_alloc ?_ _)); exact BK344.out⟩, ⟨by repeat (first | (with_reducible first | exact HB.out | apply below_alloc | apply pw_below_drewN | apply below_drew1 | refine below_set ?_ GE341.out | refine below_set ?_ GE344.out) | exact HB.out)⟩⟩
                        · rw [if_neg c60] at H
                          have c60b0 : ((Int.tmod (wrap64 (x21_3 - t343)) t342) == 0) = false := beq_eq_false_iff_ne.mpr c60
                          have c60b1 : ((Int.tmod (wrap64 (x21_3 - t343)) t342) != 0) = true := bne_iff_ne.mpr c60
                          have H' := Aside0.mk H
                          clear H
                          have hnb117 := NB344_341.out
                          have hnc117 := NB341_344.out
                          have hcz118_0 : wr.cell? ⟨gb344, 0, none⟩ = some (.int .i64 t342) := (blk_cell BK344.out 0).trans rfl
                          have hcz118_1 : wr.cell? ⟨gb344, 1, none⟩ = some (.int .i64 t343) := (blk_cell BK344.out 1).trans rfl
                          have hfz118_0 := blk_frozen BK344.out 0
                          have hfz118_1 := blk_frozen BK344.out 1
                          go_wp2
                          go_roundg k3
                          case measure => have := HJ11.out; have := HK2.out; have := HK3.out; omega
                          case rel => exact ⟨(x20_3), (wrap64 (x21_3 + 1)), (by first | rfl | (simp; done) | (simp [*]; done)), (by first | rfl | (simp; done) | (simp [*]; done)), H', ⟨by have := HJ11.out; have := HK2.out; have := HK3.out; omega⟩, ⟨by (with_reducible repeat (first | refine blk_drewN ?_ _ | refine blk_drew ?_ | refine blk_alloc ?_ _)); exact BK341.out⟩, ⟨by (with_reducible repeat (first | refine blk_drewN ?_ _ | refine blk_drew ?_ | refine blk_alloc ?_ _)); exact BK344.out⟩, ⟨by repeat (first | (with_reducible first | exact HB.out | apply below_alloc | apply pw_below_drewN | apply below_drew1 | refine below_set ?_ GE341.out | refine below_set ?_ GE344.out) | exact HB.out)⟩⟩
                    · rw [if_neg c58] at H
                      have c58b0 : decide (x21_3 < (wrap64 (60 + t350))) = false := decide_eq_false c58
                      clear c58
                      by_cases c119 : x16_2 = t345
                      · rw [if_pos c119] at H
                        have c119b0 : (x16_2 == t345) = true := beq_iff_eq.mpr c119
                        have c119b1 : (x16_2 != t345) = false := bne_eq_false_iff_eq.mpr c119
                        clear c119
                        obtain rfl := Option.some.inj H
                        go_wp2
                        go_ret
                        exact ⟨by first | rfl | (simp [errW_none, errW_some] <;> rfl) | (simp [*, errW_none, errW_some] <;> rfl), by repeat (first | (with_reducible first | exact HB.out | apply below_alloc | apply pw_below_drewN | apply below_drew1 | refine below_set ?_ GE341.out | refine below_set ?_ GE344.out) | exact HB.out)⟩
                      · rw [if_neg c119] at H
                        have c119b0 : (x16_2 == t345) = false := beq_eq_false_iff_ne.mpr c119
                        have c119b1 : (x16_2 != t345) = true := bne_iff_ne.mpr c119
                        obtain rfl := Option.some.inj H
                        go_wp2
                        go_ret
                        exact ⟨by first | rfl | (simp [errW_none, errW_some] <;> rfl) | (simp [*, errW_none, errW_some] <;> rfl), by repeat (first | (with_reducible first | exact HB.out | apply below_alloc | apply pw_below_drewN | apply below_drew1 | refine below_set ?_ GE341.out | refine below_set ?_ GE344.out) | exact HB.out)⟩

/-- THE ONE PURE STATEMENT of laws_FnWaits: yours. -/
def laws_FnWaits.Pure : Prop := ∀ (l0 : List Int) (l1 : List Int), l0.length ≤ maxLen → l0.length * 1 ≤ 140737488351232 → (∀ x ∈ l0, (Lit.int .u8 x).wf = true) → l1.length ≤ maxLen → l1.length * 1 ≤ 140737488351232 → (∀ x ∈ l1, (Lit.int .u8 x).wf = true) → ∃ k, laws_FnWaits.f k l0 l1 = some true
theorem laws_FnWaits.walk (P : laws_FnWaits.Pure) (a0 : Option Addr) (len0 cap0 : Nat) (z0 : List Int) (a1 : Option Addr) (len1 cap1 : Nat) (z1 : List Int) (w : World) (w0 : (a0 = none ∧ len0 = 0 ∧ cap0 = 0 ∧ z0 = []) ∨ ∃ x, a0 = some x ∧ len0 ≤ cap0 ∧ cap0 ≤ maxLen ∧ z0.length = cap0 ∧ (∀ i, i < z0.length → w.cell? (x.add i) = some (.int .u8 (z0.getD i 0))) ∧ ∀ n ∈ z0, (Lit.int .u8 n).wf = true) (y0 : len0 * 1 ≤ 140737488351232) (w1 : (a1 = none ∧ len1 = 0 ∧ cap1 = 0 ∧ z1 = []) ∨ ∃ x, a1 = some x ∧ len1 ≤ cap1 ∧ cap1 ≤ maxLen ∧ z1.length = cap1 ∧ (∀ i, i < z1.length → w.cell? (x.add i) = some (.int .u8 (z1.getD i 0))) ∧ ∀ n ∈ z1, (Lit.int .u8 n).wf = true) (y1 : len1 * 1 ≤ 140737488351232) :
    Calls Try.prog 7 #[.slice a0 len0 cap0, .slice a1 len1 cap1] w fun e w' => e = .returned (.bool true) ∧ Below w.heap.size w w' := by
  obtain ⟨l0, rfl, hr0, hm0, hw0, hc0⟩ := ReadsInt.ofRowC w0
  obtain ⟨l1, rfl, hr1, hm1, hw1, hc1⟩ := ReadsInt.ofRowC w1
  obtain ⟨k, h⟩ := P l0 l1 hm0 y0 hw0 hm1 y1 hw1
  refine (laws_FnWaits.calls k _ _ l0 _ _ l1 true w (Kd.C_of_reads (d := (0 : Int)) (h1 := fun _ => rfl) hr0) hc0 (Kd.C_of_reads (d := (0 : Int)) (h1 := fun _ => rfl) hr1) hc1 h).mono ?_
  rintro e w' ⟨rfl, hd⟩
  exact ⟨rfl, hd⟩

end Go.Proofs.Ytfoedfigjcmjbaa.A
