-- Printed by this session's oprint.py through the kit's printer.
import Derived.Test.YtfoedfigjcmjbaaA0
import Derived.Test.YtfoedfigjcmjbaaA16
import Derived.Test.YtfoedfigjcmjbaaA17
import Derived.Test.YtfoedfigjcmjbaaA22
import Derived.Test.YtfoedfigjcmjbaaA31
import Derived.Test.YtfoedfigjcmjbaaA36
import Derived.Test.YtfoedfigjcmjbaaA37
namespace Go.Proofs.Ytfoedfigjcmjbaa.A
open Go.RowKit Go.Proofs.YtfoedfigjcmjbaaW.PrintWords Go.Proofs.YtfoedfigjcmjbaaW.PrintLast Go.Proofs.YtfoedfigjcmjbaaW.PrintMore
attribute [local go_sem] max2_int min2_int max_two min_two max_three min_three max_four min_four   -- for this text's walks alone
set_option linter.unusedVariables false
set_option linter.unusedSimpArgs false

/-! ### laws_FnMeetings: function 9 -/
mutual
def laws_FnMeetings.j0 : Nat → Int → Bool → Int → Int → Bool → Int → Int → Int → Int → Option (Bool)
  | 0, _, _, _, _, _, _, _, _, _ => none
  | k + 1, x8, x9, x10, x12, x86, x414000, x414001, x417000, x417001 => if x86 = true then (some false) else (laws_FnMeetings.l0 k x8 x9 x10 x12 1000 0 x414000 x414001 x417000 x417001)
def laws_FnMeetings.l0 : Nat → Int → Bool → Int → Int → Int → Int → Int → Int → Int → Int → Option (Bool)
  | 0, _, _, _, _, _, _, _, _, _, _ => none
  | k + 1, x8, x9, x10, x12, x14, x15, x414000, x414001, x417000, x417001 => if x15 < 900 then (if x15 ≥ x414001 then (if x414000 = 0 then (none) else (laws_FnMeetings.j2 k x8 x9 x10 x12 x14 x15 ((Int.tmod (wrap64 (x15 - x414001)) x414000) == 0) x414000 x414001 x417000 x417001)) else (laws_FnMeetings.j2 k x8 x9 x10 x12 x14 x15 false x414000 x414001 x417000 x417001)) else (some (x14 == x12))
def laws_FnMeetings.j2 : Nat → Int → Bool → Int → Int → Int → Int → Bool → Int → Int → Int → Int → Option (Bool)
  | 0, _, _, _, _, _, _, _, _, _, _, _ => none
  | k + 1, x8, x9, x10, x12, x14, x15, x16, x414000, x414001, x417000, x417001 => if x15 ≥ x417001 then (if x417000 = 0 then (none) else (laws_FnMeetings.j3 k x8 x9 x10 x12 x14 x15 x16 ((Int.tmod (wrap64 (x15 - x417001)) x417000) == 0) x414000 x414001 x417000 x417001)) else (laws_FnMeetings.j3 k x8 x9 x10 x12 x14 x15 x16 false x414000 x414001 x417000 x417001)
def laws_FnMeetings.j3 : Nat → Int → Bool → Int → Int → Int → Int → Bool → Bool → Int → Int → Int → Int → Option (Bool)
  | 0, _, _, _, _, _, _, _, _, _, _, _, _ => none
  | k + 1, x8, x9, x10, x12, x14, x15, x16, x17, x414000, x414001, x417000, x417001 => if x16 = true then (if x17 = true then (if x9 = true then (if x15 < x8 then (laws_FnMeetings.j4 k x8 x9 x10 x12 x14 x15 x16 x17 true x414000 x414001 x417000 x417001) else (if x10 = 0 then (none) else (laws_FnMeetings.j4 k x8 x9 x10 x12 x14 x15 x16 x17 ((Int.tmod (wrap64 (x15 - x8)) x10) != 0) x414000 x414001 x417000 x417001))) else (laws_FnMeetings.j4 k x8 x9 x10 x12 x14 x15 x16 x17 true x414000 x414001 x417000 x417001)) else (laws_FnMeetings.j4 k x8 x9 x10 x12 x14 x15 x16 x17 false x414000 x414001 x417000 x417001)) else (laws_FnMeetings.j4 k x8 x9 x10 x12 x14 x15 x16 x17 false x414000 x414001 x417000 x417001)
def laws_FnMeetings.j4 : Nat → Int → Bool → Int → Int → Int → Int → Bool → Bool → Bool → Int → Int → Int → Int → Option (Bool)
  | 0, _, _, _, _, _, _, _, _, _, _, _, _, _ => none
  | k + 1, x8, x9, x10, x12, x14, x15, x16, x17, x139, x414000, x414001, x417000, x417001 => if x139 = true then (some false) else (if x9 = true then (if x10 = 0 then (none) else (if (Int.tmod (wrap64 (x15 - x8)) x10) = 0 then (if x15 ≥ x8 then (if x16 = true then (laws_FnMeetings.j5 k x8 x9 x10 x12 x14 x15 x16 x17 (!x17) x414000 x414001 x417000 x417001) else (laws_FnMeetings.j5 k x8 x9 x10 x12 x14 x15 x16 x17 (!false) x414000 x414001 x417000 x417001)) else (laws_FnMeetings.j5 k x8 x9 x10 x12 x14 x15 x16 x17 false x414000 x414001 x417000 x417001)) else (laws_FnMeetings.j5 k x8 x9 x10 x12 x14 x15 x16 x17 false x414000 x414001 x417000 x417001))) else (laws_FnMeetings.j5 k x8 x9 x10 x12 x14 x15 x16 x17 false x414000 x414001 x417000 x417001))
def laws_FnMeetings.j5 : Nat → Int → Bool → Int → Int → Int → Int → Bool → Bool → Bool → Int → Int → Int → Int → Option (Bool)
  | 0, _, _, _, _, _, _, _, _, _, _, _, _, _ => none
  | k + 1, x8, x9, x10, x12, x14, x15, x16, x17, x160, x414000, x414001, x417000, x417001 => if x160 = true then (some false) else (if x16 = true then ((impl_NextEdge.f x417000 x417001 x15).bind fun bt426 => (if bt426.2 = true then (if (wrap64 (bt426.1 - x15)) < x14 then (laws_FnMeetings.j6 k x8 x9 x10 x12 (wrap64 (bt426.1 - x15)) x15 x17 x414000 x414001 x417000 x417001) else (laws_FnMeetings.j6 k x8 x9 x10 x12 x14 x15 x17 x414000 x414001 x417000 x417001)) else (some false))) else (laws_FnMeetings.j6 k x8 x9 x10 x12 x14 x15 x17 x414000 x414001 x417000 x417001))
def laws_FnMeetings.j6 : Nat → Int → Bool → Int → Int → Int → Int → Bool → Int → Int → Int → Int → Option (Bool)
  | 0, _, _, _, _, _, _, _, _, _, _, _ => none
  | k + 1, x8, x9, x10, x12, x14, x15, x17, x414000, x414001, x417000, x417001 => if x17 = true then ((impl_NextEdge.f x414000 x414001 x15).bind fun bt428 => (if bt428.2 = true then (if (wrap64 (bt428.1 - x15)) < x14 then (laws_FnMeetings.l0 k x8 x9 x10 x12 (wrap64 (bt428.1 - x15)) (wrap64 (x15 + 1)) x414000 x414001 x417000 x417001) else (laws_FnMeetings.l0 k x8 x9 x10 x12 x14 (wrap64 (x15 + 1)) x414000 x414001 x417000 x417001)) else (some false))) else (laws_FnMeetings.l0 k x8 x9 x10 x12 x14 (wrap64 (x15 + 1)) x414000 x414001 x417000 x417001)
end
def laws_FnMeetings.f (k : Nat) (l0 : List Int) (l1 : List Int) : Option (Bool) := (laws_r8Long.f l0 l1).bind fun t410 => (if t410 = true then (some true) else ((spec_R8Clock.f l0).bind fun bt411 => ((spec_R8Clock.f l1).bind fun bt414 => ((some (([(⟨bt411.1, bt411.2⟩ : S31), (⟨bt414.1, bt414.2⟩ : S31)] : List (S31)) : List (S31))).bind fun y417 => ((impl_FirstMeeting.f k y417).bind fun bt420 => ((impl_CommonPeriod.f k y417).bind fun bt422 => ((impl_LeastGap.f k bt411.1 bt411.2 bt414.1 bt414.2).bind fun bt424 => (if bt422.2 = true then (if bt424.2 = true then (if (bt420.2 != (bt424.1 == 0)) = true then (laws_FnMeetings.j0 k bt420.1 bt420.2 bt422.1 bt424.1 true bt411.1 bt411.2 bt414.1 bt414.2) else (if bt411.1 = 0 then (none) else (if (Int.tmod bt422.1 bt411.1) = 0 then (if bt414.1 = 0 then (none) else (if (Int.tmod bt422.1 bt414.1) = 0 then (if bt422.1 < 1 then (laws_FnMeetings.j0 k bt420.1 bt420.2 bt422.1 bt424.1 true bt411.1 bt411.2 bt414.1 bt414.2) else (laws_FnMeetings.j0 k bt420.1 bt420.2 bt422.1 bt424.1 (decide (bt422.1 > (wrap64 (bt411.1 * bt414.1)))) bt411.1 bt411.2 bt414.1 bt414.2)) else (laws_FnMeetings.j0 k bt420.1 bt420.2 bt422.1 bt424.1 true bt411.1 bt411.2 bt414.1 bt414.2))) else (laws_FnMeetings.j0 k bt420.1 bt420.2 bt422.1 bt424.1 true bt411.1 bt411.2 bt414.1 bt414.2)))) else (laws_FnMeetings.j0 k bt420.1 bt420.2 bt422.1 bt424.1 true bt411.1 bt411.2 bt414.1 bt414.2)) else (laws_FnMeetings.j0 k bt420.1 bt420.2 bt422.1 bt424.1 true bt411.1 bt411.2 bt414.1 bt414.2)))))))))
theorem laws_FnMeetings.mono_l : ∀ k, (∀ y0 y1 y2 y3 y4 y5 y6 y7 y8, LeO (laws_FnMeetings.j0 k y0 y1 y2 y3 y4 y5 y6 y7 y8) (laws_FnMeetings.j0 (k + 1) y0 y1 y2 y3 y4 y5 y6 y7 y8)) ∧ (∀ y0 y1 y2 y3 y4 y5 y6 y7 y8 y9, LeO (laws_FnMeetings.l0 k y0 y1 y2 y3 y4 y5 y6 y7 y8 y9) (laws_FnMeetings.l0 (k + 1) y0 y1 y2 y3 y4 y5 y6 y7 y8 y9)) ∧ (∀ y0 y1 y2 y3 y4 y5 y6 y7 y8 y9 y10, LeO (laws_FnMeetings.j2 k y0 y1 y2 y3 y4 y5 y6 y7 y8 y9 y10) (laws_FnMeetings.j2 (k + 1) y0 y1 y2 y3 y4 y5 y6 y7 y8 y9 y10)) ∧ (∀ y0 y1 y2 y3 y4 y5 y6 y7 y8 y9 y10 y11, LeO (laws_FnMeetings.j3 k y0 y1 y2 y3 y4 y5 y6 y7 y8 y9 y10 y11) (laws_FnMeetings.j3 (k + 1) y0 y1 y2 y3 y4 y5 y6 y7 y8 y9 y10 y11)) ∧ (∀ y0 y1 y2 y3 y4 y5 y6 y7 y8 y9 y10 y11 y12, LeO (laws_FnMeetings.j4 k y0 y1 y2 y3 y4 y5 y6 y7 y8 y9 y10 y11 y12) (laws_FnMeetings.j4 (k + 1) y0 y1 y2 y3 y4 y5 y6 y7 y8 y9 y10 y11 y12)) ∧ (∀ y0 y1 y2 y3 y4 y5 y6 y7 y8 y9 y10 y11 y12, LeO (laws_FnMeetings.j5 k y0 y1 y2 y3 y4 y5 y6 y7 y8 y9 y10 y11 y12) (laws_FnMeetings.j5 (k + 1) y0 y1 y2 y3 y4 y5 y6 y7 y8 y9 y10 y11 y12)) ∧ (∀ y0 y1 y2 y3 y4 y5 y6 y7 y8 y9 y10, LeO (laws_FnMeetings.j6 k y0 y1 y2 y3 y4 y5 y6 y7 y8 y9 y10) (laws_FnMeetings.j6 (k + 1) y0 y1 y2 y3 y4 y5 y6 y7 y8 y9 y10))
  | 0 => ⟨fun _ _ _ _ _ _ _ _ _ r h => by simp [laws_FnMeetings.j0] at h, fun _ _ _ _ _ _ _ _ _ _ r h => by simp [laws_FnMeetings.l0] at h, fun _ _ _ _ _ _ _ _ _ _ _ r h => by simp [laws_FnMeetings.j2] at h, fun _ _ _ _ _ _ _ _ _ _ _ _ r h => by simp [laws_FnMeetings.j3] at h, fun _ _ _ _ _ _ _ _ _ _ _ _ _ r h => by simp [laws_FnMeetings.j4] at h, fun _ _ _ _ _ _ _ _ _ _ _ _ _ r h => by simp [laws_FnMeetings.j5] at h, fun _ _ _ _ _ _ _ _ _ _ _ r h => by simp [laws_FnMeetings.j6] at h⟩
  | k + 1 => by
    obtain ⟨ih0, ih1, ih2, ih3, ih4, ih5, ih6⟩ := laws_FnMeetings.mono_l k
    refine ⟨?_, ?_, ?_, ?_, ?_, ?_, ?_⟩
    · intro y0 y1 y2 y3 y4 y5 y6 y7 y8
      unfold laws_FnMeetings.j0
      repeat' first
      | (with_reducible exact ih0 _ _ _ _ _ _ _ _ _)
      | (with_reducible exact ih1 _ _ _ _ _ _ _ _ _ _)
      | (with_reducible exact ih2 _ _ _ _ _ _ _ _ _ _ _)
      | (with_reducible exact ih3 _ _ _ _ _ _ _ _ _ _ _ _)
      | (with_reducible exact ih4 _ _ _ _ _ _ _ _ _ _ _ _ _)
      | (with_reducible exact ih5 _ _ _ _ _ _ _ _ _ _ _ _ _)
      | (with_reducible exact ih6 _ _ _ _ _ _ _ _ _ _ _)
      | (with_reducible exact impl_CommonPeriod.mono _ _)
      | (with_reducible exact impl_FirstMeeting.mono _ _)
      | (with_reducible exact impl_LeastGap.mono _ _ _ _ _)
      | (with_reducible exact LeO.refl _)
      | (with_reducible exact LeO.none _)
      | (with_reducible refine LeO.ite ?_ ?_)
      | (with_reducible refine LeO.bind ?_ (fun _ => ?_))
      | exact ih0 _ _ _ _ _ _ _ _ _
      | exact ih1 _ _ _ _ _ _ _ _ _ _
      | exact ih2 _ _ _ _ _ _ _ _ _ _ _
      | exact ih3 _ _ _ _ _ _ _ _ _ _ _ _
      | exact ih4 _ _ _ _ _ _ _ _ _ _ _ _ _
      | exact ih5 _ _ _ _ _ _ _ _ _ _ _ _ _
      | exact ih6 _ _ _ _ _ _ _ _ _ _ _
      | exact impl_CommonPeriod.mono _ _
      | exact impl_FirstMeeting.mono _ _
      | exact impl_LeastGap.mono _ _ _ _ _
      | exact LeO.none _
      | refine LeO.ite ?_ ?_
      | refine LeO.bind ?_ (fun _ => ?_)
    · intro y0 y1 y2 y3 y4 y5 y6 y7 y8 y9
      unfold laws_FnMeetings.l0
      repeat' first
      | (with_reducible exact ih0 _ _ _ _ _ _ _ _ _)
      | (with_reducible exact ih1 _ _ _ _ _ _ _ _ _ _)
      | (with_reducible exact ih2 _ _ _ _ _ _ _ _ _ _ _)
      | (with_reducible exact ih3 _ _ _ _ _ _ _ _ _ _ _ _)
      | (with_reducible exact ih4 _ _ _ _ _ _ _ _ _ _ _ _ _)
      | (with_reducible exact ih5 _ _ _ _ _ _ _ _ _ _ _ _ _)
      | (with_reducible exact ih6 _ _ _ _ _ _ _ _ _ _ _)
      | (with_reducible exact impl_CommonPeriod.mono _ _)
      | (with_reducible exact impl_FirstMeeting.mono _ _)
      | (with_reducible exact impl_LeastGap.mono _ _ _ _ _)
      | (with_reducible exact LeO.refl _)
      | (with_reducible exact LeO.none _)
      | (with_reducible refine LeO.ite ?_ ?_)
      | (with_reducible refine LeO.bind ?_ (fun _ => ?_))
      | exact ih0 _ _ _ _ _ _ _ _ _
      | exact ih1 _ _ _ _ _ _ _ _ _ _
      | exact ih2 _ _ _ _ _ _ _ _ _ _ _
      | exact ih3 _ _ _ _ _ _ _ _ _ _ _ _
      | exact ih4 _ _ _ _ _ _ _ _ _ _ _ _ _
      | exact ih5 _ _ _ _ _ _ _ _ _ _ _ _ _
      | exact ih6 _ _ _ _ _ _ _ _ _ _ _
      | exact impl_CommonPeriod.mono _ _
      | exact impl_FirstMeeting.mono _ _
      | exact impl_LeastGap.mono _ _ _ _ _
      | exact LeO.none _
      | refine LeO.ite ?_ ?_
      | refine LeO.bind ?_ (fun _ => ?_)
    · intro y0 y1 y2 y3 y4 y5 y6 y7 y8 y9 y10
      unfold laws_FnMeetings.j2
      repeat' first
      | (with_reducible exact ih0 _ _ _ _ _ _ _ _ _)
      | (with_reducible exact ih1 _ _ _ _ _ _ _ _ _ _)
      | (with_reducible exact ih2 _ _ _ _ _ _ _ _ _ _ _)
      | (with_reducible exact ih3 _ _ _ _ _ _ _ _ _ _ _ _)
      | (with_reducible exact ih4 _ _ _ _ _ _ _ _ _ _ _ _ _)
      | (with_reducible exact ih5 _ _ _ _ _ _ _ _ _ _ _ _ _)
      | (with_reducible exact ih6 _ _ _ _ _ _ _ _ _ _ _)
      | (with_reducible exact impl_CommonPeriod.mono _ _)
      | (with_reducible exact impl_FirstMeeting.mono _ _)
      | (with_reducible exact impl_LeastGap.mono _ _ _ _ _)
      | (with_reducible exact LeO.refl _)
      | (with_reducible exact LeO.none _)
      | (with_reducible refine LeO.ite ?_ ?_)
      | (with_reducible refine LeO.bind ?_ (fun _ => ?_))
      | exact ih0 _ _ _ _ _ _ _ _ _
      | exact ih1 _ _ _ _ _ _ _ _ _ _
      | exact ih2 _ _ _ _ _ _ _ _ _ _ _
      | exact ih3 _ _ _ _ _ _ _ _ _ _ _ _
      | exact ih4 _ _ _ _ _ _ _ _ _ _ _ _ _
      | exact ih5 _ _ _ _ _ _ _ _ _ _ _ _ _
      | exact ih6 _ _ _ _ _ _ _ _ _ _ _
      | exact impl_CommonPeriod.mono _ _
      | exact impl_FirstMeeting.mono _ _
      | exact impl_LeastGap.mono _ _ _ _ _
      | exact LeO.none _
      | refine LeO.ite ?_ ?_
      | refine LeO.bind ?_ (fun _ => ?_)
    · intro y0 y1 y2 y3 y4 y5 y6 y7 y8 y9 y10 y11
      unfold laws_FnMeetings.j3
      repeat' first
      | (with_reducible exact ih0 _ _ _ _ _ _ _ _ _)
      | (with_reducible exact ih1 _ _ _ _ _ _ _ _ _ _)
      | (with_reducible exact ih2 _ _ _ _ _ _ _ _ _ _ _)
      | (with_reducible exact ih3 _ _ _ _ _ _ _ _ _ _ _ _)
      | (with_reducible exact ih4 _ _ _ _ _ _ _ _ _ _ _ _ _)
      | (with_reducible exact ih5 _ _ _ _ _ _ _ _ _ _ _ _ _)
      | (with_reducible exact ih6 _ _ _ _ _ _ _ _ _ _ _)
      | (with_reducible exact impl_CommonPeriod.mono _ _)
      | (with_reducible exact impl_FirstMeeting.mono _ _)
      | (with_reducible exact impl_LeastGap.mono _ _ _ _ _)
      | (with_reducible exact LeO.refl _)
      | (with_reducible exact LeO.none _)
      | (with_reducible refine LeO.ite ?_ ?_)
      | (with_reducible refine LeO.bind ?_ (fun _ => ?_))
      | exact ih0 _ _ _ _ _ _ _ _ _
      | exact ih1 _ _ _ _ _ _ _ _ _ _
      | exact ih2 _ _ _ _ _ _ _ _ _ _ _
      | exact ih3 _ _ _ _ _ _ _ _ _ _ _ _
      | exact ih4 _ _ _ _ _ _ _ _ _ _ _ _ _
      | exact ih5 _ _ _ _ _ _ _ _ _ _ _ _ _
      | exact ih6 _ _ _ _ _ _ _ _ _ _ _
      | exact impl_CommonPeriod.mono _ _
      | exact impl_FirstMeeting.mono _ _
      | exact impl_LeastGap.mono _ _ _ _ _
      | exact LeO.none _
      | refine LeO.ite ?_ ?_
      | refine LeO.bind ?_ (fun _ => ?_)
    · intro y0 y1 y2 y3 y4 y5 y6 y7 y8 y9 y10 y11 y12
      unfold laws_FnMeetings.j4
      repeat' first
      | (with_reducible exact ih0 _ _ _ _ _ _ _ _ _)
      | (with_reducible exact ih1 _ _ _ _ _ _ _ _ _ _)
      | (with_reducible exact ih2 _ _ _ _ _ _ _ _ _ _ _)
      | (with_reducible exact ih3 _ _ _ _ _ _ _ _ _ _ _ _)
      | (with_reducible exact ih4 _ _ _ _ _ _ _ _ _ _ _ _ _)
      | (with_reducible exact ih5 _ _ _ _ _ _ _ _ _ _ _ _ _)
      | (with_reducible exact ih6 _ _ _ _ _ _ _ _ _ _ _)
      | (with_reducible exact impl_CommonPeriod.mono _ _)
      | (with_reducible exact impl_FirstMeeting.mono _ _)
      | (with_reducible exact impl_LeastGap.mono _ _ _ _ _)
      | (with_reducible exact LeO.refl _)
      | (with_reducible exact LeO.none _)
      | (with_reducible refine LeO.ite ?_ ?_)
      | (with_reducible refine LeO.bind ?_ (fun _ => ?_))
      | exact ih0 _ _ _ _ _ _ _ _ _
      | exact ih1 _ _ _ _ _ _ _ _ _ _
      | exact ih2 _ _ _ _ _ _ _ _ _ _ _
      | exact ih3 _ _ _ _ _ _ _ _ _ _ _ _
      | exact ih4 _ _ _ _ _ _ _ _ _ _ _ _ _
      | exact ih5 _ _ _ _ _ _ _ _ _ _ _ _ _
      | exact ih6 _ _ _ _ _ _ _ _ _ _ _
      | exact impl_CommonPeriod.mono _ _
      | exact impl_FirstMeeting.mono _ _
      | exact impl_LeastGap.mono _ _ _ _ _
      | exact LeO.none _
      | refine LeO.ite ?_ ?_
      | refine LeO.bind ?_ (fun _ => ?_)
    · intro y0 y1 y2 y3 y4 y5 y6 y7 y8 y9 y10 y11 y12
      unfold laws_FnMeetings.j5
      repeat' first
      | (with_reducible exact ih0 _ _ _ _ _ _ _ _ _)
      | (with_reducible exact ih1 _ _ _ _ _ _ _ _ _ _)
      | (with_reducible exact ih2 _ _ _ _ _ _ _ _ _ _ _)
      | (with_reducible exact ih3 _ _ _ _ _ _ _ _ _ _ _ _)
      | (with_reducible exact ih4 _ _ _ _ _ _ _ _ _ _ _ _ _)
      | (with_reducible exact ih5 _ _ _ _ _ _ _ _ _ _ _ _ _)
      | (with_reducible exact ih6 _ _ _ _ _ _ _ _ _ _ _)
      | (with_reducible exact impl_CommonPeriod.mono _ _)
      | (with_reducible exact impl_FirstMeeting.mono _ _)
      | (with_reducible exact impl_LeastGap.mono _ _ _ _ _)
      | (with_reducible exact LeO.refl _)
      | (with_reducible exact LeO.none _)
      | (with_reducible refine LeO.ite ?_ ?_)
      | (with_reducible refine LeO.bind ?_ (fun _ => ?_))
      | exact ih0 _ _ _ _ _ _ _ _ _
      | exact ih1 _ _ _ _ _ _ _ _ _ _
      | exact ih2 _ _ _ _ _ _ _ _ _ _ _
      | exact ih3 _ _ _ _ _ _ _ _ _ _ _ _
      | exact ih4 _ _ _ _ _ _ _ _ _ _ _ _ _
      | exact ih5 _ _ _ _ _ _ _ _ _ _ _ _ _
      | exact ih6 _ _ _ _ _ _ _ _ _ _ _
      | exact impl_CommonPeriod.mono _ _
      | exact impl_FirstMeeting.mono _ _
      | exact impl_LeastGap.mono _ _ _ _ _
      | exact LeO.none _
      | refine LeO.ite ?_ ?_
      | refine LeO.bind ?_ (fun _ => ?_)
    · intro y0 y1 y2 y3 y4 y5 y6 y7 y8 y9 y10
      unfold laws_FnMeetings.j6
      repeat' first
      | (with_reducible exact ih0 _ _ _ _ _ _ _ _ _)
      | (with_reducible exact ih1 _ _ _ _ _ _ _ _ _ _)
      | (with_reducible exact ih2 _ _ _ _ _ _ _ _ _ _ _)
      | (with_reducible exact ih3 _ _ _ _ _ _ _ _ _ _ _ _)
      | (with_reducible exact ih4 _ _ _ _ _ _ _ _ _ _ _ _ _)
      | (with_reducible exact ih5 _ _ _ _ _ _ _ _ _ _ _ _ _)
      | (with_reducible exact ih6 _ _ _ _ _ _ _ _ _ _ _)
      | (with_reducible exact impl_CommonPeriod.mono _ _)
      | (with_reducible exact impl_FirstMeeting.mono _ _)
      | (with_reducible exact impl_LeastGap.mono _ _ _ _ _)
      | (with_reducible exact LeO.refl _)
      | (with_reducible exact LeO.none _)
      | (with_reducible refine LeO.ite ?_ ?_)
      | (with_reducible refine LeO.bind ?_ (fun _ => ?_))
      | exact ih0 _ _ _ _ _ _ _ _ _
      | exact ih1 _ _ _ _ _ _ _ _ _ _
      | exact ih2 _ _ _ _ _ _ _ _ _ _ _
      | exact ih3 _ _ _ _ _ _ _ _ _ _ _ _
      | exact ih4 _ _ _ _ _ _ _ _ _ _ _ _ _
      | exact ih5 _ _ _ _ _ _ _ _ _ _ _ _ _
      | exact ih6 _ _ _ _ _ _ _ _ _ _ _
      | exact impl_CommonPeriod.mono _ _
      | exact impl_FirstMeeting.mono _ _
      | exact impl_LeastGap.mono _ _ _ _ _
      | exact LeO.none _
      | refine LeO.ite ?_ ?_
      | refine LeO.bind ?_ (fun _ => ?_)
theorem laws_FnMeetings.mono : ∀ a0 a1 k, LeO (laws_FnMeetings.f k a0 a1) (laws_FnMeetings.f (k + 1) a0 a1) := by
  intro a0 a1 k
  obtain ⟨ih0, ih1, ih2, ih3, ih4, ih5, ih6⟩ := laws_FnMeetings.mono_l k
  unfold laws_FnMeetings.f
  repeat' first
      | (with_reducible exact ih0 _ _ _ _ _ _ _ _ _)
      | (with_reducible exact ih1 _ _ _ _ _ _ _ _ _ _)
      | (with_reducible exact ih2 _ _ _ _ _ _ _ _ _ _ _)
      | (with_reducible exact ih3 _ _ _ _ _ _ _ _ _ _ _ _)
      | (with_reducible exact ih4 _ _ _ _ _ _ _ _ _ _ _ _ _)
      | (with_reducible exact ih5 _ _ _ _ _ _ _ _ _ _ _ _ _)
      | (with_reducible exact ih6 _ _ _ _ _ _ _ _ _ _ _)
      | (with_reducible exact impl_CommonPeriod.mono _ _)
      | (with_reducible exact impl_FirstMeeting.mono _ _)
      | (with_reducible exact impl_LeastGap.mono _ _ _ _ _)
      | (with_reducible exact LeO.refl _)
      | (with_reducible exact LeO.none _)
      | (with_reducible refine LeO.ite ?_ ?_)
      | (with_reducible refine LeO.bind ?_ (fun _ => ?_))
      | exact ih0 _ _ _ _ _ _ _ _ _
      | exact ih1 _ _ _ _ _ _ _ _ _ _
      | exact ih2 _ _ _ _ _ _ _ _ _ _ _
      | exact ih3 _ _ _ _ _ _ _ _ _ _ _ _
      | exact ih4 _ _ _ _ _ _ _ _ _ _ _ _ _
      | exact ih5 _ _ _ _ _ _ _ _ _ _ _ _ _
      | exact ih6 _ _ _ _ _ _ _ _ _ _ _
      | exact impl_CommonPeriod.mono _ _
      | exact impl_FirstMeeting.mono _ _
      | exact impl_LeastGap.mono _ _ _ _ _
      | exact LeO.none _
      | refine LeO.ite ?_ ?_
      | refine LeO.bind ?_ (fun _ => ?_)
set_option maxHeartbeats 8000000 in
set_option maxRecDepth 100000 in
theorem laws_FnMeetings.calls (k : Nat) (A0 : Option Addr) (c0 : Nat) (l0 : List Int) (A1 : Option Addr) (c1 : Nat) (l1 : List Int) (r : Bool) (w : World) (hr0 : Kd.C (Kd.int .u8) w A0 l0.length l0) (hc0 : l0.length ≤ c0) (hr1 : Kd.C (Kd.int .u8) w A1 l1.length l1) (hc1 : l1.length ≤ c1) (h : laws_FnMeetings.f k l0 l1 = some r) :
    Calls Try.prog 9 #[.slice A0 l0.length c0, .slice A1 l1.length c1] w fun e w' => e = .returned (.bool r) ∧ Below w.heap.size w w' := by
  have hu31 := Try.underlying31
  have HR0 := Aside0.mk hr0
  have HC0 := Aside0.mk hc0
  clear hr0 hc0
  have HR1 := Aside0.mk hr1
  have HC1 := Aside0.mk hc1
  clear hr1 hc1
  have HB := Aside0.mk (Below.refl w.heap.size w)
  have H : ((laws_r8Long.f l0 l1).bind fun t410 => (if t410 = true then (some true) else ((spec_R8Clock.f l0).bind fun bt411 => ((spec_R8Clock.f l1).bind fun bt414 => ((some (([(⟨bt411.1, bt411.2⟩ : S31), (⟨bt414.1, bt414.2⟩ : S31)] : List (S31)) : List (S31))).bind fun y417 => ((impl_FirstMeeting.f k y417).bind fun bt420 => ((impl_CommonPeriod.f k y417).bind fun bt422 => ((impl_LeastGap.f k bt411.1 bt411.2 bt414.1 bt414.2).bind fun bt424 => (if bt422.2 = true then (if bt424.2 = true then (if (bt420.2 != (bt424.1 == 0)) = true then (laws_FnMeetings.j0 k bt420.1 bt420.2 bt422.1 bt424.1 true bt411.1 bt411.2 bt414.1 bt414.2) else (if bt411.1 = 0 then (none) else (if (Int.tmod bt422.1 bt411.1) = 0 then (if bt414.1 = 0 then (none) else (if (Int.tmod bt422.1 bt414.1) = 0 then (if bt422.1 < 1 then (laws_FnMeetings.j0 k bt420.1 bt420.2 bt422.1 bt424.1 true bt411.1 bt411.2 bt414.1 bt414.2) else (laws_FnMeetings.j0 k bt420.1 bt420.2 bt422.1 bt424.1 (decide (bt422.1 > (wrap64 (bt411.1 * bt414.1)))) bt411.1 bt411.2 bt414.1 bt414.2)) else (laws_FnMeetings.j0 k bt420.1 bt420.2 bt422.1 bt424.1 true bt411.1 bt411.2 bt414.1 bt414.2))) else (laws_FnMeetings.j0 k bt420.1 bt420.2 bt422.1 bt424.1 true bt411.1 bt411.2 bt414.1 bt414.2)))) else (laws_FnMeetings.j0 k bt420.1 bt420.2 bt422.1 bt424.1 true bt411.1 bt411.2 bt414.1 bt414.2)) else (laws_FnMeetings.j0 k bt420.1 bt420.2 bt422.1 bt424.1 true bt411.1 bt411.2 bt414.1 bt414.2)))))))))) = some r := h
  clear h
  replace H := Option.bind_eq_some_iff.mp H
  obtain ⟨t410, A30, H⟩ := H
  replace H : (if t410 = true then (some true) else ((spec_R8Clock.f l0).bind fun bt411 => ((spec_R8Clock.f l1).bind fun bt414 => ((some (([(⟨bt411.1, bt411.2⟩ : S31), (⟨bt414.1, bt414.2⟩ : S31)] : List (S31)) : List (S31))).bind fun y417 => ((impl_FirstMeeting.f k y417).bind fun bt420 => ((impl_CommonPeriod.f k y417).bind fun bt422 => ((impl_LeastGap.f k bt411.1 bt411.2 bt414.1 bt414.2).bind fun bt424 => (if bt422.2 = true then (if bt424.2 = true then (if (bt420.2 != (bt424.1 == 0)) = true then (laws_FnMeetings.j0 k bt420.1 bt420.2 bt422.1 bt424.1 true bt411.1 bt411.2 bt414.1 bt414.2) else (if bt411.1 = 0 then (none) else (if (Int.tmod bt422.1 bt411.1) = 0 then (if bt414.1 = 0 then (none) else (if (Int.tmod bt422.1 bt414.1) = 0 then (if bt422.1 < 1 then (laws_FnMeetings.j0 k bt420.1 bt420.2 bt422.1 bt424.1 true bt411.1 bt411.2 bt414.1 bt414.2) else (laws_FnMeetings.j0 k bt420.1 bt420.2 bt422.1 bt424.1 (decide (bt422.1 > (wrap64 (bt411.1 * bt414.1)))) bt411.1 bt411.2 bt414.1 bt414.2)) else (laws_FnMeetings.j0 k bt420.1 bt420.2 bt422.1 bt424.1 true bt411.1 bt411.2 bt414.1 bt414.2))) else (laws_FnMeetings.j0 k bt420.1 bt420.2 bt422.1 bt424.1 true bt411.1 bt411.2 bt414.1 bt414.2)))) else (laws_FnMeetings.j0 k bt420.1 bt420.2 bt422.1 bt424.1 true bt411.1 bt411.2 bt414.1 bt414.2)) else (laws_FnMeetings.j0 k bt420.1 bt420.2 bt422.1 bt424.1 true bt411.1 bt411.2 bt414.1 bt414.2))))))))) = some r := H
  have A3 := Aside0.mk A30
  clear A30
  by_cases c4 : t410 = true
  · subst c4
    have H1 : (some true) = some r := by rw [if_pos rfl] at H; exact H
    clear H
    have H := H1
    clear H1
    as_aux_lemma =>
      obtain rfl := Option.some.inj H
      go_enter Try.func9, Try.ntmps9
      go_wp2_with (first | ((with_reducible refine gate_callee (f := 16) rfl ?_); refine goesL_ (some 24) rfl rfl Try.func16 (by kernel_rfl) rfl #[.slice A0 l0.length c0, .slice A1 l1.length c1] rfl (by (try simp only [List.map_toArray, List.map_cons, List.map_nil]); first | done | rfl | (simp only [List.length_drop, List.length_take]; rfl)) ?_; (with_reducible refine (laws_r8Long.calls _ _ l0 _ _ l1 true _ ?side1 ?side2 ?side3 ?side4 A3.out).mono ?_); (case side1 => repeat (first | exact HR0.out | (with_reducible refine Kd.C_alloc ?_ _) | (with_reducible refine Kd.C_drewN ?_ _) | (with_reducible refine Kd.C_drew ?_))); (case side2 => exact HC0.out); (case side3 => repeat (first | exact HR1.out | (with_reducible refine Kd.C_alloc ?_ _) | (with_reducible refine Kd.C_drewN ?_ _) | (with_reducible refine Kd.C_drew ?_))); (case side4 => exact HC1.out); rintro e w' ⟨rfl, ⟨nd, rfl⟩⟩; refine ⟨_, rfl, ?_⟩))
      go_ret
      exact ⟨by first | rfl | (simp [errW_none, errW_some] <;> rfl) | (simp [*, errW_none, errW_some] <;> rfl), by repeat (first | (with_reducible first | exact HB.out | apply below_alloc | apply pw_below_drewN | apply below_drew1) | exact HB.out)⟩
  · replace c4 := Bool.eq_false_iff.mpr c4
    subst c4
    have H1 : ((spec_R8Clock.f l0).bind fun bt411 => ((spec_R8Clock.f l1).bind fun bt414 => ((some (([(⟨bt411.1, bt411.2⟩ : S31), (⟨bt414.1, bt414.2⟩ : S31)] : List (S31)) : List (S31))).bind fun y417 => ((impl_FirstMeeting.f k y417).bind fun bt420 => ((impl_CommonPeriod.f k y417).bind fun bt422 => ((impl_LeastGap.f k bt411.1 bt411.2 bt414.1 bt414.2).bind fun bt424 => (if bt422.2 = true then (if bt424.2 = true then (if (bt420.2 != (bt424.1 == 0)) = true then (laws_FnMeetings.j0 k bt420.1 bt420.2 bt422.1 bt424.1 true bt411.1 bt411.2 bt414.1 bt414.2) else (if bt411.1 = 0 then (none) else (if (Int.tmod bt422.1 bt411.1) = 0 then (if bt414.1 = 0 then (none) else (if (Int.tmod bt422.1 bt414.1) = 0 then (if bt422.1 < 1 then (laws_FnMeetings.j0 k bt420.1 bt420.2 bt422.1 bt424.1 true bt411.1 bt411.2 bt414.1 bt414.2) else (laws_FnMeetings.j0 k bt420.1 bt420.2 bt422.1 bt424.1 (decide (bt422.1 > (wrap64 (bt411.1 * bt414.1)))) bt411.1 bt411.2 bt414.1 bt414.2)) else (laws_FnMeetings.j0 k bt420.1 bt420.2 bt422.1 bt424.1 true bt411.1 bt411.2 bt414.1 bt414.2))) else (laws_FnMeetings.j0 k bt420.1 bt420.2 bt422.1 bt424.1 true bt411.1 bt411.2 bt414.1 bt414.2)))) else (laws_FnMeetings.j0 k bt420.1 bt420.2 bt422.1 bt424.1 true bt411.1 bt411.2 bt414.1 bt414.2)) else (laws_FnMeetings.j0 k bt420.1 bt420.2 bt422.1 bt424.1 true bt411.1 bt411.2 bt414.1 bt414.2)))))))) = some r := by rw [if_neg (show ¬ (false = true) by decide)] at H; exact H
    clear H
    have H := H1
    clear H1
    replace H := Option.bind_eq_some_iff.mp H
    obtain ⟨⟨t411, t412⟩, A50, H⟩ := H
    replace H : ((spec_R8Clock.f l1).bind fun bt414 => ((some (([(⟨t411, t412⟩ : S31), (⟨bt414.1, bt414.2⟩ : S31)] : List (S31)) : List (S31))).bind fun y417 => ((impl_FirstMeeting.f k y417).bind fun bt420 => ((impl_CommonPeriod.f k y417).bind fun bt422 => ((impl_LeastGap.f k t411 t412 bt414.1 bt414.2).bind fun bt424 => (if bt422.2 = true then (if bt424.2 = true then (if (bt420.2 != (bt424.1 == 0)) = true then (laws_FnMeetings.j0 k bt420.1 bt420.2 bt422.1 bt424.1 true t411 t412 bt414.1 bt414.2) else (if t411 = 0 then (none) else (if (Int.tmod bt422.1 t411) = 0 then (if bt414.1 = 0 then (none) else (if (Int.tmod bt422.1 bt414.1) = 0 then (if bt422.1 < 1 then (laws_FnMeetings.j0 k bt420.1 bt420.2 bt422.1 bt424.1 true t411 t412 bt414.1 bt414.2) else (laws_FnMeetings.j0 k bt420.1 bt420.2 bt422.1 bt424.1 (decide (bt422.1 > (wrap64 (t411 * bt414.1)))) t411 t412 bt414.1 bt414.2)) else (laws_FnMeetings.j0 k bt420.1 bt420.2 bt422.1 bt424.1 true t411 t412 bt414.1 bt414.2))) else (laws_FnMeetings.j0 k bt420.1 bt420.2 bt422.1 bt424.1 true t411 t412 bt414.1 bt414.2)))) else (laws_FnMeetings.j0 k bt420.1 bt420.2 bt422.1 bt424.1 true t411 t412 bt414.1 bt414.2)) else (laws_FnMeetings.j0 k bt420.1 bt420.2 bt422.1 bt424.1 true t411 t412 bt414.1 bt414.2))))))) = some r := H
    have A5 := Aside0.mk A50
    clear A50
    replace H := Option.bind_eq_some_iff.mp H
    obtain ⟨⟨t414, t415⟩, A60, H⟩ := H
    replace H : ((some (([(⟨t411, t412⟩ : S31), (⟨t414, t415⟩ : S31)] : List (S31)) : List (S31))).bind fun y417 => ((impl_FirstMeeting.f k y417).bind fun bt420 => ((impl_CommonPeriod.f k y417).bind fun bt422 => ((impl_LeastGap.f k t411 t412 t414 t415).bind fun bt424 => (if bt422.2 = true then (if bt424.2 = true then (if (bt420.2 != (bt424.1 == 0)) = true then (laws_FnMeetings.j0 k bt420.1 bt420.2 bt422.1 bt424.1 true t411 t412 t414 t415) else (if t411 = 0 then (none) else (if (Int.tmod bt422.1 t411) = 0 then (if t414 = 0 then (none) else (if (Int.tmod bt422.1 t414) = 0 then (if bt422.1 < 1 then (laws_FnMeetings.j0 k bt420.1 bt420.2 bt422.1 bt424.1 true t411 t412 t414 t415) else (laws_FnMeetings.j0 k bt420.1 bt420.2 bt422.1 bt424.1 (decide (bt422.1 > (wrap64 (t411 * t414)))) t411 t412 t414 t415)) else (laws_FnMeetings.j0 k bt420.1 bt420.2 bt422.1 bt424.1 true t411 t412 t414 t415))) else (laws_FnMeetings.j0 k bt420.1 bt420.2 bt422.1 bt424.1 true t411 t412 t414 t415)))) else (laws_FnMeetings.j0 k bt420.1 bt420.2 bt422.1 bt424.1 true t411 t412 t414 t415)) else (laws_FnMeetings.j0 k bt420.1 bt420.2 bt422.1 bt424.1 true t411 t412 t414 t415)))))) = some r := H
    have A6 := Aside0.mk A60
    clear A60
    obtain ⟨y417, hy417⟩ : ∃ y_ : List (S31), y_ = (([(⟨t411, t412⟩ : S31), (⟨t414, t415⟩ : S31)] : List (S31))) := ⟨_, rfl⟩
    replace H : ((impl_FirstMeeting.f k y417).bind fun bt420 => ((impl_CommonPeriod.f k y417).bind fun bt422 => ((impl_LeastGap.f k t411 t412 t414 t415).bind fun bt424 => (if bt422.2 = true then (if bt424.2 = true then (if (bt420.2 != (bt424.1 == 0)) = true then (laws_FnMeetings.j0 k bt420.1 bt420.2 bt422.1 bt424.1 true t411 t412 t414 t415) else (if t411 = 0 then (none) else (if (Int.tmod bt422.1 t411) = 0 then (if t414 = 0 then (none) else (if (Int.tmod bt422.1 t414) = 0 then (if bt422.1 < 1 then (laws_FnMeetings.j0 k bt420.1 bt420.2 bt422.1 bt424.1 true t411 t412 t414 t415) else (laws_FnMeetings.j0 k bt420.1 bt420.2 bt422.1 bt424.1 (decide (bt422.1 > (wrap64 (t411 * t414)))) t411 t412 t414 t415)) else (laws_FnMeetings.j0 k bt420.1 bt420.2 bt422.1 bt424.1 true t411 t412 t414 t415))) else (laws_FnMeetings.j0 k bt420.1 bt420.2 bt422.1 bt424.1 true t411 t412 t414 t415)))) else (laws_FnMeetings.j0 k bt420.1 bt420.2 bt422.1 bt424.1 true t411 t412 t414 t415)) else (laws_FnMeetings.j0 k bt420.1 bt420.2 bt422.1 bt424.1 true t411 t412 t414 t415))))) = some r := by first | (rw [hy417]; with_reducible exact H) | (have H2_ := (Option.bind_some _ _).symm.trans H; rw [hy417]; with_reducible exact H2_) | (have H2_ := (Option.bind_some _ _).symm.trans H; with_reducible exact H2_) | with_reducible exact H | (rw [hy417]; exact H) | exact H
    have Ny417 := Aside0.mk hy417
    clear hy417
    replace H := Option.bind_eq_some_iff.mp H
    obtain ⟨⟨t420, t421⟩, A70, H⟩ := H
    replace H : ((impl_CommonPeriod.f k y417).bind fun bt422 => ((impl_LeastGap.f k t411 t412 t414 t415).bind fun bt424 => (if bt422.2 = true then (if bt424.2 = true then (if (t421 != (bt424.1 == 0)) = true then (laws_FnMeetings.j0 k t420 t421 bt422.1 bt424.1 true t411 t412 t414 t415) else (if t411 = 0 then (none) else (if (Int.tmod bt422.1 t411) = 0 then (if t414 = 0 then (none) else (if (Int.tmod bt422.1 t414) = 0 then (if bt422.1 < 1 then (laws_FnMeetings.j0 k t420 t421 bt422.1 bt424.1 true t411 t412 t414 t415) else (laws_FnMeetings.j0 k t420 t421 bt422.1 bt424.1 (decide (bt422.1 > (wrap64 (t411 * t414)))) t411 t412 t414 t415)) else (laws_FnMeetings.j0 k t420 t421 bt422.1 bt424.1 true t411 t412 t414 t415))) else (laws_FnMeetings.j0 k t420 t421 bt422.1 bt424.1 true t411 t412 t414 t415)))) else (laws_FnMeetings.j0 k t420 t421 bt422.1 bt424.1 true t411 t412 t414 t415)) else (laws_FnMeetings.j0 k t420 t421 bt422.1 bt424.1 true t411 t412 t414 t415)))) = some r := H
    have A7 := Aside0.mk A70
    clear A70
    replace H := Option.bind_eq_some_iff.mp H
    obtain ⟨⟨t422, t423⟩, A80, H⟩ := H
    replace H : ((impl_LeastGap.f k t411 t412 t414 t415).bind fun bt424 => (if t423 = true then (if bt424.2 = true then (if (t421 != (bt424.1 == 0)) = true then (laws_FnMeetings.j0 k t420 t421 t422 bt424.1 true t411 t412 t414 t415) else (if t411 = 0 then (none) else (if (Int.tmod t422 t411) = 0 then (if t414 = 0 then (none) else (if (Int.tmod t422 t414) = 0 then (if t422 < 1 then (laws_FnMeetings.j0 k t420 t421 t422 bt424.1 true t411 t412 t414 t415) else (laws_FnMeetings.j0 k t420 t421 t422 bt424.1 (decide (t422 > (wrap64 (t411 * t414)))) t411 t412 t414 t415)) else (laws_FnMeetings.j0 k t420 t421 t422 bt424.1 true t411 t412 t414 t415))) else (laws_FnMeetings.j0 k t420 t421 t422 bt424.1 true t411 t412 t414 t415)))) else (laws_FnMeetings.j0 k t420 t421 t422 bt424.1 true t411 t412 t414 t415)) else (laws_FnMeetings.j0 k t420 t421 t422 bt424.1 true t411 t412 t414 t415))) = some r := H
    have A8 := Aside0.mk A80
    clear A80
    replace H := Option.bind_eq_some_iff.mp H
    obtain ⟨⟨t424, t425⟩, A90, H⟩ := H
    replace H : (if t423 = true then (if t425 = true then (if (t421 != (t424 == 0)) = true then (laws_FnMeetings.j0 k t420 t421 t422 t424 true t411 t412 t414 t415) else (if t411 = 0 then (none) else (if (Int.tmod t422 t411) = 0 then (if t414 = 0 then (none) else (if (Int.tmod t422 t414) = 0 then (if t422 < 1 then (laws_FnMeetings.j0 k t420 t421 t422 t424 true t411 t412 t414 t415) else (laws_FnMeetings.j0 k t420 t421 t422 t424 (decide (t422 > (wrap64 (t411 * t414)))) t411 t412 t414 t415)) else (laws_FnMeetings.j0 k t420 t421 t422 t424 true t411 t412 t414 t415))) else (laws_FnMeetings.j0 k t420 t421 t422 t424 true t411 t412 t414 t415)))) else (laws_FnMeetings.j0 k t420 t421 t422 t424 true t411 t412 t414 t415)) else (laws_FnMeetings.j0 k t420 t421 t422 t424 true t411 t412 t414 t415)) = some r := H
    have A9 := Aside0.mk A90
    clear A90
    have HC10 := Aside0.mk H
    clear H
    go_enter Try.func9, Try.ntmps9
    go_upto_region 9 with (first | ((with_reducible refine gate_callee (f := 16) rfl ?_); refine goesL_ (some 24) rfl rfl Try.func16 (by kernel_rfl) rfl #[.slice A0 l0.length c0, .slice A1 l1.length c1] rfl (by (try simp only [List.map_toArray, List.map_cons, List.map_nil]); first | done | rfl | (simp only [List.length_drop, List.length_take]; rfl)) ?_; (with_reducible refine (laws_r8Long.calls _ _ l0 _ _ l1 false _ ?side1 ?side2 ?side3 ?side4 A3.out).mono ?_); (case side1 => repeat (first | exact HR0.out | (with_reducible refine Kd.C_alloc ?_ _) | (with_reducible refine Kd.C_drewN ?_ _) | (with_reducible refine Kd.C_drew ?_))); (case side2 => exact HC0.out); (case side3 => repeat (first | exact HR1.out | (with_reducible refine Kd.C_alloc ?_ _) | (with_reducible refine Kd.C_drewN ?_ _) | (with_reducible refine Kd.C_drew ?_))); (case side4 => exact HC1.out); rintro e w' ⟨rfl, ⟨nd, rfl⟩⟩; refine ⟨_, rfl, ?_⟩) | ((with_reducible refine gate_callee (f := 17) rfl ?_); refine goesL_ (some 26) rfl rfl Try.func17 (by kernel_rfl) rfl #[.slice A0 l0.length c0] rfl (by (try simp only [List.map_toArray, List.map_cons, List.map_nil]); first | done | rfl | (simp only [List.length_drop, List.length_take]; rfl)) ?_; (with_reducible refine (spec_R8Clock.calls _ _ l0 t411 t412 _ ?side1 ?side2 A5.out).mono ?_); (case side1 => repeat (first | exact HR0.out | (with_reducible refine Kd.C_alloc ?_ _) | (with_reducible refine Kd.C_drewN ?_ _) | (with_reducible refine Kd.C_drew ?_))); (case side2 => exact HC0.out); rintro e w11 ⟨rfl, hb⟩; refine ⟨_, rfl, ?_⟩; have n0_ := Aside0.mk (below_step (by repeat (first | (with_reducible first | exact HB.out | apply below_alloc | apply pw_below_drewN | apply below_drew1) | exact HB.out)) hb); clear HB; have HB := n0_; clear n0_; (try clear hb); (try clear hb2); (try clear hk); (try clear hi)) | ((with_reducible refine gate_dst (N := 5) rfl ?_); refine box_event ?hg (N := 5) ?hd (cs := #[.int .i64 0, .int .i64 0]) (t := 31) ?hr ?_; (case hd => rfl); (case hg => rfl); (case hr => first | (go_simp; done) | (go_simp; rfl)); intro gb413 hg w12 hbox hb; have n0_ := Aside0.mk (below_step (by repeat (first | (with_reducible first | exact HB.out | apply below_alloc | apply pw_below_drewN | apply below_drew1) | exact HB.out)) hb); have n1_ := Aside0.mk (hbox); have n2_ := Aside0.mk ((by rw [hg]; exact (below_size (by repeat (first | (with_reducible first | exact HB.out | apply below_alloc | apply pw_below_drewN | apply below_drew1) | exact HB.out))) : w.heap.size ≤ gb413)); have n3_ := Aside0.mk ((by rw [hg]; exact (below_size (by repeat (first | (with_reducible first | exact HB.out | apply below_alloc | apply pw_below_drewN | apply below_drew1) | exact HB.out))) : w.heap.size ≤ gb413)); clear HB; have HB := n0_; have BK413 := n1_; have GW413 := n2_; have GE413 := n3_; clear n0_ n1_ n2_ n3_; clear hb hbox hg; have hcz13_0 : w12.cell? ⟨gb413, 0, none⟩ = some (.int .i64 0) := (blk_cell BK413.out 0).trans rfl; have hcz13_1 : w12.cell? ⟨gb413, 1, none⟩ = some (.int .i64 0) := (blk_cell BK413.out 1).trans rfl; have hfz13_0 := blk_frozen BK413.out 0; have hfz13_1 := blk_frozen BK413.out 1) | ((with_reducible refine gate_callee (f := 17) rfl ?_); refine goesL_ (some 28) rfl rfl Try.func17 (by kernel_rfl) rfl #[.slice A1 l1.length c1] rfl (by (try simp only [List.map_toArray, List.map_cons, List.map_nil]); first | done | rfl | (simp only [List.length_drop, List.length_take]; rfl)) ?_; (with_reducible refine (spec_R8Clock.calls _ _ l1 t414 t415 _ ?side1 ?side2 A6.out).mono ?_); (case side1 => exact Kd.C_below HR1.out (by repeat (first | (with_reducible first | exact HB.out | apply below_alloc | apply pw_below_drewN | apply below_drew1 | refine below_set ?_ GE413.out) | exact HB.out))); (case side2 => exact HC1.out); rintro e w14 ⟨rfl, hb⟩; refine ⟨_, rfl, ?_⟩; have n0_ := Aside0.mk (blk_below (g := gb413) (o := .cells #[.int .i64 t411, .int .i64 t412] 31 (0, 0)) (by (with_reducible repeat (first | refine blk_drewN ?_ _ | refine blk_drew ?_ | refine blk_alloc ?_ _)); refine blk_put (cs := #[.int .i64 t411, .int .i64 0]) ?_ 1 _ rfl; (with_reducible repeat (first | refine blk_drewN ?_ _ | refine blk_drew ?_ | refine blk_alloc ?_ _)); refine blk_put (cs := #[.int .i64 0, .int .i64 0]) ?_ 0 _ rfl; (with_reducible repeat (first | refine blk_drewN ?_ _ | refine blk_drew ?_ | refine blk_alloc ?_ _)); exact BK413.out) hb); have n1_ := Aside0.mk (below_step (by repeat (first | (with_reducible first | exact HB.out | apply below_alloc | apply pw_below_drewN | apply below_drew1 | refine below_set ?_ GE413.out) | exact HB.out)) hb); clear BK413; clear HB; have BK413 := n0_; have HB := n1_; clear n0_ n1_; (try clear hb); (try clear hb2); (try clear hk); (try clear hi)) | ((with_reducible refine gate_dst (N := 6) rfl ?_); refine box_event ?hg (N := 6) ?hd (cs := #[.int .i64 0, .int .i64 0]) (t := 31) ?hr ?_; (case hd => rfl); (case hg => rfl); (case hr => first | (go_simp; done) | (go_simp; rfl)); intro gb416 hg w15 hbox hb; have n0_ := Aside0.mk (blk_below (g := gb413) (o := .cells #[.int .i64 t411, .int .i64 t412] 31 (0, 0)) (by (with_reducible repeat (first | refine blk_drewN ?_ _ | refine blk_drew ?_ | refine blk_alloc ?_ _)); exact BK413.out) hb); have n1_ := Aside0.mk (below_step (by repeat (first | (with_reducible first | exact HB.out | apply below_alloc | apply pw_below_drewN | apply below_drew1 | refine below_set ?_ GE413.out) | exact HB.out)) hb); have n2_ := Aside0.mk (hbox); have n3_ := Aside0.mk ((by rw [hg]; exact (below_size (by repeat (first | (with_reducible first | exact HB.out | apply below_alloc | apply pw_below_drewN | apply below_drew1 | refine below_set ?_ GE413.out) | exact HB.out))) : w.heap.size ≤ gb416)); have n4_ := Aside0.mk ((by rw [hg]; exact (below_size (by repeat (first | (with_reducible first | exact HB.out | apply below_alloc | apply pw_below_drewN | apply below_drew1 | refine below_set ?_ GE413.out) | exact HB.out))) : w.heap.size ≤ gb416)); have n5_ := Aside0.mk ((by rw [hg]; exact Nat.ne_of_lt (blk_lt (g := gb413) (o := .cells #[.int .i64 t411, .int .i64 t412] 31 (0, 0)) (by (with_reducible repeat (first | refine blk_drewN ?_ _ | refine blk_drew ?_ | refine blk_alloc ?_ _)); exact BK413.out)) : gb413 ≠ gb416)); have n6_ := Aside0.mk ((by rw [hg]; exact Nat.ne_of_gt (blk_lt (g := gb413) (o := .cells #[.int .i64 t411, .int .i64 t412] 31 (0, 0)) (by (with_reducible repeat (first | refine blk_drewN ?_ _ | refine blk_drew ?_ | refine blk_alloc ?_ _)); exact BK413.out)) : gb416 ≠ gb413)); clear BK413; clear HB; have BK413 := n0_; have HB := n1_; have BK416 := n2_; have GW416 := n3_; have GE416 := n4_; have NB413_416 := n5_; have NB416_413 := n6_; clear n0_ n1_ n2_ n3_ n4_ n5_ n6_; clear hb hbox hg; have hnb16 := NB416_413.out; have hnc16 := NB413_416.out; have hcz17_0 : w15.cell? ⟨gb416, 0, none⟩ = some (.int .i64 0) := (blk_cell BK416.out 0).trans rfl; have hcz17_1 : w15.cell? ⟨gb416, 1, none⟩ = some (.int .i64 0) := (blk_cell BK416.out 1).trans rfl; have hfz17_0 := blk_frozen BK416.out 0; have hfz17_1 := blk_frozen BK416.out 1; have hcz18_0 : w15.cell? ⟨gb413, 0, none⟩ = some (.int .i64 t411) := (blk_cell BK413.out 0).trans rfl; have hcz18_1 : w15.cell? ⟨gb413, 1, none⟩ = some (.int .i64 t412) := (blk_cell BK413.out 1).trans rfl; have hfz18_0 := blk_frozen BK413.out 0; have hfz18_1 := blk_frozen BK413.out 1) | ((with_reducible refine gate_dst (N := 31) rfl ?_); refine Kd.R_lit k31 _ 31 ?hg (N := 31) ?hd (xs := ([(⟨t411, t412⟩ : S31), (⟨t414, t415⟩ : S31)] : List (S31))) (inner := [.int .i64 t411, .int .i64 t412, .int .i64 t414, .int .i64 t415]) (ok := fun _ => True) (okp := fun _ => True) ?hr ?hp (fun _ hk => hk) trivial (Below.refl _ _) (Nat.le_refl _) (by simp) ?_; (case hd => rfl); (case hg => rfl); (case hr => first | (go_simp; done) | (go_simp; rfl)); (case hp => exact (Reps.c2 (show Kd.M k31 _ _ _ (⟨t411, t412⟩ : S31) [.int .i64 t411, .int .i64 t412] from (k31_mkM _ _ _ (⟨t411, t412⟩ : S31) )) (Reps.c2 (show Kd.M k31 _ _ _ (⟨t414, t415⟩ : S31) [.int .i64 t414, .int .i64 t415] from (k31_mkM _ _ _ (⟨t414, t415⟩ : S31) )) (Reps.none _ _)))); intro v418 w19 ho20 hb hg_ hnew_; clear hg_ hnew_; (first | rw [← Ny417.out] at ho20 | (simp only [Int.reduceToNat] at ho20; rw [← Ny417.out] at ho20)); have n0_ := Aside0.mk (Kd.R_lower (Kd.R_newB (Kd.R_newB ho20 (g := gb413) (o := .cells #[.int .i64 t411, .int .i64 t412] 31 (0, 0)) (by (with_reducible repeat (first | refine blk_drewN ?_ _ | refine blk_drew ?_ | refine blk_alloc ?_ _)); refine blk_far ?_ NB413_416.out _; (with_reducible repeat (first | refine blk_drewN ?_ _ | refine blk_drew ?_ | refine blk_alloc ?_ _)); refine blk_far ?_ NB413_416.out _; (with_reducible repeat (first | refine blk_drewN ?_ _ | refine blk_drew ?_ | refine blk_alloc ?_ _)); exact BK413.out)) (g := gb416) (o := .cells #[.int .i64 t414, .int .i64 t415] 31 (0, 0)) (by (with_reducible repeat (first | refine blk_drewN ?_ _ | refine blk_drew ?_ | refine blk_alloc ?_ _)); refine blk_put (cs := #[.int .i64 t414, .int .i64 0]) ?_ 1 _ rfl; (with_reducible repeat (first | refine blk_drewN ?_ _ | refine blk_drew ?_ | refine blk_alloc ?_ _)); refine blk_put (cs := #[.int .i64 0, .int .i64 0]) ?_ 0 _ rfl; (with_reducible repeat (first | refine blk_drewN ?_ _ | refine blk_drew ?_ | refine blk_alloc ?_ _)); exact BK416.out)) (below_size (by repeat (first | (with_reducible first | exact HB.out | apply below_alloc | apply pw_below_drewN | apply below_drew1 | refine below_set ?_ GE413.out | refine below_set ?_ GE416.out) | exact HB.out)))); have n1_ := Aside0.mk (blk_below (g := gb413) (o := .cells #[.int .i64 t411, .int .i64 t412] 31 (0, 0)) (by (with_reducible repeat (first | refine blk_drewN ?_ _ | refine blk_drew ?_ | refine blk_alloc ?_ _)); refine blk_far ?_ NB413_416.out _; (with_reducible repeat (first | refine blk_drewN ?_ _ | refine blk_drew ?_ | refine blk_alloc ?_ _)); refine blk_far ?_ NB413_416.out _; (with_reducible repeat (first | refine blk_drewN ?_ _ | refine blk_drew ?_ | refine blk_alloc ?_ _)); exact BK413.out) hb); have n2_ := Aside0.mk (blk_below (g := gb416) (o := .cells #[.int .i64 t414, .int .i64 t415] 31 (0, 0)) (by (with_reducible repeat (first | refine blk_drewN ?_ _ | refine blk_drew ?_ | refine blk_alloc ?_ _)); refine blk_put (cs := #[.int .i64 t414, .int .i64 0]) ?_ 1 _ rfl; (with_reducible repeat (first | refine blk_drewN ?_ _ | refine blk_drew ?_ | refine blk_alloc ?_ _)); refine blk_put (cs := #[.int .i64 0, .int .i64 0]) ?_ 0 _ rfl; (with_reducible repeat (first | refine blk_drewN ?_ _ | refine blk_drew ?_ | refine blk_alloc ?_ _)); exact BK416.out) hb); have n3_ := Aside0.mk (below_step (by repeat (first | (with_reducible first | exact HB.out | apply below_alloc | apply pw_below_drewN | apply below_drew1 | refine below_set ?_ GE413.out | refine below_set ?_ GE416.out) | exact HB.out)) hb); clear BK413; clear BK416; clear HB; have HO419 := n0_; have BK413 := n1_; have BK416 := n2_; have HB := n3_; clear n0_ n1_ n2_ n3_; clear hb ho20; obtain ⟨Ao21, co21, eo21⟩ := Kd.R_slice HO419.out; subst eo21) | ((with_reducible refine gate_callee (f := 36) rfl ?_); refine goesL_ (some 34) rfl rfl Try.func36 (by kernel_rfl) rfl #[.slice Ao21 y417.length co21] rfl (by (try simp only [List.map_toArray, List.map_cons, List.map_nil]); first | done | rfl | (simp only [List.length_drop, List.length_take]; rfl)) ?_; (with_reducible refine (impl_FirstMeeting.calls k _ _ y417 t420 t421 _ ?side1 ?side2 A7.out).mono ?_); (case side1 => repeat (first | exact (Kd.R_reads' HO419.out).2.2 | (with_reducible refine Kd.C_alloc ?_ _) | (with_reducible refine Kd.C_drewN ?_ _) | (with_reducible refine Kd.C_drew ?_))); (case side2 => exact (Kd.R_reads' HO419.out).2.1); rintro e w22 ⟨rfl, hb⟩; refine ⟨_, rfl, ?_⟩; have n0_ := Aside0.mk (Kd.R_below (by (with_reducible repeat (first | apply Kd.R_alloc | apply Kd.R_drewN | apply Kd.R_drew)); exact HO419.out) hb); have n1_ := Aside0.mk (blk_below (g := gb413) (o := .cells #[.int .i64 t411, .int .i64 t412] 31 (0, 0)) (by (with_reducible repeat (first | refine blk_drewN ?_ _ | refine blk_drew ?_ | refine blk_alloc ?_ _)); exact BK413.out) hb); have n2_ := Aside0.mk (blk_below (g := gb416) (o := .cells #[.int .i64 t414, .int .i64 t415] 31 (0, 0)) (by (with_reducible repeat (first | refine blk_drewN ?_ _ | refine blk_drew ?_ | refine blk_alloc ?_ _)); exact BK416.out) hb); have n3_ := Aside0.mk (below_step (by repeat (first | (with_reducible first | exact HB.out | apply below_alloc | apply pw_below_drewN | apply below_drew1 | refine below_set ?_ GE413.out | refine below_set ?_ GE416.out) | exact HB.out)) hb); clear HO419; clear BK413; clear BK416; clear HB; have HO419 := n0_; have BK413 := n1_; have BK416 := n2_; have HB := n3_; clear n0_ n1_ n2_ n3_; (try clear hb); (try clear hb2); (try clear hk); (try clear hi)) | ((with_reducible refine gate_callee (f := 31) rfl ?_); refine goesL_ (some 39) rfl rfl Try.func31 (by kernel_rfl) rfl #[.slice Ao21 y417.length co21] rfl (by (try simp only [List.map_toArray, List.map_cons, List.map_nil]); first | done | rfl | (simp only [List.length_drop, List.length_take]; rfl)) ?_; (with_reducible refine (impl_CommonPeriod.calls k _ _ y417 t422 t423 _ ?side1 ?side2 A8.out).mono ?_); (case side1 => repeat (first | exact (Kd.R_reads' HO419.out).2.2 | (with_reducible refine Kd.C_alloc ?_ _) | (with_reducible refine Kd.C_drewN ?_ _) | (with_reducible refine Kd.C_drew ?_))); (case side2 => exact (Kd.R_reads' HO419.out).2.1); rintro e w23 ⟨rfl, hb⟩; refine ⟨_, rfl, ?_⟩; have n0_ := Aside0.mk (Kd.R_below (by (with_reducible repeat (first | apply Kd.R_alloc | apply Kd.R_drewN | apply Kd.R_drew)); exact HO419.out) hb); have n1_ := Aside0.mk (blk_below (g := gb413) (o := .cells #[.int .i64 t411, .int .i64 t412] 31 (0, 0)) (by (with_reducible repeat (first | refine blk_drewN ?_ _ | refine blk_drew ?_ | refine blk_alloc ?_ _)); exact BK413.out) hb); have n2_ := Aside0.mk (blk_below (g := gb416) (o := .cells #[.int .i64 t414, .int .i64 t415] 31 (0, 0)) (by (with_reducible repeat (first | refine blk_drewN ?_ _ | refine blk_drew ?_ | refine blk_alloc ?_ _)); exact BK416.out) hb); have n3_ := Aside0.mk (below_step (by repeat (first | (with_reducible first | exact HB.out | apply below_alloc | apply pw_below_drewN | apply below_drew1 | refine below_set ?_ GE413.out | refine below_set ?_ GE416.out) | exact HB.out)) hb); clear HO419; clear BK413; clear BK416; clear HB; have HO419 := n0_; have BK413 := n1_; have BK416 := n2_; have HB := n3_; clear n0_ n1_ n2_ n3_; (try clear hb); (try clear hb2); (try clear hk); (try clear hi); have hcz24_0 : w23.cell? ⟨gb413, 0, none⟩ = some (.int .i64 t411) := (blk_cell BK413.out 0).trans rfl; have hcz24_1 : w23.cell? ⟨gb413, 1, none⟩ = some (.int .i64 t412) := (blk_cell BK413.out 1).trans rfl; have hfz24_0 := blk_frozen BK413.out 0; have hfz24_1 := blk_frozen BK413.out 1; have hcz25_0 : w23.cell? ⟨gb416, 0, none⟩ = some (.int .i64 t414) := (blk_cell BK416.out 0).trans rfl; have hcz25_1 : w23.cell? ⟨gb416, 1, none⟩ = some (.int .i64 t415) := (blk_cell BK416.out 1).trans rfl; have hfz25_0 := blk_frozen BK416.out 0; have hfz25_1 := blk_frozen BK416.out 1) | ((with_reducible refine gate_callee (f := 37) rfl ?_); refine goesL_ (some 45) rfl rfl Try.func37 (by kernel_rfl) rfl #[.agg #[.int .i64 t411, .int .i64 t412], .agg #[.int .i64 t414, .int .i64 t415]] rfl (by (try simp only [List.map_toArray, List.map_cons, List.map_nil]); first | done | rfl | (simp only [List.length_drop, List.length_take]; rfl)) ?_; (with_reducible refine (impl_LeastGap.calls k t411 t412 t414 t415 t424 t425 _ A9.out).mono ?_); rintro e w26 ⟨rfl, hb⟩; refine ⟨_, rfl, ?_⟩; have n0_ := Aside0.mk (Kd.R_below (by (with_reducible repeat (first | apply Kd.R_alloc | apply Kd.R_drewN | apply Kd.R_drew)); exact HO419.out) hb); have n1_ := Aside0.mk (blk_below (g := gb413) (o := .cells #[.int .i64 t411, .int .i64 t412] 31 (0, 0)) (by (with_reducible repeat (first | refine blk_drewN ?_ _ | refine blk_drew ?_ | refine blk_alloc ?_ _)); exact BK413.out) hb); have n2_ := Aside0.mk (blk_below (g := gb416) (o := .cells #[.int .i64 t414, .int .i64 t415] 31 (0, 0)) (by (with_reducible repeat (first | refine blk_drewN ?_ _ | refine blk_drew ?_ | refine blk_alloc ?_ _)); exact BK416.out) hb); have n3_ := Aside0.mk (below_step (by repeat (first | (with_reducible first | exact HB.out | apply below_alloc | apply pw_below_drewN | apply below_drew1 | refine below_set ?_ GE413.out | refine below_set ?_ GE416.out) | exact HB.out)) hb); clear HO419; clear BK413; clear BK416; clear HB; have HO419 := n0_; have BK413 := n1_; have BK416 := n2_; have HB := n3_; clear n0_ n1_ n2_ n3_; (try clear hb); (try clear hb2); (try clear hk); (try clear hi)))
    (try simp only [Act.put, List.setIfInBounds_toArray, List.set_cons_zero, List.set_cons_succ])
    go_cut [86] (fun v86 wc => ∃ (kq : Nat) (x86_9 : Bool), v86 = .bool x86_9 ∧ Aside0 (laws_FnMeetings.j0 kq t420 t421 t422 t424 x86_9 t411 t412 t414 t415 = some r) ∧ Aside0 (kq ≤ k) ∧ Aside0 (wc.heap[gb413]? = some (.cells #[.int .i64 t411, .int .i64 t412] 31 (0, 0))) ∧ Aside0 (wc.heap[gb416]? = some (.cells #[.int .i64 t414, .int .i64 t415] 31 (0, 0))) ∧ Aside0 (Below w.heap.size w wc))
    case first =>
      have H := HC10.out
      clear HC10
      by_cases c27 : t423 = true
      · subst c27
        have H1 : (if t425 = true then (if (t421 != (t424 == 0)) = true then (laws_FnMeetings.j0 k t420 t421 t422 t424 true t411 t412 t414 t415) else (if t411 = 0 then (none) else (if (Int.tmod t422 t411) = 0 then (if t414 = 0 then (none) else (if (Int.tmod t422 t414) = 0 then (if t422 < 1 then (laws_FnMeetings.j0 k t420 t421 t422 t424 true t411 t412 t414 t415) else (laws_FnMeetings.j0 k t420 t421 t422 t424 (decide (t422 > (wrap64 (t411 * t414)))) t411 t412 t414 t415)) else (laws_FnMeetings.j0 k t420 t421 t422 t424 true t411 t412 t414 t415))) else (laws_FnMeetings.j0 k t420 t421 t422 t424 true t411 t412 t414 t415)))) else (laws_FnMeetings.j0 k t420 t421 t422 t424 true t411 t412 t414 t415)) = some r := by rw [if_pos rfl] at H; exact H
        clear H
        have H := H1
        clear H1
        by_cases c28 : t425 = true
        · subst c28
          have H1 : (if (t421 != (t424 == 0)) = true then (laws_FnMeetings.j0 k t420 t421 t422 t424 true t411 t412 t414 t415) else (if t411 = 0 then (none) else (if (Int.tmod t422 t411) = 0 then (if t414 = 0 then (none) else (if (Int.tmod t422 t414) = 0 then (if t422 < 1 then (laws_FnMeetings.j0 k t420 t421 t422 t424 true t411 t412 t414 t415) else (laws_FnMeetings.j0 k t420 t421 t422 t424 (decide (t422 > (wrap64 (t411 * t414)))) t411 t412 t414 t415)) else (laws_FnMeetings.j0 k t420 t421 t422 t424 true t411 t412 t414 t415))) else (laws_FnMeetings.j0 k t420 t421 t422 t424 true t411 t412 t414 t415)))) = some r := by rw [if_pos rfl] at H; exact H
          clear H
          have H := H1
          clear H1
          by_cases c29 : (t421 != (t424 == 0)) = true
          · rw [if_pos c29] at H
            have c29b0 : (t421 != (t424 == 0)) = true := c29
            (try (have c29b1 : decide (t421 = (t424 == 0)) = false := by simpa using c29))
            (try (have c29b2 : (t421 == (t424 == 0)) = false := by simpa using c29))
            (try (have c29b3 : ¬ (t421 = (t424 == 0)) := by simpa using c29))
            clear c29
            (first | rw [c29b0] | (simp only [i64_w, i32_w]; rw [c29b0]) | skip)
            as_aux_lemma =>
              have H' := Aside0.mk H
              clear H
              go_wp2
              go_meet
              case rel => exact ⟨_, (true), (by first | rfl | (simp; done) | (simp [*]; done)), H', ⟨by first | omega | exact Nat.le_refl _⟩, ⟨by (with_reducible repeat (first | refine blk_drewN ?_ _ | refine blk_drew ?_ | refine blk_alloc ?_ _)); exact BK413.out⟩, ⟨by (with_reducible repeat (first | refine blk_drewN ?_ _ | refine blk_drew ?_ | refine blk_alloc ?_ _)); exact BK416.out⟩, ⟨by repeat (first | (with_reducible first | exact HB.out | apply below_alloc | apply pw_below_drewN | apply below_drew1 | refine below_set ?_ GE413.out | refine below_set ?_ GE416.out) | exact HB.out)⟩⟩
          · rw [if_neg c29] at H
            have c29b0 : (t421 != (t424 == 0)) = false := by simpa using c29
            (try (have c29b1 : decide (t421 = (t424 == 0)) = true := by simpa using c29))
            (try (have c29b2 : (t421 == (t424 == 0)) = true := by simpa using c29))
            clear c29
            (first | rw [c29b0] | (simp only [i64_w, i32_w]; rw [c29b0]) | skip)
            by_cases c30 : t411 = 0
            · rw [if_pos c30] at H
              exact absurd H (by simp)
            · rw [if_neg c30] at H
              have c30b0 : (t411 == 0) = false := beq_eq_false_iff_ne.mpr c30
              have c30b1 : (t411 != 0) = true := bne_iff_ne.mpr c30
              by_cases c31 : (Int.tmod t422 t411) = 0
              · rw [if_pos c31] at H
                have c31b0 : ((Int.tmod t422 t411) == 0) = true := beq_iff_eq.mpr c31
                have c31b1 : ((Int.tmod t422 t411) != 0) = false := bne_eq_false_iff_eq.mpr c31
                clear c31
                by_cases c32 : t414 = 0
                · rw [if_pos c32] at H
                  exact absurd H (by simp)
                · rw [if_neg c32] at H
                  have c32b0 : (t414 == 0) = false := beq_eq_false_iff_ne.mpr c32
                  have c32b1 : (t414 != 0) = true := bne_iff_ne.mpr c32
                  by_cases c33 : (Int.tmod t422 t414) = 0
                  · rw [if_pos c33] at H
                    have c33b0 : ((Int.tmod t422 t414) == 0) = true := beq_iff_eq.mpr c33
                    have c33b1 : ((Int.tmod t422 t414) != 0) = false := bne_eq_false_iff_eq.mpr c33
                    clear c33
                    by_cases c34 : t422 < 1
                    · rw [if_pos c34] at H
                      have c34b0 : decide (t422 < 1) = true := decide_eq_true c34
                      clear c34
                      as_aux_lemma =>
                        have H' := Aside0.mk H
                        clear H
                        have hnb35 := NB413_416.out
                        have hnc35 := NB416_413.out
                        have hcz36_0 : w26.cell? ⟨gb413, 0, none⟩ = some (.int .i64 t411) := (blk_cell BK413.out 0).trans rfl
                        have hcz36_1 : w26.cell? ⟨gb413, 1, none⟩ = some (.int .i64 t412) := (blk_cell BK413.out 1).trans rfl
                        have hfz36_0 := blk_frozen BK413.out 0
                        have hfz36_1 := blk_frozen BK413.out 1
                        have hcz37_0 : w26.cell? ⟨gb416, 0, none⟩ = some (.int .i64 t414) := (blk_cell BK416.out 0).trans rfl
                        have hcz37_1 : w26.cell? ⟨gb416, 1, none⟩ = some (.int .i64 t415) := (blk_cell BK416.out 1).trans rfl
                        have hfz37_0 := blk_frozen BK416.out 0
                        have hfz37_1 := blk_frozen BK416.out 1
                        go_wp2
                        go_meet
                        case rel => exact ⟨_, (true), (by first | rfl | (simp; done) | (simp [*]; done)), H', ⟨by first | omega | exact Nat.le_refl _⟩, ⟨by (with_reducible repeat (first | refine blk_drewN ?_ _ | refine blk_drew ?_ | refine blk_alloc ?_ _)); exact BK413.out⟩, ⟨by (with_reducible repeat (first | refine blk_drewN ?_ _ | refine blk_drew ?_ | refine blk_alloc ?_ _)); exact BK416.out⟩, ⟨by repeat (first | (with_reducible first | exact HB.out | apply below_alloc | apply pw_below_drewN | apply below_drew1 | refine below_set ?_ GE413.out | refine below_set ?_ GE416.out) | exact HB.out)⟩⟩
                    · rw [if_neg c34] at H
                      have c34b0 : decide (t422 < 1) = false := decide_eq_false c34
                      clear c34
                      as_aux_lemma =>
                        have H' := Aside0.mk H
                        clear H
                        have hnb38 := NB413_416.out
                        have hnc38 := NB416_413.out
                        have hcz39_0 : w26.cell? ⟨gb413, 0, none⟩ = some (.int .i64 t411) := (blk_cell BK413.out 0).trans rfl
                        have hcz39_1 : w26.cell? ⟨gb413, 1, none⟩ = some (.int .i64 t412) := (blk_cell BK413.out 1).trans rfl
                        have hfz39_0 := blk_frozen BK413.out 0
                        have hfz39_1 := blk_frozen BK413.out 1
                        have hcz40_0 : w26.cell? ⟨gb416, 0, none⟩ = some (.int .i64 t414) := (blk_cell BK416.out 0).trans rfl
                        have hcz40_1 : w26.cell? ⟨gb416, 1, none⟩ = some (.int .i64 t415) := (blk_cell BK416.out 1).trans rfl
                        have hfz40_0 := blk_frozen BK416.out 0
                        have hfz40_1 := blk_frozen BK416.out 1
                        go_wp2
                        go_meet
                        case rel => exact ⟨_, (decide (t422 > (wrap64 (t411 * t414)))), (by first | rfl | (simp; done) | (simp [*]; done)), H', ⟨by first | omega | exact Nat.le_refl _⟩, ⟨by (with_reducible repeat (first | refine blk_drewN ?_ _ | refine blk_drew ?_ | refine blk_alloc ?_ _)); exact BK413.out⟩, ⟨by (with_reducible repeat (first | refine blk_drewN ?_ _ | refine blk_drew ?_ | refine blk_alloc ?_ _)); exact BK416.out⟩, ⟨by repeat (first | (with_reducible first | exact HB.out | apply below_alloc | apply pw_below_drewN | apply below_drew1 | refine below_set ?_ GE413.out | refine below_set ?_ GE416.out) | exact HB.out)⟩⟩
                  · rw [if_neg c33] at H
                    have c33b0 : ((Int.tmod t422 t414) == 0) = false := beq_eq_false_iff_ne.mpr c33
                    have c33b1 : ((Int.tmod t422 t414) != 0) = true := bne_iff_ne.mpr c33
                    as_aux_lemma =>
                      have H' := Aside0.mk H
                      clear H
                      have hnb41 := NB413_416.out
                      have hnc41 := NB416_413.out
                      have hcz42_0 : w26.cell? ⟨gb413, 0, none⟩ = some (.int .i64 t411) := (blk_cell BK413.out 0).trans rfl
                      have hcz42_1 : w26.cell? ⟨gb413, 1, none⟩ = some (.int .i64 t412) := (blk_cell BK413.out 1).trans rfl
                      have hfz42_0 := blk_frozen BK413.out 0
                      have hfz42_1 := blk_frozen BK413.out 1
                      have hcz43_0 : w26.cell? ⟨gb416, 0, none⟩ = some (.int .i64 t414) := (blk_cell BK416.out 0).trans rfl
                      have hcz43_1 : w26.cell? ⟨gb416, 1, none⟩ = some (.int .i64 t415) := (blk_cell BK416.out 1).trans rfl
                      have hfz43_0 := blk_frozen BK416.out 0
                      have hfz43_1 := blk_frozen BK416.out 1
                      go_wp2
                      go_meet
                      case rel => exact ⟨_, (true), (by first | rfl | (simp; done) | (simp [*]; done)), H', ⟨by first | omega | exact Nat.le_refl _⟩, ⟨by (with_reducible repeat (first | refine blk_drewN ?_ _ | refine blk_drew ?_ | refine blk_alloc ?_ _)); exact BK413.out⟩, ⟨by (with_reducible repeat (first | refine blk_drewN ?_ _ | refine blk_drew ?_ | refine blk_alloc ?_ _)); exact BK416.out⟩, ⟨by repeat (first | (with_reducible first | exact HB.out | apply below_alloc | apply pw_below_drewN | apply below_drew1 | refine below_set ?_ GE413.out | refine below_set ?_ GE416.out) | exact HB.out)⟩⟩
              · rw [if_neg c31] at H
                have c31b0 : ((Int.tmod t422 t411) == 0) = false := beq_eq_false_iff_ne.mpr c31
                have c31b1 : ((Int.tmod t422 t411) != 0) = true := bne_iff_ne.mpr c31
                as_aux_lemma =>
                  have H' := Aside0.mk H
                  clear H
                  have hnb44 := NB413_416.out
                  have hnc44 := NB416_413.out
                  have hcz45_0 : w26.cell? ⟨gb413, 0, none⟩ = some (.int .i64 t411) := (blk_cell BK413.out 0).trans rfl
                  have hcz45_1 : w26.cell? ⟨gb413, 1, none⟩ = some (.int .i64 t412) := (blk_cell BK413.out 1).trans rfl
                  have hfz45_0 := blk_frozen BK413.out 0
                  have hfz45_1 := blk_frozen BK413.out 1
                  go_wp2
                  go_meet
                  case rel => exact ⟨_, (true), (by first | rfl | (simp; done) | (simp [*]; done)), H', ⟨by first | omega | exact Nat.le_refl _⟩, ⟨by (with_reducible repeat (first | refine blk_drewN ?_ _ | refine blk_drew ?_ | refine blk_alloc ?_ _)); exact BK413.out⟩, ⟨by (with_reducible repeat (first | refine blk_drewN ?_ _ | refine blk_drew ?_ | refine blk_alloc ?_ _)); exact BK416.out⟩, ⟨by repeat (first | (with_reducible first | exact HB.out | apply below_alloc | apply pw_below_drewN | apply below_drew1 | refine below_set ?_ GE413.out | refine below_set ?_ GE416.out) | exact HB.out)⟩⟩
        · replace c28 := Bool.eq_false_iff.mpr c28
          subst c28
          have H1 : (laws_FnMeetings.j0 k t420 t421 t422 t424 true t411 t412 t414 t415) = some r := by rw [if_neg (show ¬ (false = true) by decide)] at H; exact H
          clear H
          have H := H1
          clear H1
          as_aux_lemma =>
            have H' := Aside0.mk H
            clear H
            go_wp2
            go_meet
            case rel => exact ⟨_, (true), (by first | rfl | (simp; done) | (simp [*]; done)), H', ⟨by first | omega | exact Nat.le_refl _⟩, ⟨by (with_reducible repeat (first | refine blk_drewN ?_ _ | refine blk_drew ?_ | refine blk_alloc ?_ _)); exact BK413.out⟩, ⟨by (with_reducible repeat (first | refine blk_drewN ?_ _ | refine blk_drew ?_ | refine blk_alloc ?_ _)); exact BK416.out⟩, ⟨by repeat (first | (with_reducible first | exact HB.out | apply below_alloc | apply pw_below_drewN | apply below_drew1 | refine below_set ?_ GE413.out | refine below_set ?_ GE416.out) | exact HB.out)⟩⟩
      · replace c27 := Bool.eq_false_iff.mpr c27
        subst c27
        have H1 : (laws_FnMeetings.j0 k t420 t421 t422 t424 true t411 t412 t414 t415) = some r := by rw [if_neg (show ¬ (false = true) by decide)] at H; exact H
        clear H
        have H := H1
        clear H1
        as_aux_lemma =>
          have H' := Aside0.mk H
          clear H
          go_wp2
          go_meet
          case rel => exact ⟨_, (true), (by first | rfl | (simp; done) | (simp [*]; done)), H', ⟨by first | omega | exact Nat.le_refl _⟩, ⟨by (with_reducible repeat (first | refine blk_drewN ?_ _ | refine blk_drew ?_ | refine blk_alloc ?_ _)); exact BK413.out⟩, ⟨by (with_reducible repeat (first | refine blk_drewN ?_ _ | refine blk_drew ?_ | refine blk_alloc ?_ _)); exact BK416.out⟩, ⟨by repeat (first | (with_reducible first | exact HB.out | apply below_alloc | apply pw_below_drewN | apply below_drew1 | refine below_set ?_ GE413.out | refine below_set ?_ GE416.out) | exact HB.out)⟩⟩
    case rest =>
      clear HC10
      try clear c1
      try clear c2
      try clear p2
      try clear c3
      try clear c4
      try clear p6
      try clear c9
      try clear c16
      try clear c17
      try clear c27
      try clear c28
      try clear c29
      try clear c29b0
      try clear c29b1
      try clear c29b2
      try clear c30
      try clear c30b0
      try clear c30b1
      try clear c31
      try clear c31b0
      try clear c31b1
      try clear c32
      try clear c32b0
      try clear c32b1
      try clear c33
      try clear c33b0
      try clear c33b1
      try clear c34
      try clear c34b0
      try clear c35
      try clear c36
      try clear c37
      try clear c38
      try clear c41
      try clear c44
      try clear hcz13_0
      try clear hcz13_1
      try clear hcz17_0
      try clear hcz17_1
      try clear hcz18_0
      try clear hcz18_1
      try clear hcz24_0
      try clear hcz24_1
      try clear hcz25_0
      try clear hcz25_1
      try clear hcz36_0
      try clear hcz36_1
      try clear hcz37_0
      try clear hcz37_1
      try clear hcz39_0
      try clear hcz39_1
      try clear hcz40_0
      try clear hcz40_1
      try clear hcz42_0
      try clear hcz42_1
      try clear hcz43_0
      try clear hcz43_1
      try clear hcz45_0
      try clear hcz45_1
      try clear hfz13_0
      try clear hfz13_1
      try clear hfz17_0
      try clear hfz17_1
      try clear hfz18_0
      try clear hfz18_1
      try clear hfz24_0
      try clear hfz24_1
      try clear hfz25_0
      try clear hfz25_1
      try clear hfz36_0
      try clear hfz36_1
      try clear hfz37_0
      try clear hfz37_1
      try clear hfz39_0
      try clear hfz39_1
      try clear hfz40_0
      try clear hfz40_1
      try clear hfz42_0
      try clear hfz42_1
      try clear hfz43_0
      try clear hfz43_1
      try clear hfz45_0
      try clear hfz45_1
      obtain ⟨kq, x86_9, rfl, HA, HJ9, BK413, BK416, HB⟩ := hcut
      cases kq with
      | zero => exact absurd HA.out (by simp [laws_FnMeetings.j0])
      | succ kj9 =>
        have H := HA.out
        clear HA
        simp only [laws_FnMeetings.j0] at H
        by_cases c46 : x86_9 = true
        · subst c46
          have H1 : (some false) = some r := by rw [if_pos rfl] at H; exact H
          clear H
          have H := H1
          clear H1
          as_aux_lemma =>
            obtain rfl := Option.some.inj H
            go_wp2
            go_ret
            exact ⟨by first | rfl | (simp [errW_none, errW_some] <;> rfl) | (simp [*, errW_none, errW_some] <;> rfl), by repeat (first | (with_reducible first | exact HB.out | apply below_alloc | apply pw_below_drewN | apply below_drew1 | refine below_set ?_ GE413.out | refine below_set ?_ GE416.out) | exact HB.out)⟩
        · replace c46 := Bool.eq_false_iff.mpr c46
          subst c46
          have H1 : (laws_FnMeetings.l0 kj9 t420 t421 t422 t424 1000 0 t411 t412 t414 t415) = some r := by rw [if_neg (show ¬ (false = true) by decide)] at H; exact H
          clear H
          have H := H1
          clear H1
          have H' := Aside0.mk H
          clear H
          go_wp2
          go_loopg [14, 15] kj9 (fun kq v14 v15 w' => ∃ (x14_2 : Int) (x15_2 : Int), v14 = .int .i64 x14_2 ∧ v15 = .int .i64 x15_2 ∧ Aside0 (laws_FnMeetings.l0 kq t420 t421 t422 t424 x14_2 x15_2 t411 t412 t414 t415 = some r) ∧ Aside0 (kq ≤ kj9) ∧ Aside0 (w'.heap[gb413]? = some (.cells #[.int .i64 t411, .int .i64 t412] 31 (0, 0))) ∧ Aside0 (w'.heap[gb416]? = some (.cells #[.int .i64 t414, .int .i64 t415] 31 (0, 0))) ∧ Aside0 (Below w.heap.size w w'))
          case atStart => exact ⟨(1000), (0), (by first | rfl | (simp; done) | (simp [*]; done)), (by first | rfl | (simp; done) | (simp [*]; done)), H', ⟨Nat.le_refl _⟩, ⟨by (with_reducible repeat (first | refine blk_drewN ?_ _ | refine blk_drew ?_ | refine blk_alloc ?_ _)); exact BK413.out⟩, ⟨by (with_reducible repeat (first | refine blk_drewN ?_ _ | refine blk_drew ?_ | refine blk_alloc ?_ _)); exact BK416.out⟩, ⟨by repeat (first | (with_reducible first | exact HB.out | apply below_alloc | apply pw_below_drewN | apply below_drew1 | refine below_set ?_ GE413.out | refine below_set ?_ GE416.out) | exact HB.out)⟩⟩
          case round =>
            clear H'
            try clear c1
            try clear c2
            try clear p2
            try clear c3
            try clear c4
            try clear p6
            try clear c9
            try clear c16
            try clear c17
            try clear c27
            try clear c28
            try clear c29
            try clear c29b0
            try clear c29b1
            try clear c29b2
            try clear c30
            try clear c30b0
            try clear c30b1
            try clear c31
            try clear c31b0
            try clear c31b1
            try clear c32
            try clear c32b0
            try clear c32b1
            try clear c33
            try clear c33b0
            try clear c33b1
            try clear c34
            try clear c34b0
            try clear c35
            try clear c36
            try clear c37
            try clear c38
            try clear c41
            try clear c44
            try clear c46
            try clear hcz13_0
            try clear hcz13_1
            try clear hcz17_0
            try clear hcz17_1
            try clear hcz18_0
            try clear hcz18_1
            try clear hcz24_0
            try clear hcz24_1
            try clear hcz25_0
            try clear hcz25_1
            try clear hcz36_0
            try clear hcz36_1
            try clear hcz37_0
            try clear hcz37_1
            try clear hcz39_0
            try clear hcz39_1
            try clear hcz40_0
            try clear hcz40_1
            try clear hcz42_0
            try clear hcz42_1
            try clear hcz43_0
            try clear hcz43_1
            try clear hcz45_0
            try clear hcz45_1
            try clear hfz13_0
            try clear hfz13_1
            try clear hfz17_0
            try clear hfz17_1
            try clear hfz18_0
            try clear hfz18_1
            try clear hfz24_0
            try clear hfz24_1
            try clear hfz25_0
            try clear hfz25_1
            try clear hfz36_0
            try clear hfz36_1
            try clear hfz37_0
            try clear hfz37_1
            try clear hfz39_0
            try clear hfz39_1
            try clear hfz40_0
            try clear hfz40_1
            try clear hfz42_0
            try clear hfz42_1
            try clear hfz43_0
            try clear hfz43_1
            try clear hfz45_0
            try clear hfz45_1
            try clear p2
            try clear p6
            obtain ⟨x14_2, x15_2, rfl, rfl, HA, HK2, BK413, BK416, HB⟩ := hrel
            cases gk with
            | zero => exact absurd HA.out (by simp [laws_FnMeetings.l0])
            | succ k2 =>
              have H := HA.out
              clear HA
              simp only [laws_FnMeetings.l0] at H
              by_cases c47 : x15_2 < 900
              · rw [if_pos c47] at H
                have c47b0 : decide (x15_2 < 900) = true := decide_eq_true c47
                clear c47
                have HC48 := Aside0.mk H
                clear H
                go_upto_region 15 with (fail)
                go_cut [16] (fun v16 wc => ∃ (kq : Nat) (x16_47 : Bool), v16 = .bool x16_47 ∧ Aside0 (laws_FnMeetings.j2 kq t420 t421 t422 t424 x14_2 x15_2 x16_47 t411 t412 t414 t415 = some r) ∧ Aside0 (kq ≤ k2) ∧ Aside0 (wc.heap[gb413]? = some (.cells #[.int .i64 t411, .int .i64 t412] 31 (0, 0))) ∧ Aside0 (wc.heap[gb416]? = some (.cells #[.int .i64 t414, .int .i64 t415] 31 (0, 0))) ∧ Aside0 (Below w.heap.size w wc))
                case first =>
                  have H := HC48.out
                  clear HC48
                  by_cases c49 : x15_2 ≥ t412
                  · rw [if_pos c49] at H
                    have c49b0 : decide (t412 ≤ x15_2) = true := decide_eq_true c49
                    clear c49
                    (first | rw [c49b0] | (simp only [i64_w, i32_w]; rw [c49b0]) | skip)
                    by_cases c50 : t411 = 0
                    · rw [if_pos c50] at H
                      exact absurd H (by simp)
                    · rw [if_neg c50] at H
                      have c50b0 : (t411 == 0) = false := beq_eq_false_iff_ne.mpr c50
                      have c50b1 : (t411 != 0) = true := bne_iff_ne.mpr c50
                      as_aux_lemma =>
                        have H' := Aside0.mk H
                        clear H
                        have hnb51 := NB413_416.out
                        have hnc51 := NB416_413.out
                        have hcz52_0 : wr.cell? ⟨gb413, 0, none⟩ = some (.int .i64 t411) := (blk_cell BK413.out 0).trans rfl
                        have hcz52_1 : wr.cell? ⟨gb413, 1, none⟩ = some (.int .i64 t412) := (blk_cell BK413.out 1).trans rfl
                        have hfz52_0 := blk_frozen BK413.out 0
                        have hfz52_1 := blk_frozen BK413.out 1
                        go_wp2
                        go_meet
                        case rel => exact ⟨_, (((Int.tmod (wrap64 (x15_2 - t412)) t411) == 0)), (by first | rfl | (simp; done) | (simp [*]; done)), H', ⟨by have := HJ9.out; have := HK2.out; first | omega | exact Nat.le_refl _⟩, ⟨by (with_reducible repeat (first | refine blk_drewN ?_ _ | refine blk_drew ?_ | refine blk_alloc ?_ _)); exact BK413.out⟩, ⟨by (with_reducible repeat (first | refine blk_drewN ?_ _ | refine blk_drew ?_ | refine blk_alloc ?_ _)); exact BK416.out⟩, ⟨by repeat (first | (with_reducible first | exact HB.out | apply below_alloc | apply pw_below_drewN | apply below_drew1 | refine below_set ?_ GE413.out | refine below_set ?_ GE416.out) | exact HB.out)⟩⟩
                  · rw [if_neg c49] at H
                    have c49b0 : decide (t412 ≤ x15_2) = false := decide_eq_false c49
                    clear c49
                    (first | rw [c49b0] | (simp only [i64_w, i32_w]; rw [c49b0]) | skip)
                    as_aux_lemma =>
                      have H' := Aside0.mk H
                      clear H
                      have hnb53 := NB413_416.out
                      have hnc53 := NB416_413.out
                      have hcz54_0 : wr.cell? ⟨gb413, 0, none⟩ = some (.int .i64 t411) := (blk_cell BK413.out 0).trans rfl
                      have hcz54_1 : wr.cell? ⟨gb413, 1, none⟩ = some (.int .i64 t412) := (blk_cell BK413.out 1).trans rfl
                      have hfz54_0 := blk_frozen BK413.out 0
                      have hfz54_1 := blk_frozen BK413.out 1
                      go_wp2
                      go_meet
                      case rel => exact ⟨_, (false), (by first | rfl | (simp; done) | (simp [*]; done)), H', ⟨by have := HJ9.out; have := HK2.out; first | omega | exact Nat.le_refl _⟩, ⟨by (with_reducible repeat (first | refine blk_drewN ?_ _ | refine blk_drew ?_ | refine blk_alloc ?_ _)); exact BK413.out⟩, ⟨by (with_reducible repeat (first | refine blk_drewN ?_ _ | refine blk_drew ?_ | refine blk_alloc ?_ _)); exact BK416.out⟩, ⟨by repeat (first | (with_reducible first | exact HB.out | apply below_alloc | apply pw_below_drewN | apply below_drew1 | refine below_set ?_ GE413.out | refine below_set ?_ GE416.out) | exact HB.out)⟩⟩
                case rest =>
                  clear HC48
                  try clear c1
                  try clear c2
                  try clear p2
                  try clear c3
                  try clear c4
                  try clear c5
                  try clear p6
                  try clear c9
                  try clear c16
                  try clear c17
                  try clear c27
                  try clear c28
                  try clear c29
                  try clear c29b0
                  try clear c29b1
                  try clear c29b2
                  try clear c30
                  try clear c30b0
                  try clear c30b1
                  try clear c31
                  try clear c31b0
                  try clear c31b1
                  try clear c32
                  try clear c32b0
                  try clear c32b1
                  try clear c33
                  try clear c33b0
                  try clear c33b1
                  try clear c34
                  try clear c34b0
                  try clear c35
                  try clear c36
                  try clear c37
                  try clear c38
                  try clear c41
                  try clear c44
                  try clear c46
                  try clear c47
                  try clear c47b0
                  try clear c49
                  try clear c49b0
                  try clear c50
                  try clear c50b0
                  try clear c50b1
                  try clear c51
                  try clear c53
                  try clear hcz13_0
                  try clear hcz13_1
                  try clear hcz17_0
                  try clear hcz17_1
                  try clear hcz18_0
                  try clear hcz18_1
                  try clear hcz24_0
                  try clear hcz24_1
                  try clear hcz25_0
                  try clear hcz25_1
                  try clear hcz36_0
                  try clear hcz36_1
                  try clear hcz37_0
                  try clear hcz37_1
                  try clear hcz39_0
                  try clear hcz39_1
                  try clear hcz40_0
                  try clear hcz40_1
                  try clear hcz42_0
                  try clear hcz42_1
                  try clear hcz43_0
                  try clear hcz43_1
                  try clear hcz45_0
                  try clear hcz45_1
                  try clear hcz52_0
                  try clear hcz52_1
                  try clear hcz54_0
                  try clear hcz54_1
                  try clear hfz13_0
                  try clear hfz13_1
                  try clear hfz17_0
                  try clear hfz17_1
                  try clear hfz18_0
                  try clear hfz18_1
                  try clear hfz24_0
                  try clear hfz24_1
                  try clear hfz25_0
                  try clear hfz25_1
                  try clear hfz36_0
                  try clear hfz36_1
                  try clear hfz37_0
                  try clear hfz37_1
                  try clear hfz39_0
                  try clear hfz39_1
                  try clear hfz40_0
                  try clear hfz40_1
                  try clear hfz42_0
                  try clear hfz42_1
                  try clear hfz43_0
                  try clear hfz43_1
                  try clear hfz45_0
                  try clear hfz45_1
                  try clear hfz52_0
                  try clear hfz52_1
                  try clear hfz54_0
                  try clear hfz54_1
                  try clear p2
                  try clear p6
                  obtain ⟨kq, x16_47, rfl, HA, HJ47, BK413, BK416, HB⟩ := hcut
                  cases kq with
                  | zero => exact absurd HA.out (by simp [laws_FnMeetings.j2])
                  | succ kj47 =>
                    have H := HA.out
                    clear HA
                    simp only [laws_FnMeetings.j2] at H
                    have HC55 := Aside0.mk H
                    clear H
                    go_upto_region 16 with (fail)
                    go_cut [17] (fun v17 wc => ∃ (kq : Nat) (x17_54 : Bool), v17 = .bool x17_54 ∧ Aside0 (laws_FnMeetings.j3 kq t420 t421 t422 t424 x14_2 x15_2 x16_47 x17_54 t411 t412 t414 t415 = some r) ∧ Aside0 (kq ≤ kj47) ∧ Aside0 (wc.heap[gb413]? = some (.cells #[.int .i64 t411, .int .i64 t412] 31 (0, 0))) ∧ Aside0 (wc.heap[gb416]? = some (.cells #[.int .i64 t414, .int .i64 t415] 31 (0, 0))) ∧ Aside0 (Below w.heap.size w wc))
                    case first =>
                      have H := HC55.out
                      clear HC55
                      by_cases c56 : x15_2 ≥ t415
                      · rw [if_pos c56] at H
                        have c56b0 : decide (t415 ≤ x15_2) = true := decide_eq_true c56
                        clear c56
                        (first | rw [c56b0] | (simp only [i64_w, i32_w]; rw [c56b0]) | skip)
                        by_cases c57 : t414 = 0
                        · rw [if_pos c57] at H
                          exact absurd H (by simp)
                        · rw [if_neg c57] at H
                          have c57b0 : (t414 == 0) = false := beq_eq_false_iff_ne.mpr c57
                          have c57b1 : (t414 != 0) = true := bne_iff_ne.mpr c57
                          as_aux_lemma =>
                            have H' := Aside0.mk H
                            clear H
                            have hnb58 := NB416_413.out
                            have hnc58 := NB413_416.out
                            have hcz59_0 : wc.cell? ⟨gb416, 0, none⟩ = some (.int .i64 t414) := (blk_cell BK416.out 0).trans rfl
                            have hcz59_1 : wc.cell? ⟨gb416, 1, none⟩ = some (.int .i64 t415) := (blk_cell BK416.out 1).trans rfl
                            have hfz59_0 := blk_frozen BK416.out 0
                            have hfz59_1 := blk_frozen BK416.out 1
                            go_wp2
                            go_meet
                            case rel => exact ⟨_, (((Int.tmod (wrap64 (x15_2 - t415)) t414) == 0)), (by first | rfl | (simp; done) | (simp [*]; done)), H', ⟨by have := HJ9.out; have := HK2.out; have := HJ47.out; first | omega | exact Nat.le_refl _⟩, ⟨by (with_reducible repeat (first | refine blk_drewN ?_ _ | refine blk_drew ?_ | refine blk_alloc ?_ _)); exact BK413.out⟩, ⟨by (with_reducible repeat (first | refine blk_drewN ?_ _ | refine blk_drew ?_ | refine blk_alloc ?_ _)); exact BK416.out⟩, ⟨by repeat (first | (with_reducible first | exact HB.out | apply below_alloc | apply pw_below_drewN | apply below_drew1 | refine below_set ?_ GE413.out | refine below_set ?_ GE416.out) | exact HB.out)⟩⟩
                      · rw [if_neg c56] at H
                        have c56b0 : decide (t415 ≤ x15_2) = false := decide_eq_false c56
                        clear c56
                        (first | rw [c56b0] | (simp only [i64_w, i32_w]; rw [c56b0]) | skip)
                        as_aux_lemma =>
                          have H' := Aside0.mk H
                          clear H
                          have hnb60 := NB416_413.out
                          have hnc60 := NB413_416.out
                          have hcz61_0 : wc.cell? ⟨gb416, 0, none⟩ = some (.int .i64 t414) := (blk_cell BK416.out 0).trans rfl
                          have hcz61_1 : wc.cell? ⟨gb416, 1, none⟩ = some (.int .i64 t415) := (blk_cell BK416.out 1).trans rfl
                          have hfz61_0 := blk_frozen BK416.out 0
                          have hfz61_1 := blk_frozen BK416.out 1
                          go_wp2
                          go_meet
                          case rel => exact ⟨_, (false), (by first | rfl | (simp; done) | (simp [*]; done)), H', ⟨by have := HJ9.out; have := HK2.out; have := HJ47.out; first | omega | exact Nat.le_refl _⟩, ⟨by (with_reducible repeat (first | refine blk_drewN ?_ _ | refine blk_drew ?_ | refine blk_alloc ?_ _)); exact BK413.out⟩, ⟨by (with_reducible repeat (first | refine blk_drewN ?_ _ | refine blk_drew ?_ | refine blk_alloc ?_ _)); exact BK416.out⟩, ⟨by repeat (first | (with_reducible first | exact HB.out | apply below_alloc | apply pw_below_drewN | apply below_drew1 | refine below_set ?_ GE413.out | refine below_set ?_ GE416.out) | exact HB.out)⟩⟩
                    case rest =>
                      clear HC55
                      try clear c1
                      try clear c2
                      try clear p2
                      try clear c3
                      try clear c4
                      try clear c5
                      try clear c6
                      try clear p6
                      try clear c9
                      try clear c16
                      try clear c17
                      try clear c27
                      try clear c28
                      try clear c29
                      try clear c29b0
                      try clear c29b1
                      try clear c29b2
                      try clear c30
                      try clear c30b0
                      try clear c30b1
                      try clear c31
                      try clear c31b0
                      try clear c31b1
                      try clear c32
                      try clear c32b0
                      try clear c32b1
                      try clear c33
                      try clear c33b0
                      try clear c33b1
                      try clear c34
                      try clear c34b0
                      try clear c35
                      try clear c36
                      try clear c37
                      try clear c38
                      try clear c41
                      try clear c44
                      try clear c46
                      try clear c47
                      try clear c47b0
                      try clear c49
                      try clear c49b0
                      try clear c50
                      try clear c50b0
                      try clear c50b1
                      try clear c51
                      try clear c53
                      try clear c56
                      try clear c56b0
                      try clear c57
                      try clear c57b0
                      try clear c57b1
                      try clear c58
                      try clear c60
                      try clear hcz13_0
                      try clear hcz13_1
                      try clear hcz17_0
                      try clear hcz17_1
                      try clear hcz18_0
                      try clear hcz18_1
                      try clear hcz24_0
                      try clear hcz24_1
                      try clear hcz25_0
                      try clear hcz25_1
                      try clear hcz36_0
                      try clear hcz36_1
                      try clear hcz37_0
                      try clear hcz37_1
                      try clear hcz39_0
                      try clear hcz39_1
                      try clear hcz40_0
                      try clear hcz40_1
                      try clear hcz42_0
                      try clear hcz42_1
                      try clear hcz43_0
                      try clear hcz43_1
                      try clear hcz45_0
                      try clear hcz45_1
                      try clear hcz52_0
                      try clear hcz52_1
                      try clear hcz54_0
                      try clear hcz54_1
                      try clear hcz59_0
                      try clear hcz59_1
                      try clear hcz61_0
                      try clear hcz61_1
                      try clear hfz13_0
                      try clear hfz13_1
                      try clear hfz17_0
                      try clear hfz17_1
                      try clear hfz18_0
                      try clear hfz18_1
                      try clear hfz24_0
                      try clear hfz24_1
                      try clear hfz25_0
                      try clear hfz25_1
                      try clear hfz36_0
                      try clear hfz36_1
                      try clear hfz37_0
                      try clear hfz37_1
                      try clear hfz39_0
                      try clear hfz39_1
                      try clear hfz40_0
                      try clear hfz40_1
                      try clear hfz42_0
                      try clear hfz42_1
                      try clear hfz43_0
                      try clear hfz43_1
                      try clear hfz45_0
                      try clear hfz45_1
                      try clear hfz52_0
                      try clear hfz52_1
                      try clear hfz54_0
                      try clear hfz54_1
                      try clear hfz59_0
                      try clear hfz59_1
                      try clear hfz61_0
                      try clear hfz61_1
                      try clear p2
                      try clear p6
                      obtain ⟨kq, x17_54, rfl, HA, HJ54, BK413, BK416, HB⟩ := hcut
                      cases kq with
                      | zero => exact absurd HA.out (by simp [laws_FnMeetings.j3])
                      | succ kj54 =>
                        have H := HA.out
                        clear HA
                        simp only [laws_FnMeetings.j3] at H
                        have HC62 := Aside0.mk H
                        clear H
                        go_upto_region 17 with (fail)
                        go_cut [139] (fun v139 wc => ∃ (kq : Nat) (x139_61 : Bool), v139 = .bool x139_61 ∧ Aside0 (laws_FnMeetings.j4 kq t420 t421 t422 t424 x14_2 x15_2 x16_47 x17_54 x139_61 t411 t412 t414 t415 = some r) ∧ Aside0 (kq ≤ kj54) ∧ Aside0 (wc.heap[gb413]? = some (.cells #[.int .i64 t411, .int .i64 t412] 31 (0, 0))) ∧ Aside0 (wc.heap[gb416]? = some (.cells #[.int .i64 t414, .int .i64 t415] 31 (0, 0))) ∧ Aside0 (Below w.heap.size w wc))
                        case first =>
                          have H := HC62.out
                          clear HC62
                          by_cases c63 : x16_47 = true
                          · subst c63
                            have H1 : (if x17_54 = true then (if t421 = true then (if x15_2 < t420 then (laws_FnMeetings.j4 kj54 t420 t421 t422 t424 x14_2 x15_2 true x17_54 true t411 t412 t414 t415) else (if t422 = 0 then (none) else (laws_FnMeetings.j4 kj54 t420 t421 t422 t424 x14_2 x15_2 true x17_54 ((Int.tmod (wrap64 (x15_2 - t420)) t422) != 0) t411 t412 t414 t415))) else (laws_FnMeetings.j4 kj54 t420 t421 t422 t424 x14_2 x15_2 true x17_54 true t411 t412 t414 t415)) else (laws_FnMeetings.j4 kj54 t420 t421 t422 t424 x14_2 x15_2 true x17_54 false t411 t412 t414 t415)) = some r := by rw [if_pos rfl] at H; exact H
                            clear H
                            have H := H1
                            clear H1
                            by_cases c64 : x17_54 = true
                            · subst c64
                              have H1 : (if t421 = true then (if x15_2 < t420 then (laws_FnMeetings.j4 kj54 t420 t421 t422 t424 x14_2 x15_2 true true true t411 t412 t414 t415) else (if t422 = 0 then (none) else (laws_FnMeetings.j4 kj54 t420 t421 t422 t424 x14_2 x15_2 true true ((Int.tmod (wrap64 (x15_2 - t420)) t422) != 0) t411 t412 t414 t415))) else (laws_FnMeetings.j4 kj54 t420 t421 t422 t424 x14_2 x15_2 true true true t411 t412 t414 t415)) = some r := by rw [if_pos rfl] at H; exact H
                              clear H
                              have H := H1
                              clear H1
                              by_cases c65 : t421 = true
                              · subst c65
                                have H1 : (if x15_2 < t420 then (laws_FnMeetings.j4 kj54 t420 true t422 t424 x14_2 x15_2 true true true t411 t412 t414 t415) else (if t422 = 0 then (none) else (laws_FnMeetings.j4 kj54 t420 true t422 t424 x14_2 x15_2 true true ((Int.tmod (wrap64 (x15_2 - t420)) t422) != 0) t411 t412 t414 t415))) = some r := by rw [if_pos rfl] at H; exact H
                                clear H
                                have H := H1
                                clear H1
                                by_cases c66 : x15_2 < t420
                                · rw [if_pos c66] at H
                                  have c66b0 : decide (x15_2 < t420) = true := decide_eq_true c66
                                  clear c66
                                  (first | rw [c66b0] | (simp only [i64_w, i32_w]; rw [c66b0]) | skip)
                                  as_aux_lemma =>
                                    have H' := Aside0.mk H
                                    clear H
                                    go_wp2
                                    go_meet
                                    case rel => exact ⟨_, (true), (by first | rfl | (simp; done) | (simp [*]; done)), H', ⟨by have := HJ9.out; have := HK2.out; have := HJ47.out; have := HJ54.out; first | omega | exact Nat.le_refl _⟩, ⟨by (with_reducible repeat (first | refine blk_drewN ?_ _ | refine blk_drew ?_ | refine blk_alloc ?_ _)); exact BK413.out⟩, ⟨by (with_reducible repeat (first | refine blk_drewN ?_ _ | refine blk_drew ?_ | refine blk_alloc ?_ _)); exact BK416.out⟩, ⟨by repeat (first | (with_reducible first | exact HB.out | apply below_alloc | apply pw_below_drewN | apply below_drew1 | refine below_set ?_ GE413.out | refine below_set ?_ GE416.out) | exact HB.out)⟩⟩
                                · rw [if_neg c66] at H
                                  have c66b0 : decide (x15_2 < t420) = false := decide_eq_false c66
                                  clear c66
                                  (first | rw [c66b0] | (simp only [i64_w, i32_w]; rw [c66b0]) | skip)
                                  by_cases c67 : t422 = 0
                                  · rw [if_pos c67] at H
                                    exact absurd H (by simp)
                                  · rw [if_neg c67] at H
                                    have c67b0 : (t422 == 0) = false := beq_eq_false_iff_ne.mpr c67
                                    have c67b1 : (t422 != 0) = true := bne_iff_ne.mpr c67
                                    as_aux_lemma =>
                                      have H' := Aside0.mk H
                                      clear H
                                      go_wp2
                                      go_meet
                                      case rel => exact ⟨_, (((Int.tmod (wrap64 (x15_2 - t420)) t422) != 0)), (by first | rfl | (simp; done) | (simp [*]; done)), H', ⟨by have := HJ9.out; have := HK2.out; have := HJ47.out; have := HJ54.out; first | omega | exact Nat.le_refl _⟩, ⟨by (with_reducible repeat (first | refine blk_drewN ?_ _ | refine blk_drew ?_ | refine blk_alloc ?_ _)); exact BK413.out⟩, ⟨by (with_reducible repeat (first | refine blk_drewN ?_ _ | refine blk_drew ?_ | refine blk_alloc ?_ _)); exact BK416.out⟩, ⟨by repeat (first | (with_reducible first | exact HB.out | apply below_alloc | apply pw_below_drewN | apply below_drew1 | refine below_set ?_ GE413.out | refine below_set ?_ GE416.out) | exact HB.out)⟩⟩
                              · replace c65 := Bool.eq_false_iff.mpr c65
                                subst c65
                                have H1 : (laws_FnMeetings.j4 kj54 t420 false t422 t424 x14_2 x15_2 true true true t411 t412 t414 t415) = some r := by rw [if_neg (show ¬ (false = true) by decide)] at H; exact H
                                clear H
                                have H := H1
                                clear H1
                                as_aux_lemma =>
                                  have H' := Aside0.mk H
                                  clear H
                                  go_wp2
                                  go_meet
                                  case rel => exact ⟨_, (true), (by first | rfl | (simp; done) | (simp [*]; done)), H', ⟨by have := HJ9.out; have := HK2.out; have := HJ47.out; have := HJ54.out; first | omega | exact Nat.le_refl _⟩, ⟨by (with_reducible repeat (first | refine blk_drewN ?_ _ | refine blk_drew ?_ | refine blk_alloc ?_ _)); exact BK413.out⟩, ⟨by (with_reducible repeat (first | refine blk_drewN ?_ _ | refine blk_drew ?_ | refine blk_alloc ?_ _)); exact BK416.out⟩, ⟨by repeat (first | (with_reducible first | exact HB.out | apply below_alloc | apply pw_below_drewN | apply below_drew1 | refine below_set ?_ GE413.out | refine below_set ?_ GE416.out) | exact HB.out)⟩⟩
                            · replace c64 := Bool.eq_false_iff.mpr c64
                              subst c64
                              have H1 : (laws_FnMeetings.j4 kj54 t420 t421 t422 t424 x14_2 x15_2 true false false t411 t412 t414 t415) = some r := by rw [if_neg (show ¬ (false = true) by decide)] at H; exact H
                              clear H
                              have H := H1
                              clear H1
                              as_aux_lemma =>
                                have H' := Aside0.mk H
                                clear H
                                go_wp2
                                go_meet
                                case rel => exact ⟨_, (false), (by first | rfl | (simp; done) | (simp [*]; done)), H', ⟨by have := HJ9.out; have := HK2.out; have := HJ47.out; have := HJ54.out; first | omega | exact Nat.le_refl _⟩, ⟨by (with_reducible repeat (first | refine blk_drewN ?_ _ | refine blk_drew ?_ | refine blk_alloc ?_ _)); exact BK413.out⟩, ⟨by (with_reducible repeat (first | refine blk_drewN ?_ _ | refine blk_drew ?_ | refine blk_alloc ?_ _)); exact BK416.out⟩, ⟨by repeat (first | (with_reducible first | exact HB.out | apply below_alloc | apply pw_below_drewN | apply below_drew1 | refine below_set ?_ GE413.out | refine below_set ?_ GE416.out) | exact HB.out)⟩⟩
                          · replace c63 := Bool.eq_false_iff.mpr c63
                            subst c63
                            have H1 : (laws_FnMeetings.j4 kj54 t420 t421 t422 t424 x14_2 x15_2 false x17_54 false t411 t412 t414 t415) = some r := by rw [if_neg (show ¬ (false = true) by decide)] at H; exact H
                            clear H
                            have H := H1
                            clear H1
                            as_aux_lemma =>
                              have H' := Aside0.mk H
                              clear H
                              go_wp2
                              go_meet
                              case rel => exact ⟨_, (false), (by first | rfl | (simp; done) | (simp [*]; done)), H', ⟨by have := HJ9.out; have := HK2.out; have := HJ47.out; have := HJ54.out; first | omega | exact Nat.le_refl _⟩, ⟨by (with_reducible repeat (first | refine blk_drewN ?_ _ | refine blk_drew ?_ | refine blk_alloc ?_ _)); exact BK413.out⟩, ⟨by (with_reducible repeat (first | refine blk_drewN ?_ _ | refine blk_drew ?_ | refine blk_alloc ?_ _)); exact BK416.out⟩, ⟨by repeat (first | (with_reducible first | exact HB.out | apply below_alloc | apply pw_below_drewN | apply below_drew1 | refine below_set ?_ GE413.out | refine below_set ?_ GE416.out) | exact HB.out)⟩⟩
                        case rest =>
                          clear HC62
                          try clear c1
                          try clear c2
                          try clear p2
                          try clear c3
                          try clear c4
                          try clear c5
                          try clear c6
                          try clear p6
                          try clear c9
                          try clear c16
                          try clear c17
                          try clear c27
                          try clear c28
                          try clear c29
                          try clear c29b0
                          try clear c29b1
                          try clear c29b2
                          try clear c30
                          try clear c30b0
                          try clear c30b1
                          try clear c31
                          try clear c31b0
                          try clear c31b1
                          try clear c32
                          try clear c32b0
                          try clear c32b1
                          try clear c33
                          try clear c33b0
                          try clear c33b1
                          try clear c34
                          try clear c34b0
                          try clear c35
                          try clear c36
                          try clear c37
                          try clear c38
                          try clear c41
                          try clear c44
                          try clear c46
                          try clear c47
                          try clear c47b0
                          try clear c49
                          try clear c49b0
                          try clear c50
                          try clear c50b0
                          try clear c50b1
                          try clear c51
                          try clear c53
                          try clear c56
                          try clear c56b0
                          try clear c57
                          try clear c57b0
                          try clear c57b1
                          try clear c58
                          try clear c60
                          try clear c63
                          try clear c64
                          try clear p64
                          try clear c65
                          try clear c66
                          try clear c66b0
                          try clear c67
                          try clear c67b0
                          try clear c67b1
                          try clear hcz13_0
                          try clear hcz13_1
                          try clear hcz17_0
                          try clear hcz17_1
                          try clear hcz18_0
                          try clear hcz18_1
                          try clear hcz24_0
                          try clear hcz24_1
                          try clear hcz25_0
                          try clear hcz25_1
                          try clear hcz36_0
                          try clear hcz36_1
                          try clear hcz37_0
                          try clear hcz37_1
                          try clear hcz39_0
                          try clear hcz39_1
                          try clear hcz40_0
                          try clear hcz40_1
                          try clear hcz42_0
                          try clear hcz42_1
                          try clear hcz43_0
                          try clear hcz43_1
                          try clear hcz45_0
                          try clear hcz45_1
                          try clear hcz52_0
                          try clear hcz52_1
                          try clear hcz54_0
                          try clear hcz54_1
                          try clear hcz59_0
                          try clear hcz59_1
                          try clear hcz61_0
                          try clear hcz61_1
                          try clear hfz13_0
                          try clear hfz13_1
                          try clear hfz17_0
                          try clear hfz17_1
                          try clear hfz18_0
                          try clear hfz18_1
                          try clear hfz24_0
                          try clear hfz24_1
                          try clear hfz25_0
                          try clear hfz25_1
                          try clear hfz36_0
                          try clear hfz36_1
                          try clear hfz37_0
                          try clear hfz37_1
                          try clear hfz39_0
                          try clear hfz39_1
                          try clear hfz40_0
                          try clear hfz40_1
                          try clear hfz42_0
                          try clear hfz42_1
                          try clear hfz43_0
                          try clear hfz43_1
                          try clear hfz45_0
                          try clear hfz45_1
                          try clear hfz52_0
                          try clear hfz52_1
                          try clear hfz54_0
                          try clear hfz54_1
                          try clear hfz59_0
                          try clear hfz59_1
                          try clear hfz61_0
                          try clear hfz61_1
                          try clear p2
                          try clear p6
                          obtain ⟨kq, x139_61, rfl, HA, HJ61, BK413, BK416, HB⟩ := hcut
                          cases kq with
                          | zero => exact absurd HA.out (by simp [laws_FnMeetings.j4])
                          | succ kj61 =>
                            have H := HA.out
                            clear HA
                            simp only [laws_FnMeetings.j4] at H
                            by_cases c68 : x139_61 = true
                            · subst c68
                              have H1 : (some false) = some r := by rw [if_pos rfl] at H; exact H
                              clear H
                              have H := H1
                              clear H1
                              as_aux_lemma =>
                                obtain rfl := Option.some.inj H
                                go_wp2
                                go_ret
                                exact ⟨by first | rfl | (simp [errW_none, errW_some] <;> rfl) | (simp [*, errW_none, errW_some] <;> rfl), by repeat (first | (with_reducible first | exact HB.out | apply below_alloc | apply pw_below_drewN | apply below_drew1 | refine below_set ?_ GE413.out | refine below_set ?_ GE416.out) | exact HB.out)⟩
                            · replace c68 := Bool.eq_false_iff.mpr c68
                              subst c68
                              have H1 : (if t421 = true then (if t422 = 0 then (none) else (if (Int.tmod (wrap64 (x15_2 - t420)) t422) = 0 then (if x15_2 ≥ t420 then (if x16_47 = true then (laws_FnMeetings.j5 kj61 t420 t421 t422 t424 x14_2 x15_2 x16_47 x17_54 (!x17_54) t411 t412 t414 t415) else (laws_FnMeetings.j5 kj61 t420 t421 t422 t424 x14_2 x15_2 x16_47 x17_54 (!false) t411 t412 t414 t415)) else (laws_FnMeetings.j5 kj61 t420 t421 t422 t424 x14_2 x15_2 x16_47 x17_54 false t411 t412 t414 t415)) else (laws_FnMeetings.j5 kj61 t420 t421 t422 t424 x14_2 x15_2 x16_47 x17_54 false t411 t412 t414 t415))) else (laws_FnMeetings.j5 kj61 t420 t421 t422 t424 x14_2 x15_2 x16_47 x17_54 false t411 t412 t414 t415)) = some r := by rw [if_neg (show ¬ (false = true) by decide)] at H; exact H
                              clear H
                              have H := H1
                              clear H1
                              have HC69 := Aside0.mk H
                              clear H
                              go_upto_region 19 with (fail)
                              go_cut [160] (fun v160 wc => ∃ (kq : Nat) (x160_68 : Bool), v160 = .bool x160_68 ∧ Aside0 (laws_FnMeetings.j5 kq t420 t421 t422 t424 x14_2 x15_2 x16_47 x17_54 x160_68 t411 t412 t414 t415 = some r) ∧ Aside0 (kq ≤ kj61) ∧ Aside0 (wc.heap[gb413]? = some (.cells #[.int .i64 t411, .int .i64 t412] 31 (0, 0))) ∧ Aside0 (wc.heap[gb416]? = some (.cells #[.int .i64 t414, .int .i64 t415] 31 (0, 0))) ∧ Aside0 (Below w.heap.size w wc))
                              case first =>
                                have H := HC69.out
                                clear HC69
                                by_cases c70 : t421 = true
                                · subst c70
                                  have H1 : (if t422 = 0 then (none) else (if (Int.tmod (wrap64 (x15_2 - t420)) t422) = 0 then (if x15_2 ≥ t420 then (if x16_47 = true then (laws_FnMeetings.j5 kj61 t420 true t422 t424 x14_2 x15_2 x16_47 x17_54 (!x17_54) t411 t412 t414 t415) else (laws_FnMeetings.j5 kj61 t420 true t422 t424 x14_2 x15_2 x16_47 x17_54 (!false) t411 t412 t414 t415)) else (laws_FnMeetings.j5 kj61 t420 true t422 t424 x14_2 x15_2 x16_47 x17_54 false t411 t412 t414 t415)) else (laws_FnMeetings.j5 kj61 t420 true t422 t424 x14_2 x15_2 x16_47 x17_54 false t411 t412 t414 t415))) = some r := by rw [if_pos rfl] at H; exact H
                                  clear H
                                  have H := H1
                                  clear H1
                                  by_cases c71 : t422 = 0
                                  · rw [if_pos c71] at H
                                    exact absurd H (by simp)
                                  · rw [if_neg c71] at H
                                    have c71b0 : (t422 == 0) = false := beq_eq_false_iff_ne.mpr c71
                                    have c71b1 : (t422 != 0) = true := bne_iff_ne.mpr c71
                                    (first | rw [c71b0] | (simp only [i64_w, i32_w]; rw [c71b0]) | skip)
                                    by_cases c72 : (Int.tmod (wrap64 (x15_2 - t420)) t422) = 0
                                    · rw [if_pos c72] at H
                                      have c72b0 : ((Int.tmod (wrap64 (x15_2 - t420)) t422) == 0) = true := beq_iff_eq.mpr c72
                                      have c72b1 : ((Int.tmod (wrap64 (x15_2 - t420)) t422) != 0) = false := bne_eq_false_iff_eq.mpr c72
                                      clear c72
                                      by_cases c73 : x15_2 ≥ t420
                                      · rw [if_pos c73] at H
                                        have c73b0 : decide (t420 ≤ x15_2) = true := decide_eq_true c73
                                        clear c73
                                        by_cases c74 : x16_47 = true
                                        · subst c74
                                          have H1 : (laws_FnMeetings.j5 kj61 t420 true t422 t424 x14_2 x15_2 true x17_54 (!x17_54) t411 t412 t414 t415) = some r := by rw [if_pos rfl] at H; exact H
                                          clear H
                                          have H := H1
                                          clear H1
                                          as_aux_lemma =>
                                            have H' := Aside0.mk H
                                            clear H
                                            go_wp2
                                            go_meet
                                            case rel => exact ⟨_, (!x17_54), (by first | rfl | (simp; done) | (simp [*]; done)), H', ⟨by have := HJ9.out; have := HK2.out; have := HJ47.out; have := HJ54.out; have := HJ61.out; first | omega | exact Nat.le_refl _⟩, ⟨by (with_reducible repeat (first | refine blk_drewN ?_ _ | refine blk_drew ?_ | refine blk_alloc ?_ _)); exact BK413.out⟩, ⟨by (with_reducible repeat (first | refine blk_drewN ?_ _ | refine blk_drew ?_ | refine blk_alloc ?_ _)); exact BK416.out⟩, ⟨by repeat (first | (with_reducible first | exact HB.out | apply below_alloc | apply pw_below_drewN | apply below_drew1 | refine below_set ?_ GE413.out | refine below_set ?_ GE416.out) | exact HB.out)⟩⟩
                                        · replace c74 := Bool.eq_false_iff.mpr c74
                                          subst c74
                                          have H1 : (laws_FnMeetings.j5 kj61 t420 true t422 t424 x14_2 x15_2 false x17_54 (!false) t411 t412 t414 t415) = some r := by rw [if_neg (show ¬ (false = true) by decide)] at H; exact H
                                          clear H
                                          have H := H1
                                          clear H1
                                          as_aux_lemma =>
                                            have H' := Aside0.mk H
                                            clear H
                                            go_wp2
                                            go_meet
                                            case rel => exact ⟨_, (!false), (by first | rfl | (simp; done) | (simp [*]; done)), H', ⟨by have := HJ9.out; have := HK2.out; have := HJ47.out; have := HJ54.out; have := HJ61.out; first | omega | exact Nat.le_refl _⟩, ⟨by (with_reducible repeat (first | refine blk_drewN ?_ _ | refine blk_drew ?_ | refine blk_alloc ?_ _)); exact BK413.out⟩, ⟨by (with_reducible repeat (first | refine blk_drewN ?_ _ | refine blk_drew ?_ | refine blk_alloc ?_ _)); exact BK416.out⟩, ⟨by repeat (first | (with_reducible first | exact HB.out | apply below_alloc | apply pw_below_drewN | apply below_drew1 | refine below_set ?_ GE413.out | refine below_set ?_ GE416.out) | exact HB.out)⟩⟩
                                      · rw [if_neg c73] at H
                                        have c73b0 : decide (t420 ≤ x15_2) = false := decide_eq_false c73
                                        clear c73
                                        as_aux_lemma =>
                                          have H' := Aside0.mk H
                                          clear H
                                          go_wp2
                                          go_meet
                                          case rel => exact ⟨_, (false), (by first | rfl | (simp; done) | (simp [*]; done)), H', ⟨by have := HJ9.out; have := HK2.out; have := HJ47.out; have := HJ54.out; have := HJ61.out; first | omega | exact Nat.le_refl _⟩, ⟨by (with_reducible repeat (first | refine blk_drewN ?_ _ | refine blk_drew ?_ | refine blk_alloc ?_ _)); exact BK413.out⟩, ⟨by (with_reducible repeat (first | refine blk_drewN ?_ _ | refine blk_drew ?_ | refine blk_alloc ?_ _)); exact BK416.out⟩, ⟨by repeat (first | (with_reducible first | exact HB.out | apply below_alloc | apply pw_below_drewN | apply below_drew1 | refine below_set ?_ GE413.out | refine below_set ?_ GE416.out) | exact HB.out)⟩⟩
                                    · rw [if_neg c72] at H
                                      have c72b0 : ((Int.tmod (wrap64 (x15_2 - t420)) t422) == 0) = false := beq_eq_false_iff_ne.mpr c72
                                      have c72b1 : ((Int.tmod (wrap64 (x15_2 - t420)) t422) != 0) = true := bne_iff_ne.mpr c72
                                      as_aux_lemma =>
                                        have H' := Aside0.mk H
                                        clear H
                                        go_wp2
                                        go_meet
                                        case rel => exact ⟨_, (false), (by first | rfl | (simp; done) | (simp [*]; done)), H', ⟨by have := HJ9.out; have := HK2.out; have := HJ47.out; have := HJ54.out; have := HJ61.out; first | omega | exact Nat.le_refl _⟩, ⟨by (with_reducible repeat (first | refine blk_drewN ?_ _ | refine blk_drew ?_ | refine blk_alloc ?_ _)); exact BK413.out⟩, ⟨by (with_reducible repeat (first | refine blk_drewN ?_ _ | refine blk_drew ?_ | refine blk_alloc ?_ _)); exact BK416.out⟩, ⟨by repeat (first | (with_reducible first | exact HB.out | apply below_alloc | apply pw_below_drewN | apply below_drew1 | refine below_set ?_ GE413.out | refine below_set ?_ GE416.out) | exact HB.out)⟩⟩
                                · replace c70 := Bool.eq_false_iff.mpr c70
                                  subst c70
                                  have H1 : (laws_FnMeetings.j5 kj61 t420 false t422 t424 x14_2 x15_2 x16_47 x17_54 false t411 t412 t414 t415) = some r := by rw [if_neg (show ¬ (false = true) by decide)] at H; exact H
                                  clear H
                                  have H := H1
                                  clear H1
                                  as_aux_lemma =>
                                    have H' := Aside0.mk H
                                    clear H
                                    go_wp2
                                    go_meet
                                    case rel => exact ⟨_, (false), (by first | rfl | (simp; done) | (simp [*]; done)), H', ⟨by have := HJ9.out; have := HK2.out; have := HJ47.out; have := HJ54.out; have := HJ61.out; first | omega | exact Nat.le_refl _⟩, ⟨by (with_reducible repeat (first | refine blk_drewN ?_ _ | refine blk_drew ?_ | refine blk_alloc ?_ _)); exact BK413.out⟩, ⟨by (with_reducible repeat (first | refine blk_drewN ?_ _ | refine blk_drew ?_ | refine blk_alloc ?_ _)); exact BK416.out⟩, ⟨by repeat (first | (with_reducible first | exact HB.out | apply below_alloc | apply pw_below_drewN | apply below_drew1 | refine below_set ?_ GE413.out | refine below_set ?_ GE416.out) | exact HB.out)⟩⟩
                              case rest =>
                                clear HC69
                                try clear c1
                                try clear c2
                                try clear p2
                                try clear c3
                                try clear c4
                                try clear c5
                                try clear c6
                                try clear p6
                                try clear c7
                                try clear c9
                                try clear c16
                                try clear c17
                                try clear c27
                                try clear c28
                                try clear c29
                                try clear c29b0
                                try clear c29b1
                                try clear c29b2
                                try clear c30
                                try clear c30b0
                                try clear c30b1
                                try clear c31
                                try clear c31b0
                                try clear c31b1
                                try clear c32
                                try clear c32b0
                                try clear c32b1
                                try clear c33
                                try clear c33b0
                                try clear c33b1
                                try clear c34
                                try clear c34b0
                                try clear c35
                                try clear c36
                                try clear c37
                                try clear c38
                                try clear c41
                                try clear c44
                                try clear c46
                                try clear c47
                                try clear c47b0
                                try clear c49
                                try clear c49b0
                                try clear c50
                                try clear c50b0
                                try clear c50b1
                                try clear c51
                                try clear c53
                                try clear c56
                                try clear c56b0
                                try clear c57
                                try clear c57b0
                                try clear c57b1
                                try clear c58
                                try clear c60
                                try clear c63
                                try clear c64
                                try clear p64
                                try clear c65
                                try clear c66
                                try clear c66b0
                                try clear c67
                                try clear c67b0
                                try clear c67b1
                                try clear c68
                                try clear c70
                                try clear c71
                                try clear c71b0
                                try clear c71b1
                                try clear c72
                                try clear c72b0
                                try clear c72b1
                                try clear c73
                                try clear c73b0
                                try clear c74
                                try clear hcz13_0
                                try clear hcz13_1
                                try clear hcz17_0
                                try clear hcz17_1
                                try clear hcz18_0
                                try clear hcz18_1
                                try clear hcz24_0
                                try clear hcz24_1
                                try clear hcz25_0
                                try clear hcz25_1
                                try clear hcz36_0
                                try clear hcz36_1
                                try clear hcz37_0
                                try clear hcz37_1
                                try clear hcz39_0
                                try clear hcz39_1
                                try clear hcz40_0
                                try clear hcz40_1
                                try clear hcz42_0
                                try clear hcz42_1
                                try clear hcz43_0
                                try clear hcz43_1
                                try clear hcz45_0
                                try clear hcz45_1
                                try clear hcz52_0
                                try clear hcz52_1
                                try clear hcz54_0
                                try clear hcz54_1
                                try clear hcz59_0
                                try clear hcz59_1
                                try clear hcz61_0
                                try clear hcz61_1
                                try clear hfz13_0
                                try clear hfz13_1
                                try clear hfz17_0
                                try clear hfz17_1
                                try clear hfz18_0
                                try clear hfz18_1
                                try clear hfz24_0
                                try clear hfz24_1
                                try clear hfz25_0
                                try clear hfz25_1
                                try clear hfz36_0
                                try clear hfz36_1
                                try clear hfz37_0
                                try clear hfz37_1
                                try clear hfz39_0
                                try clear hfz39_1
                                try clear hfz40_0
                                try clear hfz40_1
                                try clear hfz42_0
                                try clear hfz42_1
                                try clear hfz43_0
                                try clear hfz43_1
                                try clear hfz45_0
                                try clear hfz45_1
                                try clear hfz52_0
                                try clear hfz52_1
                                try clear hfz54_0
                                try clear hfz54_1
                                try clear hfz59_0
                                try clear hfz59_1
                                try clear hfz61_0
                                try clear hfz61_1
                                try clear p2
                                try clear p6
                                try clear p64
                                obtain ⟨kq, x160_68, rfl, HA, HJ68, BK413, BK416, HB⟩ := hcut
                                cases kq with
                                | zero => exact absurd HA.out (by simp [laws_FnMeetings.j5])
                                | succ kj68 =>
                                  have H := HA.out
                                  clear HA
                                  simp only [laws_FnMeetings.j5] at H
                                  by_cases c75 : x160_68 = true
                                  · subst c75
                                    have H1 : (some false) = some r := by rw [if_pos rfl] at H; exact H
                                    clear H
                                    have H := H1
                                    clear H1
                                    as_aux_lemma =>
                                      obtain rfl := Option.some.inj H
                                      go_wp2
                                      go_ret
                                      exact ⟨by first | rfl | (simp [errW_none, errW_some] <;> rfl) | (simp [*, errW_none, errW_some] <;> rfl), by repeat (first | (with_reducible first | exact HB.out | apply below_alloc | apply pw_below_drewN | apply below_drew1 | refine below_set ?_ GE413.out | refine below_set ?_ GE416.out) | exact HB.out)⟩
                                  · replace c75 := Bool.eq_false_iff.mpr c75
                                    subst c75
                                    have H1 : (if x16_47 = true then ((impl_NextEdge.f t414 t415 x15_2).bind fun bt426 => (if bt426.2 = true then (if (wrap64 (bt426.1 - x15_2)) < x14_2 then (laws_FnMeetings.j6 kj68 t420 t421 t422 t424 (wrap64 (bt426.1 - x15_2)) x15_2 x17_54 t411 t412 t414 t415) else (laws_FnMeetings.j6 kj68 t420 t421 t422 t424 x14_2 x15_2 x17_54 t411 t412 t414 t415)) else (some false))) else (laws_FnMeetings.j6 kj68 t420 t421 t422 t424 x14_2 x15_2 x17_54 t411 t412 t414 t415)) = some r := by rw [if_neg (show ¬ (false = true) by decide)] at H; exact H
                                    clear H
                                    have H := H1
                                    clear H1
                                    have HC76 := Aside0.mk H
                                    clear H
                                    go_upto_if 161 with (fail)
                                    go_cut [14] (fun v14 wc => ∃ (kq : Nat) (x14_75 : Int), v14 = .int .i64 x14_75 ∧ Aside0 (laws_FnMeetings.j6 kq t420 t421 t422 t424 x14_75 x15_2 x17_54 t411 t412 t414 t415 = some r) ∧ Aside0 (kq ≤ kj68) ∧ Aside0 (wc.heap[gb413]? = some (.cells #[.int .i64 t411, .int .i64 t412] 31 (0, 0))) ∧ Aside0 (wc.heap[gb416]? = some (.cells #[.int .i64 t414, .int .i64 t415] 31 (0, 0))) ∧ Aside0 (Below w.heap.size w wc))
                                    case first =>
                                      have H := HC76.out
                                      clear HC76
                                      by_cases c77 : x16_47 = true
                                      · subst c77
                                        have H1 : ((impl_NextEdge.f t414 t415 x15_2).bind fun bt426 => (if bt426.2 = true then (if (wrap64 (bt426.1 - x15_2)) < x14_2 then (laws_FnMeetings.j6 kj68 t420 t421 t422 t424 (wrap64 (bt426.1 - x15_2)) x15_2 x17_54 t411 t412 t414 t415) else (laws_FnMeetings.j6 kj68 t420 t421 t422 t424 x14_2 x15_2 x17_54 t411 t412 t414 t415)) else (some false))) = some r := by rw [if_pos rfl] at H; exact H
                                        clear H
                                        have H := H1
                                        clear H1
                                        replace H := Option.bind_eq_some_iff.mp H
                                        obtain ⟨⟨t426, t427⟩, A780, H⟩ := H
                                        replace H : (if t427 = true then (if (wrap64 (t426 - x15_2)) < x14_2 then (laws_FnMeetings.j6 kj68 t420 t421 t422 t424 (wrap64 (t426 - x15_2)) x15_2 x17_54 t411 t412 t414 t415) else (laws_FnMeetings.j6 kj68 t420 t421 t422 t424 x14_2 x15_2 x17_54 t411 t412 t414 t415)) else (some false)) = some r := H
                                        have A78 := Aside0.mk A780
                                        clear A780
                                        by_cases c79 : t427 = true
                                        · subst c79
                                          have H1 : (if (wrap64 (t426 - x15_2)) < x14_2 then (laws_FnMeetings.j6 kj68 t420 t421 t422 t424 (wrap64 (t426 - x15_2)) x15_2 x17_54 t411 t412 t414 t415) else (laws_FnMeetings.j6 kj68 t420 t421 t422 t424 x14_2 x15_2 x17_54 t411 t412 t414 t415)) = some r := by rw [if_pos rfl] at H; exact H
                                          clear H
                                          have H := H1
                                          clear H1
                                          by_cases c80 : (wrap64 (t426 - x15_2)) < x14_2
                                          · rw [if_pos c80] at H
                                            have c80b0 : decide ((wrap64 (t426 - x15_2)) < x14_2) = true := decide_eq_true c80
                                            clear c80
                                            (first | rw [c80b0] | (simp only [i64_w, i32_w]; rw [c80b0]) | skip)
                                            as_aux_lemma =>
                                              have H' := Aside0.mk H
                                              clear H
                                              have hnb81 := NB416_413.out
                                              have hnc81 := NB413_416.out
                                              have hcz82_0 : wc.cell? ⟨gb416, 0, none⟩ = some (.int .i64 t414) := (blk_cell BK416.out 0).trans rfl
                                              have hcz82_1 : wc.cell? ⟨gb416, 1, none⟩ = some (.int .i64 t415) := (blk_cell BK416.out 1).trans rfl
                                              have hfz82_0 := blk_frozen BK416.out 0
                                              have hfz82_1 := blk_frozen BK416.out 1
                                              go_wp2_with (first | ((with_reducible refine gate_callee (f := 22) rfl ?_); refine goesL_ (some 165) rfl rfl Try.func22 (by kernel_rfl) rfl #[.agg #[.int .i64 t414, .int .i64 t415], .int .i64 x15_2] rfl (by (try simp only [List.map_toArray, List.map_cons, List.map_nil]); first | done | rfl | (simp only [List.length_drop, List.length_take]; rfl)) ?_; (with_reducible refine (impl_NextEdge.calls t414 t415 x15_2 t426 true _ A78.out).mono ?_); rintro e w83 ⟨rfl, hb⟩; refine ⟨_, rfl, ?_⟩; have n0_ := Aside0.mk (blk_below (g := gb413) (o := .cells #[.int .i64 t411, .int .i64 t412] 31 (0, 0)) (by (with_reducible repeat (first | refine blk_drewN ?_ _ | refine blk_drew ?_ | refine blk_alloc ?_ _)); exact BK413.out) hb); have n1_ := Aside0.mk (blk_below (g := gb416) (o := .cells #[.int .i64 t414, .int .i64 t415] 31 (0, 0)) (by (with_reducible repeat (first | refine blk_drewN ?_ _ | refine blk_drew ?_ | refine blk_alloc ?_ _)); exact BK416.out) hb); have n2_ := Aside0.mk (below_step (by repeat (first | (with_reducible first | exact HB.out | apply below_alloc | apply pw_below_drewN | apply below_drew1 | refine below_set ?_ GE413.out | refine below_set ?_ GE416.out) | exact HB.out)) hb); clear BK413; clear BK416; clear HB; have BK413 := n0_; have BK416 := n1_; have HB := n2_; clear n0_ n1_ n2_; (try clear hb); (try clear hb2); (try clear hk); (try clear hi)))
                                              go_meet
                                              case rel => exact ⟨_, (wrap64 (t426 - x15_2)), (by first | rfl | (simp; done) | (simp [*]; done)), H', ⟨by have := HJ9.out; have := HK2.out; have := HJ47.out; have := HJ54.out; have := HJ61.out; have := HJ68.out; first | omega | exact Nat.le_refl _⟩, ⟨by (with_reducible repeat (first | refine blk_drewN ?_ _ | refine blk_drew ?_ | refine blk_alloc ?_ _)); exact BK413.out⟩, ⟨by (with_reducible repeat (first | refine blk_drewN ?_ _ | refine blk_drew ?_ | refine blk_alloc ?_ _)); exact BK416.out⟩, ⟨by repeat (first | (with_reducible first | exact HB.out | apply below_alloc | apply pw_below_drewN | apply below_drew1 | refine below_set ?_ GE413.out | refine below_set ?_ GE416.out) | exact HB.out)⟩⟩
                                          · rw [if_neg c80] at H
                                            have c80b0 : decide ((wrap64 (t426 - x15_2)) < x14_2) = false := decide_eq_false c80
                                            clear c80
                                            (first | rw [c80b0] | (simp only [i64_w, i32_w]; rw [c80b0]) | skip)
                                            as_aux_lemma =>
                                              have H' := Aside0.mk H
                                              clear H
                                              have hnb84 := NB416_413.out
                                              have hnc84 := NB413_416.out
                                              have hcz85_0 : wc.cell? ⟨gb416, 0, none⟩ = some (.int .i64 t414) := (blk_cell BK416.out 0).trans rfl
                                              have hcz85_1 : wc.cell? ⟨gb416, 1, none⟩ = some (.int .i64 t415) := (blk_cell BK416.out 1).trans rfl
                                              have hfz85_0 := blk_frozen BK416.out 0
                                              have hfz85_1 := blk_frozen BK416.out 1
                                              go_wp2_with (first | ((with_reducible refine gate_callee (f := 22) rfl ?_); refine goesL_ (some 165) rfl rfl Try.func22 (by kernel_rfl) rfl #[.agg #[.int .i64 t414, .int .i64 t415], .int .i64 x15_2] rfl (by (try simp only [List.map_toArray, List.map_cons, List.map_nil]); first | done | rfl | (simp only [List.length_drop, List.length_take]; rfl)) ?_; (with_reducible refine (impl_NextEdge.calls t414 t415 x15_2 t426 true _ A78.out).mono ?_); rintro e w86 ⟨rfl, hb⟩; refine ⟨_, rfl, ?_⟩; have n0_ := Aside0.mk (blk_below (g := gb413) (o := .cells #[.int .i64 t411, .int .i64 t412] 31 (0, 0)) (by (with_reducible repeat (first | refine blk_drewN ?_ _ | refine blk_drew ?_ | refine blk_alloc ?_ _)); exact BK413.out) hb); have n1_ := Aside0.mk (blk_below (g := gb416) (o := .cells #[.int .i64 t414, .int .i64 t415] 31 (0, 0)) (by (with_reducible repeat (first | refine blk_drewN ?_ _ | refine blk_drew ?_ | refine blk_alloc ?_ _)); exact BK416.out) hb); have n2_ := Aside0.mk (below_step (by repeat (first | (with_reducible first | exact HB.out | apply below_alloc | apply pw_below_drewN | apply below_drew1 | refine below_set ?_ GE413.out | refine below_set ?_ GE416.out) | exact HB.out)) hb); clear BK413; clear BK416; clear HB; have BK413 := n0_; have BK416 := n1_; have HB := n2_; clear n0_ n1_ n2_; (try clear hb); (try clear hb2); (try clear hk); (try clear hi)))
                                              go_meet
                                              case rel => exact ⟨_, (x14_2), (by first | rfl | (simp; done) | (simp [*]; done)), H', ⟨by have := HJ9.out; have := HK2.out; have := HJ47.out; have := HJ54.out; have := HJ61.out; have := HJ68.out; first | omega | exact Nat.le_refl _⟩, ⟨by (with_reducible repeat (first | refine blk_drewN ?_ _ | refine blk_drew ?_ | refine blk_alloc ?_ _)); exact BK413.out⟩, ⟨by (with_reducible repeat (first | refine blk_drewN ?_ _ | refine blk_drew ?_ | refine blk_alloc ?_ _)); exact BK416.out⟩, ⟨by repeat (first | (with_reducible first | exact HB.out | apply below_alloc | apply pw_below_drewN | apply below_drew1 | refine below_set ?_ GE413.out | refine below_set ?_ GE416.out) | exact HB.out)⟩⟩
                                        · replace c79 := Bool.eq_false_iff.mpr c79
                                          subst c79
                                          have H1 : (some false) = some r := by rw [if_neg (show ¬ (false = true) by decide)] at H; exact H
                                          clear H
                                          have H := H1
                                          clear H1
                                          as_aux_lemma =>
                                            obtain rfl := Option.some.inj H
                                            have hnb87 := NB416_413.out
                                            have hnc87 := NB413_416.out
                                            have hcz88_0 : wc.cell? ⟨gb416, 0, none⟩ = some (.int .i64 t414) := (blk_cell BK416.out 0).trans rfl
                                            have hcz88_1 : wc.cell? ⟨gb416, 1, none⟩ = some (.int .i64 t415) := (blk_cell BK416.out 1).trans rfl
                                            have hfz88_0 := blk_frozen BK416.out 0
                                            have hfz88_1 := blk_frozen BK416.out 1
                                            go_wp2_with (first | ((with_reducible refine gate_callee (f := 22) rfl ?_); refine goesL_ (some 165) rfl rfl Try.func22 (by kernel_rfl) rfl #[.agg #[.int .i64 t414, .int .i64 t415], .int .i64 x15_2] rfl (by (try simp only [List.map_toArray, List.map_cons, List.map_nil]); first | done | rfl | (simp only [List.length_drop, List.length_take]; rfl)) ?_; (with_reducible refine (impl_NextEdge.calls t414 t415 x15_2 t426 false _ A78.out).mono ?_); rintro e w89 ⟨rfl, hb⟩; refine ⟨_, rfl, ?_⟩; have n0_ := Aside0.mk (blk_below (g := gb413) (o := .cells #[.int .i64 t411, .int .i64 t412] 31 (0, 0)) (by (with_reducible repeat (first | refine blk_drewN ?_ _ | refine blk_drew ?_ | refine blk_alloc ?_ _)); exact BK413.out) hb); have n1_ := Aside0.mk (blk_below (g := gb416) (o := .cells #[.int .i64 t414, .int .i64 t415] 31 (0, 0)) (by (with_reducible repeat (first | refine blk_drewN ?_ _ | refine blk_drew ?_ | refine blk_alloc ?_ _)); exact BK416.out) hb); have n2_ := Aside0.mk (below_step (by repeat (first | (with_reducible first | exact HB.out | apply below_alloc | apply pw_below_drewN | apply below_drew1 | refine below_set ?_ GE413.out | refine below_set ?_ GE416.out) | exact HB.out)) hb); clear BK413; clear BK416; clear HB; have BK413 := n0_; have BK416 := n1_; have HB := n2_; clear n0_ n1_ n2_; (try clear hb); (try clear hb2); (try clear hk); (try clear hi)))
                                            go_ret
                                            exact ⟨by first | rfl | (simp [errW_none, errW_some] <;> rfl) | (simp [*, errW_none, errW_some] <;> rfl), by repeat (first | (with_reducible first | exact HB.out | apply below_alloc | apply pw_below_drewN | apply below_drew1 | refine below_set ?_ GE413.out | refine below_set ?_ GE416.out) | exact HB.out)⟩
                                      · replace c77 := Bool.eq_false_iff.mpr c77
                                        subst c77
                                        have H1 : (laws_FnMeetings.j6 kj68 t420 t421 t422 t424 x14_2 x15_2 x17_54 t411 t412 t414 t415) = some r := by rw [if_neg (show ¬ (false = true) by decide)] at H; exact H
                                        clear H
                                        have H := H1
                                        clear H1
                                        as_aux_lemma =>
                                          have H' := Aside0.mk H
                                          clear H
                                          go_wp2
                                          go_meet
                                          case rel => exact ⟨_, (x14_2), (by first | rfl | (simp; done) | (simp [*]; done)), H', ⟨by have := HJ9.out; have := HK2.out; have := HJ47.out; have := HJ54.out; have := HJ61.out; have := HJ68.out; first | omega | exact Nat.le_refl _⟩, ⟨by (with_reducible repeat (first | refine blk_drewN ?_ _ | refine blk_drew ?_ | refine blk_alloc ?_ _)); exact BK413.out⟩, ⟨by (with_reducible repeat (first | refine blk_drewN ?_ _ | refine blk_drew ?_ | refine blk_alloc ?_ _)); exact BK416.out⟩, ⟨by repeat (first | (with_reducible first | exact HB.out | apply below_alloc | apply pw_below_drewN | apply below_drew1 | refine below_set ?_ GE413.out | refine below_set ?_ GE416.out) | exact HB.out)⟩⟩
                                    case rest =>
                                      clear HC76
                                      try clear c1
                                      try clear c2
                                      try clear p2
                                      try clear c3
                                      try clear c4
                                      try clear c5
                                      try clear c6
                                      try clear p6
                                      try clear c7
                                      try clear c8
                                      try clear c9
                                      try clear c16
                                      try clear c17
                                      try clear c22
                                      try clear c27
                                      try clear c28
                                      try clear c29
                                      try clear c29b0
                                      try clear c29b1
                                      try clear c29b2
                                      try clear c30
                                      try clear c30b0
                                      try clear c30b1
                                      try clear c31
                                      try clear c31b0
                                      try clear c31b1
                                      try clear c32
                                      try clear c32b0
                                      try clear c32b1
                                      try clear c33
                                      try clear c33b0
                                      try clear c33b1
                                      try clear c34
                                      try clear c34b0
                                      try clear c35
                                      try clear c36
                                      try clear c37
                                      try clear c38
                                      try clear c41
                                      try clear c44
                                      try clear c46
                                      try clear c47
                                      try clear c47b0
                                      try clear c49
                                      try clear c49b0
                                      try clear c50
                                      try clear c50b0
                                      try clear c50b1
                                      try clear c51
                                      try clear c53
                                      try clear c56
                                      try clear c56b0
                                      try clear c57
                                      try clear c57b0
                                      try clear c57b1
                                      try clear c58
                                      try clear c60
                                      try clear c63
                                      try clear c64
                                      try clear p64
                                      try clear c65
                                      try clear c66
                                      try clear c66b0
                                      try clear c67
                                      try clear c67b0
                                      try clear c67b1
                                      try clear c68
                                      try clear c70
                                      try clear c71
                                      try clear c71b0
                                      try clear c71b1
                                      try clear c72
                                      try clear c72b0
                                      try clear c72b1
                                      try clear c73
                                      try clear c73b0
                                      try clear c74
                                      try clear c75
                                      try clear c77
                                      try clear c79
                                      try clear c80
                                      try clear c80b0
                                      try clear c81
                                      try clear c84
                                      try clear c87
                                      try clear hcz13_0
                                      try clear hcz13_1
                                      try clear hcz17_0
                                      try clear hcz17_1
                                      try clear hcz18_0
                                      try clear hcz18_1
                                      try clear hcz24_0
                                      try clear hcz24_1
                                      try clear hcz25_0
                                      try clear hcz25_1
                                      try clear hcz36_0
                                      try clear hcz36_1
                                      try clear hcz37_0
                                      try clear hcz37_1
                                      try clear hcz39_0
                                      try clear hcz39_1
                                      try clear hcz40_0
                                      try clear hcz40_1
                                      try clear hcz42_0
                                      try clear hcz42_1
                                      try clear hcz43_0
                                      try clear hcz43_1
                                      try clear hcz45_0
                                      try clear hcz45_1
                                      try clear hcz52_0
                                      try clear hcz52_1
                                      try clear hcz54_0
                                      try clear hcz54_1
                                      try clear hcz59_0
                                      try clear hcz59_1
                                      try clear hcz61_0
                                      try clear hcz61_1
                                      try clear hcz82_0
                                      try clear hcz82_1
                                      try clear hcz85_0
                                      try clear hcz85_1
                                      try clear hcz88_0
                                      try clear hcz88_1
                                      try clear hfz13_0
                                      try clear hfz13_1
                                      try clear hfz17_0
                                      try clear hfz17_1
                                      try clear hfz18_0
                                      try clear hfz18_1
                                      try clear hfz24_0
                                      try clear hfz24_1
                                      try clear hfz25_0
                                      try clear hfz25_1
                                      try clear hfz36_0
                                      try clear hfz36_1
                                      try clear hfz37_0
                                      try clear hfz37_1
                                      try clear hfz39_0
                                      try clear hfz39_1
                                      try clear hfz40_0
                                      try clear hfz40_1
                                      try clear hfz42_0
                                      try clear hfz42_1
                                      try clear hfz43_0
                                      try clear hfz43_1
                                      try clear hfz45_0
                                      try clear hfz45_1
                                      try clear hfz52_0
                                      try clear hfz52_1
                                      try clear hfz54_0
                                      try clear hfz54_1
                                      try clear hfz59_0
                                      try clear hfz59_1
                                      try clear hfz61_0
                                      try clear hfz61_1
                                      try clear hfz82_0
                                      try clear hfz82_1
                                      try clear hfz85_0
                                      try clear hfz85_1
                                      try clear hfz88_0
                                      try clear hfz88_1
                                      try clear p2
                                      try clear p6
                                      try clear p64
                                      obtain ⟨kq, x14_75, rfl, HA, HJ75, BK413, BK416, HB⟩ := hcut
                                      cases kq with
                                      | zero => exact absurd HA.out (by simp [laws_FnMeetings.j6])
                                      | succ kj75 =>
                                        have H := HA.out
                                        clear HA
                                        simp only [laws_FnMeetings.j6] at H
                                        by_cases c90 : x17_54 = true
                                        · subst c90
                                          have H1 : ((impl_NextEdge.f t411 t412 x15_2).bind fun bt428 => (if bt428.2 = true then (if (wrap64 (bt428.1 - x15_2)) < x14_75 then (laws_FnMeetings.l0 kj75 t420 t421 t422 t424 (wrap64 (bt428.1 - x15_2)) (wrap64 (x15_2 + 1)) t411 t412 t414 t415) else (laws_FnMeetings.l0 kj75 t420 t421 t422 t424 x14_75 (wrap64 (x15_2 + 1)) t411 t412 t414 t415)) else (some false))) = some r := by rw [if_pos rfl] at H; exact H
                                          clear H
                                          have H := H1
                                          clear H1
                                          replace H := Option.bind_eq_some_iff.mp H
                                          obtain ⟨⟨t428, t429⟩, A910, H⟩ := H
                                          replace H : (if t429 = true then (if (wrap64 (t428 - x15_2)) < x14_75 then (laws_FnMeetings.l0 kj75 t420 t421 t422 t424 (wrap64 (t428 - x15_2)) (wrap64 (x15_2 + 1)) t411 t412 t414 t415) else (laws_FnMeetings.l0 kj75 t420 t421 t422 t424 x14_75 (wrap64 (x15_2 + 1)) t411 t412 t414 t415)) else (some false)) = some r := H
                                          have A91 := Aside0.mk A910
                                          clear A910
                                          by_cases c92 : t429 = true
                                          · subst c92
                                            have H1 : (if (wrap64 (t428 - x15_2)) < x14_75 then (laws_FnMeetings.l0 kj75 t420 t421 t422 t424 (wrap64 (t428 - x15_2)) (wrap64 (x15_2 + 1)) t411 t412 t414 t415) else (laws_FnMeetings.l0 kj75 t420 t421 t422 t424 x14_75 (wrap64 (x15_2 + 1)) t411 t412 t414 t415)) = some r := by rw [if_pos rfl] at H; exact H
                                            clear H
                                            have H := H1
                                            clear H1
                                            by_cases c93 : (wrap64 (t428 - x15_2)) < x14_75
                                            · rw [if_pos c93] at H
                                              have c93b0 : decide ((wrap64 (t428 - x15_2)) < x14_75) = true := decide_eq_true c93
                                              clear c93
                                              as_aux_lemma =>
                                                have H' := Aside0.mk H
                                                clear H
                                                have hnb94 := NB413_416.out
                                                have hnc94 := NB416_413.out
                                                have hcz95_0 : wc.cell? ⟨gb413, 0, none⟩ = some (.int .i64 t411) := (blk_cell BK413.out 0).trans rfl
                                                have hcz95_1 : wc.cell? ⟨gb413, 1, none⟩ = some (.int .i64 t412) := (blk_cell BK413.out 1).trans rfl
                                                have hfz95_0 := blk_frozen BK413.out 0
                                                have hfz95_1 := blk_frozen BK413.out 1
                                                go_wp2_with (first | ((with_reducible refine gate_callee (f := 22) rfl ?_); refine goesL_ (some 182) rfl rfl Try.func22 (by kernel_rfl) rfl #[.agg #[.int .i64 t411, .int .i64 t412], .int .i64 x15_2] rfl (by (try simp only [List.map_toArray, List.map_cons, List.map_nil]); first | done | rfl | (simp only [List.length_drop, List.length_take]; rfl)) ?_; (with_reducible refine (impl_NextEdge.calls t411 t412 x15_2 t428 true _ A91.out).mono ?_); rintro e w96 ⟨rfl, hb⟩; refine ⟨_, rfl, ?_⟩; have n0_ := Aside0.mk (blk_below (g := gb413) (o := .cells #[.int .i64 t411, .int .i64 t412] 31 (0, 0)) (by (with_reducible repeat (first | refine blk_drewN ?_ _ | refine blk_drew ?_ | refine blk_alloc ?_ _)); exact BK413.out) hb); have n1_ := Aside0.mk (blk_below (g := gb416) (o := .cells #[.int .i64 t414, .int .i64 t415] 31 (0, 0)) (by (with_reducible repeat (first | refine blk_drewN ?_ _ | refine blk_drew ?_ | refine blk_alloc ?_ _)); exact BK416.out) hb); have n2_ := Aside0.mk (below_step (by repeat (first | (with_reducible first | exact HB.out | apply below_alloc | apply pw_below_drewN | apply below_drew1 | refine below_set ?_ GE413.out | refine below_set ?_ GE416.out) | exact HB.out)) hb); clear BK413; clear BK416; clear HB; have BK413 := n0_; have BK416 := n1_; have HB := n2_; clear n0_ n1_ n2_; (try clear hb); (try clear hb2); (try clear hk); (try clear hi)))
                                                go_roundg kj75
                                                case measure => have := HJ9.out; have := HK2.out; have := HJ47.out; have := HJ54.out; have := HJ61.out; have := HJ68.out; have := HJ75.out; omega
                                                case rel => exact ⟨(wrap64 (t428 - x15_2)), (wrap64 (x15_2 + 1)), (by first | rfl | (simp; done) | (simp [*]; done)), (by first | rfl | (simp; done) | (simp [*]; done)), H', ⟨by have := HJ9.out; have := HK2.out; have := HJ47.out; have := HJ54.out; have := HJ61.out; have := HJ68.out; have := HJ75.out; omega⟩, ⟨by (with_reducible repeat (first | refine blk_drewN ?_ _ | refine blk_drew ?_ | refine blk_alloc ?_ _)); exact BK413.out⟩, ⟨by (with_reducible repeat (first | refine blk_drewN ?_ _ | refine blk_drew ?_ | refine blk_alloc ?_ _)); exact BK416.out⟩, ⟨by repeat (first | (with_reducible first | exact HB.out | apply below_alloc | apply pw_below_drewN | apply below_drew1 | refine below_set ?_ GE413.out | refine below_set ?_ GE416.out) | exact HB.out)⟩⟩
                                            · rw [if_neg c93] at H
                                              have c93b0 : decide ((wrap64 (t428 - x15_2)) < x14_75) = false := decide_eq_false c93
                                              clear c93
                                              as_aux_lemma =>
                                                have H' := Aside0.mk H
                                                clear H
                                                have hnb97 := NB413_416.out
                                                have hnc97 := NB416_413.out
                                                have hcz98_0 : wc.cell? ⟨gb413, 0, none⟩ = some (.int .i64 t411) := (blk_cell BK413.out 0).trans rfl
                                                have hcz98_1 : wc.cell? ⟨gb413, 1, none⟩ = some (.int .i64 t412) := (blk_cell BK413.out 1).trans rfl
                                                have hfz98_0 := blk_frozen BK413.out 0
                                                have hfz98_1 := blk_frozen BK413.out 1
                                                go_wp2_with (first | ((with_reducible refine gate_callee (f := 22) rfl ?_); refine goesL_ (some 182) rfl rfl Try.func22 (by kernel_rfl) rfl #[.agg #[.int .i64 t411, .int .i64 t412], .int .i64 x15_2] rfl (by (try simp only [List.map_toArray, List.map_cons, List.map_nil]); first | done | rfl | (simp only [List.length_drop, List.length_take]; rfl)) ?_; (with_reducible refine (impl_NextEdge.calls t411 t412 x15_2 t428 true _ A91.out).mono ?_); rintro e w99 ⟨rfl, hb⟩; refine ⟨_, rfl, ?_⟩; have n0_ := Aside0.mk (blk_below (g := gb413) (o := .cells #[.int .i64 t411, .int .i64 t412] 31 (0, 0)) (by (with_reducible repeat (first | refine blk_drewN ?_ _ | refine blk_drew ?_ | refine blk_alloc ?_ _)); exact BK413.out) hb); have n1_ := Aside0.mk (blk_below (g := gb416) (o := .cells #[.int .i64 t414, .int .i64 t415] 31 (0, 0)) (by (with_reducible repeat (first | refine blk_drewN ?_ _ | refine blk_drew ?_ | refine blk_alloc ?_ _)); exact BK416.out) hb); have n2_ := Aside0.mk (below_step (by repeat (first | (with_reducible first | exact HB.out | apply below_alloc | apply pw_below_drewN | apply below_drew1 | refine below_set ?_ GE413.out | refine below_set ?_ GE416.out) | exact HB.out)) hb); clear BK413; clear BK416; clear HB; have BK413 := n0_; have BK416 := n1_; have HB := n2_; clear n0_ n1_ n2_; (try clear hb); (try clear hb2); (try clear hk); (try clear hi)))
                                                go_roundg kj75
                                                case measure => have := HJ9.out; have := HK2.out; have := HJ47.out; have := HJ54.out; have := HJ61.out; have := HJ68.out; have := HJ75.out; omega
                                                case rel => exact ⟨(x14_75), (wrap64 (x15_2 + 1)), (by first | rfl | (simp; done) | (simp [*]; done)), (by first | rfl | (simp; done) | (simp [*]; done)), H', ⟨by have := HJ9.out; have := HK2.out; have := HJ47.out; have := HJ54.out; have := HJ61.out; have := HJ68.out; have := HJ75.out; omega⟩, ⟨by (with_reducible repeat (first | refine blk_drewN ?_ _ | refine blk_drew ?_ | refine blk_alloc ?_ _)); exact BK413.out⟩, ⟨by (with_reducible repeat (first | refine blk_drewN ?_ _ | refine blk_drew ?_ | refine blk_alloc ?_ _)); exact BK416.out⟩, ⟨by repeat (first | (with_reducible first | exact HB.out | apply below_alloc | apply pw_below_drewN | apply below_drew1 | refine below_set ?_ GE413.out | refine below_set ?_ GE416.out) | exact HB.out)⟩⟩
                                          · replace c92 := Bool.eq_false_iff.mpr c92
                                            subst c92
                                            have H1 : (some false) = some r := by rw [if_neg (show ¬ (false = true) by decide)] at H; exact H
                                            clear H
                                            have H := H1
                                            clear H1
                                            as_aux_lemma =>
                                              obtain rfl := Option.some.inj H
                                              have hnb100 := NB413_416.out
                                              have hnc100 := NB416_413.out
                                              have hcz101_0 : wc.cell? ⟨gb413, 0, none⟩ = some (.int .i64 t411) := (blk_cell BK413.out 0).trans rfl
                                              have hcz101_1 : wc.cell? ⟨gb413, 1, none⟩ = some (.int .i64 t412) := (blk_cell BK413.out 1).trans rfl
                                              have hfz101_0 := blk_frozen BK413.out 0
                                              have hfz101_1 := blk_frozen BK413.out 1
                                              go_wp2_with (first | ((with_reducible refine gate_callee (f := 22) rfl ?_); refine goesL_ (some 182) rfl rfl Try.func22 (by kernel_rfl) rfl #[.agg #[.int .i64 t411, .int .i64 t412], .int .i64 x15_2] rfl (by (try simp only [List.map_toArray, List.map_cons, List.map_nil]); first | done | rfl | (simp only [List.length_drop, List.length_take]; rfl)) ?_; (with_reducible refine (impl_NextEdge.calls t411 t412 x15_2 t428 false _ A91.out).mono ?_); rintro e w102 ⟨rfl, hb⟩; refine ⟨_, rfl, ?_⟩; have n0_ := Aside0.mk (blk_below (g := gb413) (o := .cells #[.int .i64 t411, .int .i64 t412] 31 (0, 0)) (by (with_reducible repeat (first | refine blk_drewN ?_ _ | refine blk_drew ?_ | refine blk_alloc ?_ _)); exact BK413.out) hb); have n1_ := Aside0.mk (blk_below (g := gb416) (o := .cells #[.int .i64 t414, .int .i64 t415] 31 (0, 0)) (by (with_reducible repeat (first | refine blk_drewN ?_ _ | refine blk_drew ?_ | refine blk_alloc ?_ _)); exact BK416.out) hb); have n2_ := Aside0.mk (below_step (by repeat (first | (with_reducible first | exact HB.out | apply below_alloc | apply pw_below_drewN | apply below_drew1 | refine below_set ?_ GE413.out | refine below_set ?_ GE416.out) | exact HB.out)) hb); clear BK413; clear BK416; clear HB; have BK413 := n0_; have BK416 := n1_; have HB := n2_; clear n0_ n1_ n2_; (try clear hb); (try clear hb2); (try clear hk); (try clear hi)))
                                              go_ret
                                              exact ⟨by first | rfl | (simp [errW_none, errW_some] <;> rfl) | (simp [*, errW_none, errW_some] <;> rfl), by repeat (first | (with_reducible first | exact HB.out | apply below_alloc | apply pw_below_drewN | apply below_drew1 | refine below_set ?_ GE413.out | refine below_set ?_ GE416.out) | exact HB.out)⟩
                                        · replace c90 := Bool.eq_false_iff.mpr c90
                                          subst c90
                                          have H1 : (laws_FnMeetings.l0 kj75 t420 t421 t422 t424 x14_75 (wrap64 (x15_2 + 1)) t411 t412 t414 t415) = some r := by rw [if_neg (show ¬ (false = true) by decide)] at H; exact H
                                          clear H
                                          have H := H1
                                          clear H1
                                          as_aux_lemma =>
                                            have H' := Aside0.mk H
                                            clear H
                                            go_wp2
                                            go_roundg kj75
                                            case measure => have := HJ9.out; have := HK2.out; have := HJ47.out; have := HJ54.out; have := HJ61.out; have := HJ68.out; have := HJ75.out; omega
                                            case rel => exact ⟨(x14_75), (wrap64 (x15_2 + 1)), (by first | rfl | (simp; done) | (simp [*]; done)), (by first | rfl | (simp; done) | (simp [*]; done)), H', ⟨by have := HJ9.out; have := HK2.out; have := HJ47.out; have := HJ54.out; have := HJ61.out; have := HJ68.out; have := HJ75.out; omega⟩, ⟨by (with_reducible repeat (first | refine blk_drewN ?_ _ | refine blk_drew ?_ | refine blk_alloc ?_ _)); exact BK413.out⟩, ⟨by (with_reducible repeat (first | refine blk_drewN ?_ _ | refine blk_drew ?_ | refine blk_alloc ?_ _)); exact BK416.out⟩, ⟨by repeat (first | (with_reducible first | exact HB.out | apply below_alloc | apply pw_below_drewN | apply below_drew1 | refine below_set ?_ GE413.out | refine below_set ?_ GE416.out) | exact HB.out)⟩⟩
              · rw [if_neg c47] at H
                have c47b0 : decide (x15_2 < 900) = false := decide_eq_false c47
                clear c47
                as_aux_lemma =>
                  obtain rfl := Option.some.inj H
                  go_wp2
                  go_ret
                  exact ⟨by first | rfl | (simp [errW_none, errW_some] <;> rfl) | (simp [*, errW_none, errW_some] <;> rfl), by repeat (first | (with_reducible first | exact HB.out | apply below_alloc | apply pw_below_drewN | apply below_drew1 | refine below_set ?_ GE413.out | refine below_set ?_ GE416.out) | exact HB.out)⟩

/-- THE ONE PURE STATEMENT of laws_FnMeetings: yours. -/
def laws_FnMeetings.Pure : Prop := ∀ (l0 : List Int) (l1 : List Int), l0.length ≤ maxLen → l0.length * 1 ≤ 140737488351232 → (∀ x ∈ l0, (Lit.int .u8 x).wf = true) → l1.length ≤ maxLen → l1.length * 1 ≤ 140737488351232 → (∀ x ∈ l1, (Lit.int .u8 x).wf = true) → ∃ k, laws_FnMeetings.f k l0 l1 = some true
theorem laws_FnMeetings.walk (P : laws_FnMeetings.Pure) (a0 : Option Addr) (len0 cap0 : Nat) (z0 : List Int) (a1 : Option Addr) (len1 cap1 : Nat) (z1 : List Int) (w : World) (w0 : (a0 = none ∧ len0 = 0 ∧ cap0 = 0 ∧ z0 = []) ∨ ∃ x, a0 = some x ∧ len0 ≤ cap0 ∧ cap0 ≤ maxLen ∧ z0.length = cap0 ∧ (∀ i, i < z0.length → w.cell? (x.add i) = some (.int .u8 (z0.getD i 0))) ∧ ∀ n ∈ z0, (Lit.int .u8 n).wf = true) (y0 : len0 * 1 ≤ 140737488351232) (w1 : (a1 = none ∧ len1 = 0 ∧ cap1 = 0 ∧ z1 = []) ∨ ∃ x, a1 = some x ∧ len1 ≤ cap1 ∧ cap1 ≤ maxLen ∧ z1.length = cap1 ∧ (∀ i, i < z1.length → w.cell? (x.add i) = some (.int .u8 (z1.getD i 0))) ∧ ∀ n ∈ z1, (Lit.int .u8 n).wf = true) (y1 : len1 * 1 ≤ 140737488351232) :
    Calls Try.prog 9 #[.slice a0 len0 cap0, .slice a1 len1 cap1] w fun e w' => e = .returned (.bool true) ∧ Below w.heap.size w w' := by
  obtain ⟨l0, rfl, hr0, hm0, hw0, hc0⟩ := ReadsInt.ofRowC w0
  obtain ⟨l1, rfl, hr1, hm1, hw1, hc1⟩ := ReadsInt.ofRowC w1
  obtain ⟨k, h⟩ := P l0 l1 hm0 y0 hw0 hm1 y1 hw1
  refine (laws_FnMeetings.calls k _ _ l0 _ _ l1 true w (Kd.C_of_reads (d := (0 : Int)) (h1 := fun _ => rfl) hr0) hc0 (Kd.C_of_reads (d := (0 : Int)) (h1 := fun _ => rfl) hr1) hc1 h).mono ?_
  rintro e w' ⟨rfl, hd⟩
  exact ⟨rfl, hd⟩

end Go.Proofs.Ytfoedfigjcmjbaa.A
