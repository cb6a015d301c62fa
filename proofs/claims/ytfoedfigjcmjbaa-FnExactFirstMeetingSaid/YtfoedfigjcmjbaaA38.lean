-- Printed by this session's oprint.py through the kit's printer.
import Derived.Test.YtfoedfigjcmjbaaA0
import Derived.Test.YtfoedfigjcmjbaaA55
import Derived.Test.YtfoedfigjcmjbaaA58
import Derived.Test.YtfoedfigjcmjbaaA59
namespace Go.Proofs.Ytfoedfigjcmjbaa.A
open Go.RowKit Go.Proofs.YtfoedfigjcmjbaaW.PrintWords Go.Proofs.YtfoedfigjcmjbaaW.PrintLast Go.Proofs.YtfoedfigjcmjbaaW.PrintMore
attribute [local go_sem] max2_int min2_int max_two min_two max_three min_three max_four min_four   -- for this text's walks alone
set_option linter.unusedVariables false
set_option linter.unusedSimpArgs false

/-! ### spec_FirstMeeting: function 38 -/
mutual
def spec_FirstMeeting.l0 : Nat → List (S31) → Int → Int → Option (Int × Bool)
  | 0, _, _, _ => none
  | k + 1, x0, x4, x5 => if x5 < (x0.length : Int) then (if 0 ≤ x5 then ((spec_l00Max.f x4 ((rd_T31 x0 x5).f1)).bind fun t432 => (spec_FirstMeeting.l0 k x0 t432 (wrap64 (x5 + 1)))) else (none)) else (spec_FirstMeeting.l1 k x0 x4 1 0)
def spec_FirstMeeting.l1 : Nat → List (S31) → Int → Int → Int → Option (Int × Bool)
  | 0, _, _, _, _ => none
  | k + 1, x0, x6, x7, x8 => if x8 < (x0.length : Int) then (if 0 ≤ x8 then ((spec_l01Gcd.f k x7 ((rd_T31 x0 x8).f0)).bind fun t435 => (if t435 = 0 then (none) else (spec_FirstMeeting.l2 k x0 x6 x7 x8 (wrap64 (Int.tdiv ((rd_T31 x0 x8).f0) t435)) 0 ((rd_T31 x0 x8).f0) ((rd_T31 x0 x8).f1)))) else (none)) else (some (x6, true))
def spec_FirstMeeting.l2 : Nat → List (S31) → Int → Int → Int → Int → Int → Int → Int → Option (Int × Bool)
  | 0, _, _, _, _, _, _, _, _ => none
  | k + 1, x0, x6, x7, x8, x10, x11, x435000, x435001 => if x435000 = 0 then (none) else (if (Int.tmod (wrap64 (x6 - x435001)) x435000) = 0 then (if (wrap64 (x8 + 1)) < (x0.length : Int) then (if (wrap64 (x7 * x10)) > 1000000000000 then (spec_FirstMeeting.l3 k x0 x6 (wrap64 (x8 + 1))) else (spec_FirstMeeting.l1 k x0 x6 (wrap64 (x7 * x10)) (wrap64 (x8 + 1)))) else (spec_FirstMeeting.l1 k x0 x6 x7 (wrap64 (x8 + 1)))) else (if (wrap64 (x11 + 1)) ≥ x10 then (some (0, false)) else (if (wrap64 (x6 + x7)) > 1000000000000 then (some (0, false)) else (spec_FirstMeeting.l2 k x0 (wrap64 (x6 + x7)) x7 x8 x10 (wrap64 (x11 + 1)) x435000 x435001))))
def spec_FirstMeeting.l3 : Nat → List (S31) → Int → Int → Option (Int × Bool)
  | 0, _, _, _ => none
  | k + 1, x0, x6, x12 => if x12 < (x0.length : Int) then (if 0 ≤ x12 then (if ((rd_T31 x0 x12).f0) = 0 then (none) else (if (Int.tmod (wrap64 (x6 - ((rd_T31 x0 x12).f1))) ((rd_T31 x0 x12).f0)) = 0 then (spec_FirstMeeting.l3 k x0 x6 (wrap64 (x12 + 1))) else (some (0, false)))) else (none)) else (some (x6, true))
end
def spec_FirstMeeting.f (k : Nat) (l0 : List (S31)) : Option (Int × Bool) := (spec_l10All.f k l0).bind fun t430 => (if t430 = true then (spec_FirstMeeting.l0 k l0 0 0) else (some (0, false)))
theorem spec_FirstMeeting.mono_l : ∀ k, (∀ y0 y1 y2, LeO (spec_FirstMeeting.l0 k y0 y1 y2) (spec_FirstMeeting.l0 (k + 1) y0 y1 y2)) ∧ (∀ y0 y1 y2 y3, LeO (spec_FirstMeeting.l1 k y0 y1 y2 y3) (spec_FirstMeeting.l1 (k + 1) y0 y1 y2 y3)) ∧ (∀ y0 y1 y2 y3 y4 y5 y6 y7, LeO (spec_FirstMeeting.l2 k y0 y1 y2 y3 y4 y5 y6 y7) (spec_FirstMeeting.l2 (k + 1) y0 y1 y2 y3 y4 y5 y6 y7)) ∧ (∀ y0 y1 y2, LeO (spec_FirstMeeting.l3 k y0 y1 y2) (spec_FirstMeeting.l3 (k + 1) y0 y1 y2))
  | 0 => ⟨fun _ _ _ r h => by simp [spec_FirstMeeting.l0] at h, fun _ _ _ _ r h => by simp [spec_FirstMeeting.l1] at h, fun _ _ _ _ _ _ _ _ r h => by simp [spec_FirstMeeting.l2] at h, fun _ _ _ r h => by simp [spec_FirstMeeting.l3] at h⟩
  | k + 1 => by
    obtain ⟨ih0, ih1, ih2, ih3⟩ := spec_FirstMeeting.mono_l k
    refine ⟨?_, ?_, ?_, ?_⟩
    · intro y0 y1 y2
      unfold spec_FirstMeeting.l0
      repeat' first
      | (with_reducible exact ih0 _ _ _)
      | (with_reducible exact ih1 _ _ _ _)
      | (with_reducible exact ih2 _ _ _ _ _ _ _ _)
      | (with_reducible exact ih3 _ _ _)
      | (with_reducible exact spec_l01Gcd.mono _ _ _)
      | (with_reducible exact spec_l10All.mono _ _)
      | (with_reducible exact LeO.refl _)
      | (with_reducible exact LeO.none _)
      | (with_reducible refine LeO.ite ?_ ?_)
      | (with_reducible refine LeO.bind ?_ (fun _ => ?_))
      | exact ih0 _ _ _
      | exact ih1 _ _ _ _
      | exact ih2 _ _ _ _ _ _ _ _
      | exact ih3 _ _ _
      | exact spec_l01Gcd.mono _ _ _
      | exact spec_l10All.mono _ _
      | exact LeO.none _
      | refine LeO.ite ?_ ?_
      | refine LeO.bind ?_ (fun _ => ?_)
    · intro y0 y1 y2 y3
      unfold spec_FirstMeeting.l1
      repeat' first
      | (with_reducible exact ih0 _ _ _)
      | (with_reducible exact ih1 _ _ _ _)
      | (with_reducible exact ih2 _ _ _ _ _ _ _ _)
      | (with_reducible exact ih3 _ _ _)
      | (with_reducible exact spec_l01Gcd.mono _ _ _)
      | (with_reducible exact spec_l10All.mono _ _)
      | (with_reducible exact LeO.refl _)
      | (with_reducible exact LeO.none _)
      | (with_reducible refine LeO.ite ?_ ?_)
      | (with_reducible refine LeO.bind ?_ (fun _ => ?_))
      | exact ih0 _ _ _
      | exact ih1 _ _ _ _
      | exact ih2 _ _ _ _ _ _ _ _
      | exact ih3 _ _ _
      | exact spec_l01Gcd.mono _ _ _
      | exact spec_l10All.mono _ _
      | exact LeO.none _
      | refine LeO.ite ?_ ?_
      | refine LeO.bind ?_ (fun _ => ?_)
    · intro y0 y1 y2 y3 y4 y5 y6 y7
      unfold spec_FirstMeeting.l2
      repeat' first
      | (with_reducible exact ih0 _ _ _)
      | (with_reducible exact ih1 _ _ _ _)
      | (with_reducible exact ih2 _ _ _ _ _ _ _ _)
      | (with_reducible exact ih3 _ _ _)
      | (with_reducible exact spec_l01Gcd.mono _ _ _)
      | (with_reducible exact spec_l10All.mono _ _)
      | (with_reducible exact LeO.refl _)
      | (with_reducible exact LeO.none _)
      | (with_reducible refine LeO.ite ?_ ?_)
      | (with_reducible refine LeO.bind ?_ (fun _ => ?_))
      | exact ih0 _ _ _
      | exact ih1 _ _ _ _
      | exact ih2 _ _ _ _ _ _ _ _
      | exact ih3 _ _ _
      | exact spec_l01Gcd.mono _ _ _
      | exact spec_l10All.mono _ _
      | exact LeO.none _
      | refine LeO.ite ?_ ?_
      | refine LeO.bind ?_ (fun _ => ?_)
    · intro y0 y1 y2
      unfold spec_FirstMeeting.l3
      repeat' first
      | (with_reducible exact ih0 _ _ _)
      | (with_reducible exact ih1 _ _ _ _)
      | (with_reducible exact ih2 _ _ _ _ _ _ _ _)
      | (with_reducible exact ih3 _ _ _)
      | (with_reducible exact spec_l01Gcd.mono _ _ _)
      | (with_reducible exact spec_l10All.mono _ _)
      | (with_reducible exact LeO.refl _)
      | (with_reducible exact LeO.none _)
      | (with_reducible refine LeO.ite ?_ ?_)
      | (with_reducible refine LeO.bind ?_ (fun _ => ?_))
      | exact ih0 _ _ _
      | exact ih1 _ _ _ _
      | exact ih2 _ _ _ _ _ _ _ _
      | exact ih3 _ _ _
      | exact spec_l01Gcd.mono _ _ _
      | exact spec_l10All.mono _ _
      | exact LeO.none _
      | refine LeO.ite ?_ ?_
      | refine LeO.bind ?_ (fun _ => ?_)
theorem spec_FirstMeeting.mono : ∀ a0 k, LeO (spec_FirstMeeting.f k a0) (spec_FirstMeeting.f (k + 1) a0) := by
  intro a0 k
  obtain ⟨ih0, ih1, ih2, ih3⟩ := spec_FirstMeeting.mono_l k
  unfold spec_FirstMeeting.f
  repeat' first
      | (with_reducible exact ih0 _ _ _)
      | (with_reducible exact ih1 _ _ _ _)
      | (with_reducible exact ih2 _ _ _ _ _ _ _ _)
      | (with_reducible exact ih3 _ _ _)
      | (with_reducible exact spec_l01Gcd.mono _ _ _)
      | (with_reducible exact spec_l10All.mono _ _)
      | (with_reducible exact LeO.refl _)
      | (with_reducible exact LeO.none _)
      | (with_reducible refine LeO.ite ?_ ?_)
      | (with_reducible refine LeO.bind ?_ (fun _ => ?_))
      | exact ih0 _ _ _
      | exact ih1 _ _ _ _
      | exact ih2 _ _ _ _ _ _ _ _
      | exact ih3 _ _ _
      | exact spec_l01Gcd.mono _ _ _
      | exact spec_l10All.mono _ _
      | exact LeO.none _
      | refine LeO.ite ?_ ?_
      | refine LeO.bind ?_ (fun _ => ?_)
set_option maxHeartbeats 8000000 in
set_option maxRecDepth 100000 in
theorem spec_FirstMeeting.calls (k : Nat) (A0 : Option Addr) (c0 : Nat) (l0 : List (S31)) (r1 : Int) (r2 : Bool) (w : World) (hr0 : Kd.C k31 w A0 l0.length l0) (hc0 : l0.length ≤ c0) (h : spec_FirstMeeting.f k l0 = some (r1, r2)) :
    Calls Try.prog 38 #[.slice A0 l0.length c0] w fun e w' => e = .returned (.tuple #[.int .i64 r1, .bool r2]) ∧ Below w.heap.size w w' := by
  have hu31 := Try.underlying31
  have HR0 := Aside0.mk hr0
  have HC0 := Aside0.mk hc0
  clear hr0 hc0
  have HB := Aside0.mk (Below.refl w.heap.size w)
  have H : ((spec_l10All.f k l0).bind fun t430 => (if t430 = true then (spec_FirstMeeting.l0 k l0 0 0) else (some (0, false)))) = some (r1, r2) := h
  clear h
  replace H := Option.bind_eq_some_iff.mp H
  obtain ⟨t430, A20, H⟩ := H
  replace H : (if t430 = true then (spec_FirstMeeting.l0 k l0 0 0) else (some (0, false))) = some (r1, r2) := H
  have A2 := Aside0.mk A20
  clear A20
  by_cases c3 : t430 = true
  · subst c3
    have H1 : (spec_FirstMeeting.l0 k l0 0 0) = some (r1, r2) := by rw [if_pos rfl] at H; exact H
    clear H
    have H := H1
    clear H1
    have H' := Aside0.mk H
    clear H
    go_enter Try.func38, Try.ntmps38
    go_wp2_with (first | (go_at_call 55; (with_reducible refine (spec_l10All.calls k _ _ l0 true _ ?side1 ?side2 A2.out).mono ?_); (case side1 => repeat (first | exact HR0.out | (with_reducible refine Kd.C_alloc ?_ _) | (with_reducible refine Kd.C_drewN ?_ _) | (with_reducible refine Kd.C_drew ?_))); (case side2 => exact HC0.out); rintro e w4 ⟨rfl, hb⟩; have n0_ := Aside0.mk (below_step (by repeat (first | (with_reducible first | exact HB.out | apply below_alloc | apply pw_below_drewN | apply below_drew1) | exact HB.out)) hb); clear HB; have HB := n0_; clear n0_; (try clear hb); (try clear hb2); (try clear hk); (try clear hi)))
    repeat (go_quiet (first | (go_at_call 55; (with_reducible refine (spec_l10All.calls k _ _ l0 true _ ?side1 ?side2 A2.out).mono ?_); (case side1 => repeat (first | exact HR0.out | (with_reducible refine Kd.C_alloc ?_ _) | (with_reducible refine Kd.C_drewN ?_ _) | (with_reducible refine Kd.C_drew ?_))); (case side2 => exact HC0.out); rintro e w4 ⟨rfl, hb⟩; have n0_ := Aside0.mk (below_step (by repeat (first | (with_reducible first | exact HB.out | apply below_alloc | apply pw_below_drewN | apply below_drew1) | exact HB.out)) hb); clear HB; have HB := n0_; clear n0_; (try clear hb); (try clear hb2); (try clear hk); (try clear hi))); (try simp only [i64_w, i32_w]); try go_wp2_with (first | (go_at_call 55; (with_reducible refine (spec_l10All.calls k _ _ l0 true _ ?side1 ?side2 A2.out).mono ?_); (case side1 => repeat (first | exact HR0.out | (with_reducible refine Kd.C_alloc ?_ _) | (with_reducible refine Kd.C_drewN ?_ _) | (with_reducible refine Kd.C_drew ?_))); (case side2 => exact HC0.out); rintro e w4 ⟨rfl, hb⟩; have n0_ := Aside0.mk (below_step (by repeat (first | (with_reducible first | exact HB.out | apply below_alloc | apply pw_below_drewN | apply below_drew1) | exact HB.out)) hb); clear HB; have HB := n0_; clear n0_; (try clear hb); (try clear hb2); (try clear hk); (try clear hi))))
    go_loopg [4, 5] k (fun kq v4 v5 w' => ∃ (x4_1 : Int) (x5_1 : Int), v4 = .int .i64 x4_1 ∧ v5 = .int .i64 x5_1 ∧ Aside0 (spec_FirstMeeting.l0 kq l0 x4_1 x5_1 = some (r1, r2)) ∧ Aside0 (kq ≤ k) ∧ Aside0 (Below w.heap.size w w'))
    case atStart => exact ⟨(0), (0), (by first | rfl | (simp; done) | (simp [*]; done)), (by first | rfl | (simp; done) | (simp [*]; done)), H', ⟨Nat.le_refl _⟩, ⟨by repeat (first | (with_reducible first | exact HB.out | apply below_alloc | apply pw_below_drewN | apply below_drew1) | exact HB.out)⟩⟩
    case round =>
      clear H'
      try clear p2
      try clear c3
      obtain ⟨x4_1, x5_1, rfl, rfl, HA, HK1, HB⟩ := hrel
      cases gk with
      | zero => exact absurd HA.out (by simp [spec_FirstMeeting.l0])
      | succ k1 =>
        have H := HA.out
        clear HA
        simp only [spec_FirstMeeting.l0] at H
        by_cases c5 : x5_1 < (l0.length : Int)
        · rw [if_pos c5] at H
          have c5b0 : decide (x5_1 < (l0.length : Int)) = true := decide_eq_true c5
          clear c5
          by_cases c6 : 0 ≤ x5_1
          · rw [if_pos c6] at H
            have c6b0 : decide (0 ≤ x5_1) = true := decide_eq_true c6
            clear c6
            replace H := Option.bind_eq_some_iff.mp H
            obtain ⟨t432, A70, H⟩ := H
            replace H : (spec_FirstMeeting.l0 k1 l0 t432 (wrap64 (x5_1 + 1))) = some (r1, r2) := H
            have A7 := Aside0.mk A70
            clear A70
            have H' := Aside0.mk H
            clear H
            have p431 : 0 ≤ (x5_1 : Int) := of_decide_eq_true (by first | (with_reducible assumption) | assumption)
            have q431 : x5_1 < (l0.length : Int) := of_decide_eq_true (by first | (with_reducible assumption) | assumption)
            obtain ⟨ad431, e431, hx431_0, hx431_1⟩ := at_T31 HR0.out x5_1 p431 q431
            cases e431
            replace hx431_0 := (HB.out.cell (World.block_lt_of_cell? w _ hx431_0)).trans hx431_0
            replace hx431_1 := (HB.out.cell (World.block_lt_of_cell? w _ hx431_1)).trans hx431_1
            replace p431 := eq_true p431
            replace q431 := eq_true q431
            go_wp2_with (first | (go_at_call 58; (with_reducible refine (spec_l00Max.calls x4_1 ((rd_T31 l0 x5_1).f1) t432 _ A7.out).mono ?_); rintro e w' ⟨rfl, ⟨nd, rfl⟩⟩; (try first | exact ⟨rfl, _, World.drewN_drewN _ _ _⟩ | exact ⟨rfl, _, Eq.trans (World.drewN_drewN _ _ _) (congrArg (World.drewN _) (Nat.add_assoc _ _ _))⟩)))
            repeat (go_quiet (first | (go_at_call 58; (with_reducible refine (spec_l00Max.calls x4_1 ((rd_T31 l0 x5_1).f1) t432 _ A7.out).mono ?_); rintro e w' ⟨rfl, ⟨nd, rfl⟩⟩; (try first | exact ⟨rfl, _, World.drewN_drewN _ _ _⟩ | exact ⟨rfl, _, Eq.trans (World.drewN_drewN _ _ _) (congrArg (World.drewN _) (Nat.add_assoc _ _ _))⟩))); (try simp only [i64_w, i32_w]); try go_wp2_with (first | (go_at_call 58; (with_reducible refine (spec_l00Max.calls x4_1 ((rd_T31 l0 x5_1).f1) t432 _ A7.out).mono ?_); rintro e w' ⟨rfl, ⟨nd, rfl⟩⟩; (try first | exact ⟨rfl, _, World.drewN_drewN _ _ _⟩ | exact ⟨rfl, _, Eq.trans (World.drewN_drewN _ _ _) (congrArg (World.drewN _) (Nat.add_assoc _ _ _))⟩))))
            go_roundg k1
            case measure => have := HK1.out; omega
            case rel => exact ⟨(t432), (wrap64 (x5_1 + 1)), (by first | rfl | (simp; done) | (simp [*]; done)), (by first | rfl | (simp; done) | (simp [*]; done)), H', ⟨by have := HK1.out; omega⟩, ⟨by repeat (first | (with_reducible first | exact HB.out | apply below_alloc | apply pw_below_drewN | apply below_drew1) | exact HB.out)⟩⟩
          · rw [if_neg c6] at H
            exact absurd H (by simp)
        · rw [if_neg c5] at H
          have c5b0 : decide (x5_1 < (l0.length : Int)) = false := decide_eq_false c5
          clear c5
          have H' := Aside0.mk H
          clear H
          go_wp2
          repeat (go_quiet (fail); (try simp only [i64_w, i32_w]); try go_wp2)
          go_loopg [6, 7, 8] k1 (fun kq v6 v7 v8 w' => ∃ (x6_2 : Int) (x7_2 : Int) (x8_2 : Int), v6 = .int .i64 x6_2 ∧ v7 = .int .i64 x7_2 ∧ v8 = .int .i64 x8_2 ∧ Aside0 (spec_FirstMeeting.l1 kq l0 x6_2 x7_2 x8_2 = some (r1, r2)) ∧ Aside0 (kq ≤ k1) ∧ Aside0 (Below w.heap.size w w'))
          case atStart => exact ⟨(x4_1), (1), (0), (by first | rfl | (simp; done) | (simp [*]; done)), (by first | rfl | (simp; done) | (simp [*]; done)), (by first | rfl | (simp; done) | (simp [*]; done)), H', ⟨Nat.le_refl _⟩, ⟨by repeat (first | (with_reducible first | exact HB.out | apply below_alloc | apply pw_below_drewN | apply below_drew1) | exact HB.out)⟩⟩
          case round =>
            clear H'
            try clear p2
            try clear c3
            try clear p4
            try clear q4
            try clear hx4
            try clear c5
            try clear c5b0
            try clear c6
            try clear c6b0
            try clear p6
            try clear hx431_0
            try clear hx431_1
            try clear p2
            try clear p431
            try clear q431
            obtain ⟨x6_2, x7_2, x8_2, rfl, rfl, rfl, HA, HK2, HB⟩ := hrel
            cases gk with
            | zero => exact absurd HA.out (by simp [spec_FirstMeeting.l1])
            | succ k2 =>
              have H := HA.out
              clear HA
              simp only [spec_FirstMeeting.l1] at H
              by_cases c8 : x8_2 < (l0.length : Int)
              · rw [if_pos c8] at H
                have c8b0 : decide (x8_2 < (l0.length : Int)) = true := decide_eq_true c8
                clear c8
                by_cases c9 : 0 ≤ x8_2
                · rw [if_pos c9] at H
                  have c9b0 : decide (0 ≤ x8_2) = true := decide_eq_true c9
                  clear c9
                  replace H := Option.bind_eq_some_iff.mp H
                  obtain ⟨t435, A100, H⟩ := H
                  replace H : (if t435 = 0 then (none) else (spec_FirstMeeting.l2 k2 l0 x6_2 x7_2 x8_2 (wrap64 (Int.tdiv ((rd_T31 l0 x8_2).f0) t435)) 0 ((rd_T31 l0 x8_2).f0) ((rd_T31 l0 x8_2).f1))) = some (r1, r2) := H
                  have A10 := Aside0.mk A100
                  clear A100
                  by_cases c11 : t435 = 0
                  · rw [if_pos c11] at H
                    exact absurd H (by simp)
                  · rw [if_neg c11] at H
                    have c11b0 : (t435 == 0) = false := beq_eq_false_iff_ne.mpr c11
                    have c11b1 : (t435 != 0) = true := bne_iff_ne.mpr c11
                    have H' := Aside0.mk H
                    clear H
                    have p433 : 0 ≤ (x8_2 : Int) := of_decide_eq_true (by first | (with_reducible assumption) | assumption)
                    have q433 : x8_2 < (l0.length : Int) := of_decide_eq_true (by first | (with_reducible assumption) | assumption)
                    obtain ⟨ad433, e433, hx433_0, hx433_1⟩ := at_T31 HR0.out x8_2 p433 q433
                    cases e433
                    replace hx433_0 := (HB.out.cell (World.block_lt_of_cell? w _ hx433_0)).trans hx433_0
                    replace hx433_1 := (HB.out.cell (World.block_lt_of_cell? w _ hx433_1)).trans hx433_1
                    replace p433 := eq_true p433
                    replace q433 := eq_true q433
                    go_wp2_with (first | ((with_reducible refine gate_dst (N := 9) rfl ?_); refine box_event ?hg (N := 9) ?hd (cs := #[.int .i64 0, .int .i64 0]) (t := 31) ?hr ?_; (case hd => rfl); (case hg => rfl); (case hr => first | (go_simp; done) | (go_simp; rfl)); intro gb434 hg w12 hbox hb; have n0_ := Aside0.mk (below_step (by repeat (first | (with_reducible first | exact HB.out | apply below_alloc | apply pw_below_drewN | apply below_drew1) | exact HB.out)) hb); have n1_ := Aside0.mk (hbox); have n2_ := Aside0.mk ((by rw [hg]; exact (below_size (by repeat (first | (with_reducible first | exact HB.out | apply below_alloc | apply pw_below_drewN | apply below_drew1) | exact HB.out))) : w.heap.size ≤ gb434)); have n3_ := Aside0.mk ((by rw [hg]; exact (below_size (by repeat (first | (with_reducible first | exact HB.out | apply below_alloc | apply pw_below_drewN | apply below_drew1) | exact HB.out))) : w.heap.size ≤ gb434)); clear HB; have HB := n0_; have BK434 := n1_; have GW434 := n2_; have GE434 := n3_; clear n0_ n1_ n2_ n3_; clear hb hbox hg; have hcz13_0 : w12.cell? ⟨gb434, 0, none⟩ = some (.int .i64 0) := (blk_cell BK434.out 0).trans rfl; have hcz13_1 : w12.cell? ⟨gb434, 1, none⟩ = some (.int .i64 0) := (blk_cell BK434.out 1).trans rfl; have hfz13_0 := blk_frozen BK434.out 0; have hfz13_1 := blk_frozen BK434.out 1) | (go_at_call 59; (with_reducible refine (spec_l01Gcd.calls k2 x7_2 ((rd_T31 l0 x8_2).f0) t435 _ A10.out).mono ?_); rintro e w' ⟨rfl, ⟨nd, rfl⟩⟩; (try first | exact ⟨rfl, _, World.drewN_drewN _ _ _⟩ | exact ⟨rfl, _, Eq.trans (World.drewN_drewN _ _ _) (congrArg (World.drewN _) (Nat.add_assoc _ _ _))⟩)))
                    repeat (go_quiet (first | ((with_reducible refine gate_dst (N := 9) rfl ?_); refine box_event ?hg (N := 9) ?hd (cs := #[.int .i64 0, .int .i64 0]) (t := 31) ?hr ?_; (case hd => rfl); (case hg => rfl); (case hr => first | (go_simp; done) | (go_simp; rfl)); intro gb434 hg w12 hbox hb; have n0_ := Aside0.mk (below_step (by repeat (first | (with_reducible first | exact HB.out | apply below_alloc | apply pw_below_drewN | apply below_drew1) | exact HB.out)) hb); have n1_ := Aside0.mk (hbox); have n2_ := Aside0.mk ((by rw [hg]; exact (below_size (by repeat (first | (with_reducible first | exact HB.out | apply below_alloc | apply pw_below_drewN | apply below_drew1) | exact HB.out))) : w.heap.size ≤ gb434)); have n3_ := Aside0.mk ((by rw [hg]; exact (below_size (by repeat (first | (with_reducible first | exact HB.out | apply below_alloc | apply pw_below_drewN | apply below_drew1) | exact HB.out))) : w.heap.size ≤ gb434)); clear HB; have HB := n0_; have BK434 := n1_; have GW434 := n2_; have GE434 := n3_; clear n0_ n1_ n2_ n3_; clear hb hbox hg; have hcz13_0 : w12.cell? ⟨gb434, 0, none⟩ = some (.int .i64 0) := (blk_cell BK434.out 0).trans rfl; have hcz13_1 : w12.cell? ⟨gb434, 1, none⟩ = some (.int .i64 0) := (blk_cell BK434.out 1).trans rfl; have hfz13_0 := blk_frozen BK434.out 0; have hfz13_1 := blk_frozen BK434.out 1) | (go_at_call 59; (with_reducible refine (spec_l01Gcd.calls k2 x7_2 ((rd_T31 l0 x8_2).f0) t435 _ A10.out).mono ?_); rintro e w' ⟨rfl, ⟨nd, rfl⟩⟩; (try first | exact ⟨rfl, _, World.drewN_drewN _ _ _⟩ | exact ⟨rfl, _, Eq.trans (World.drewN_drewN _ _ _) (congrArg (World.drewN _) (Nat.add_assoc _ _ _))⟩))); (try simp only [i64_w, i32_w]); try go_wp2_with (first | ((with_reducible refine gate_dst (N := 9) rfl ?_); refine box_event ?hg (N := 9) ?hd (cs := #[.int .i64 0, .int .i64 0]) (t := 31) ?hr ?_; (case hd => rfl); (case hg => rfl); (case hr => first | (go_simp; done) | (go_simp; rfl)); intro gb434 hg w12 hbox hb; have n0_ := Aside0.mk (below_step (by repeat (first | (with_reducible first | exact HB.out | apply below_alloc | apply pw_below_drewN | apply below_drew1) | exact HB.out)) hb); have n1_ := Aside0.mk (hbox); have n2_ := Aside0.mk ((by rw [hg]; exact (below_size (by repeat (first | (with_reducible first | exact HB.out | apply below_alloc | apply pw_below_drewN | apply below_drew1) | exact HB.out))) : w.heap.size ≤ gb434)); have n3_ := Aside0.mk ((by rw [hg]; exact (below_size (by repeat (first | (with_reducible first | exact HB.out | apply below_alloc | apply pw_below_drewN | apply below_drew1) | exact HB.out))) : w.heap.size ≤ gb434)); clear HB; have HB := n0_; have BK434 := n1_; have GW434 := n2_; have GE434 := n3_; clear n0_ n1_ n2_ n3_; clear hb hbox hg; have hcz13_0 : w12.cell? ⟨gb434, 0, none⟩ = some (.int .i64 0) := (blk_cell BK434.out 0).trans rfl; have hcz13_1 : w12.cell? ⟨gb434, 1, none⟩ = some (.int .i64 0) := (blk_cell BK434.out 1).trans rfl; have hfz13_0 := blk_frozen BK434.out 0; have hfz13_1 := blk_frozen BK434.out 1) | (go_at_call 59; (with_reducible refine (spec_l01Gcd.calls k2 x7_2 ((rd_T31 l0 x8_2).f0) t435 _ A10.out).mono ?_); rintro e w' ⟨rfl, ⟨nd, rfl⟩⟩; (try first | exact ⟨rfl, _, World.drewN_drewN _ _ _⟩ | exact ⟨rfl, _, Eq.trans (World.drewN_drewN _ _ _) (congrArg (World.drewN _) (Nat.add_assoc _ _ _))⟩))))
                    go_loopg [6, 11] k2 (fun kq v6 v11 w' => ∃ (x6_3 : Int) (x11_3 : Int), v6 = .int .i64 x6_3 ∧ v11 = .int .i64 x11_3 ∧ Aside0 (spec_FirstMeeting.l2 kq l0 x6_3 x7_2 x8_2 (wrap64 (Int.tdiv ((rd_T31 l0 x8_2).f0) t435)) x11_3 ((rd_T31 l0 x8_2).f0) ((rd_T31 l0 x8_2).f1) = some (r1, r2)) ∧ Aside0 (kq ≤ k2) ∧ Aside0 (w'.heap[gb434]? = some (.cells #[.int .i64 ((rd_T31 l0 x8_2).f0), .int .i64 ((rd_T31 l0 x8_2).f1)] 31 (0, 0))) ∧ Aside0 (Below w.heap.size w w'))
                    case atStart => exact ⟨(x6_2), (0), (by first | rfl | (simp; done) | (simp [*]; done)), (by first | rfl | (simp; done) | (simp [*]; done)), H', ⟨Nat.le_refl _⟩, ⟨by (with_reducible repeat (first | refine blk_drewN ?_ _ | refine blk_drew ?_ | refine blk_alloc ?_ _)); refine blk_put (cs := #[.int .i64 ((rd_T31 l0 x8_2).f0), .int .i64 0]) ?_ 1 _ rfl; (with_reducible repeat (first | refine blk_drewN ?_ _ | refine blk_drew ?_ | refine blk_alloc ?_ _)); refine blk_put (cs := #[.int .i64 0, .int .i64 0]) ?_ 0 _ rfl; (with_reducible repeat (first | refine blk_drewN ?_ _ | refine blk_drew ?_ | refine blk_alloc ?_ _)); exact BK434.out⟩, ⟨by repeat (first | (with_reducible first | exact HB.out | apply below_alloc | apply pw_below_drewN | apply below_drew1 | refine below_set ?_ GE434.out) | exact HB.out)⟩⟩
                    case round =>
                      clear H'
                      try clear c1
                      try clear p2
                      try clear c3
                      try clear p4
                      try clear q4
                      try clear hx4
                      try clear c5
                      try clear c5b0
                      try clear c6
                      try clear c6b0
                      try clear p6
                      try clear c8
                      try clear c8b0
                      try clear c9
                      try clear c9b0
                      try clear c11
                      try clear c11b0
                      try clear c11b1
                      try clear hcz13_0
                      try clear hcz13_1
                      try clear hfz13_0
                      try clear hfz13_1
                      try clear hx431_0
                      try clear hx431_1
                      try clear hx433_0
                      try clear hx433_1
                      try clear p2
                      try clear p4
                      try clear p431
                      try clear p433
                      try clear p6
                      try clear q4
                      try clear q431
                      try clear q433
                      obtain ⟨x6_3, x11_3, rfl, rfl, HA, HK3, BK434, HB⟩ := hrel
                      cases gk with
                      | zero => exact absurd HA.out (by simp [spec_FirstMeeting.l2])
                      | succ k3 =>
                        have H := HA.out
                        clear HA
                        simp only [spec_FirstMeeting.l2] at H
                        by_cases c14 : ((rd_T31 l0 x8_2).f0) = 0
                        · rw [if_pos c14] at H
                          exact absurd H (by simp)
                        · rw [if_neg c14] at H
                          have c14b0 : (((rd_T31 l0 x8_2).f0) == 0) = false := beq_eq_false_iff_ne.mpr c14
                          have c14b1 : (((rd_T31 l0 x8_2).f0) != 0) = true := bne_iff_ne.mpr c14
                          by_cases c15 : (Int.tmod (wrap64 (x6_3 - ((rd_T31 l0 x8_2).f1))) ((rd_T31 l0 x8_2).f0)) = 0
                          · rw [if_pos c15] at H
                            have c15b0 : ((Int.tmod (wrap64 (x6_3 - ((rd_T31 l0 x8_2).f1))) ((rd_T31 l0 x8_2).f0)) == 0) = true := beq_iff_eq.mpr c15
                            have c15b1 : ((Int.tmod (wrap64 (x6_3 - ((rd_T31 l0 x8_2).f1))) ((rd_T31 l0 x8_2).f0)) != 0) = false := bne_eq_false_iff_eq.mpr c15
                            clear c15
                            by_cases c16 : (wrap64 (x8_2 + 1)) < (l0.length : Int)
                            · rw [if_pos c16] at H
                              have c16b0 : decide ((wrap64 (x8_2 + 1)) < (l0.length : Int)) = true := decide_eq_true c16
                              clear c16
                              by_cases c17 : (wrap64 (x7_2 * (wrap64 (Int.tdiv ((rd_T31 l0 x8_2).f0) t435)))) > 1000000000000
                              · rw [if_pos c17] at H
                                have c17b0 : decide (1000000000000 < (wrap64 (x7_2 * (wrap64 (Int.tdiv ((rd_T31 l0 x8_2).f0) t435))))) = true := decide_eq_true c17
                                clear c17
                                have H' := Aside0.mk H
                                clear H
                                have hcz18_0 : wr.cell? ⟨gb434, 0, none⟩ = some (.int .i64 ((rd_T31 l0 x8_2).f0)) := (blk_cell BK434.out 0).trans rfl
                                have hcz18_1 : wr.cell? ⟨gb434, 1, none⟩ = some (.int .i64 ((rd_T31 l0 x8_2).f1)) := (blk_cell BK434.out 1).trans rfl
                                have hfz18_0 := blk_frozen BK434.out 0
                                have hfz18_1 := blk_frozen BK434.out 1
                                go_wp2
                                repeat (go_quiet (fail); (try simp only [i64_w, i32_w]); try go_wp2)
                                go_loopg [12] k3 (fun kq v12 w' => ∃ (x12_4 : Int), v12 = .int .i64 x12_4 ∧ Aside0 (spec_FirstMeeting.l3 kq l0 x6_3 x12_4 = some (r1, r2)) ∧ Aside0 (kq ≤ k3) ∧ Aside0 (w'.heap[gb434]? = some (.cells #[.int .i64 ((rd_T31 l0 x8_2).f0), .int .i64 ((rd_T31 l0 x8_2).f1)] 31 (0, 0))) ∧ Aside0 (Below w.heap.size w w'))
                                case atStart => exact ⟨(wrap64 (x8_2 + 1)), (by first | rfl | (simp; done) | (simp [*]; done)), H', ⟨Nat.le_refl _⟩, ⟨by (with_reducible repeat (first | refine blk_drewN ?_ _ | refine blk_drew ?_ | refine blk_alloc ?_ _)); exact BK434.out⟩, ⟨by repeat (first | (with_reducible first | exact HB.out | apply below_alloc | apply pw_below_drewN | apply below_drew1 | refine below_set ?_ GE434.out) | exact HB.out)⟩⟩
                                case round =>
                                  clear H'
                                  try clear c1
                                  try clear p2
                                  try clear c3
                                  try clear p4
                                  try clear q4
                                  try clear hx4
                                  try clear c5
                                  try clear c5b0
                                  try clear c6
                                  try clear c6b0
                                  try clear p6
                                  try clear c8
                                  try clear c8b0
                                  try clear c9
                                  try clear c9b0
                                  try clear c11
                                  try clear c11b0
                                  try clear c11b1
                                  try clear c14
                                  try clear c14b0
                                  try clear c14b1
                                  try clear c15
                                  try clear c15b0
                                  try clear c15b1
                                  try clear c16
                                  try clear c16b0
                                  try clear c17
                                  try clear c17b0
                                  try clear hcz13_0
                                  try clear hcz13_1
                                  try clear hcz18_0
                                  try clear hcz18_1
                                  try clear hfz13_0
                                  try clear hfz13_1
                                  try clear hfz18_0
                                  try clear hfz18_1
                                  try clear hx431_0
                                  try clear hx431_1
                                  try clear hx433_0
                                  try clear hx433_1
                                  try clear p2
                                  try clear p4
                                  try clear p431
                                  try clear p433
                                  try clear p6
                                  try clear q4
                                  try clear q431
                                  try clear q433
                                  obtain ⟨x12_4, rfl, HA, HK4, BK434, HB⟩ := hrel
                                  cases gk with
                                  | zero => exact absurd HA.out (by simp [spec_FirstMeeting.l3])
                                  | succ k4 =>
                                    have H := HA.out
                                    clear HA
                                    simp only [spec_FirstMeeting.l3] at H
                                    by_cases c19 : x12_4 < (l0.length : Int)
                                    · rw [if_pos c19] at H
                                      have c19b0 : decide (x12_4 < (l0.length : Int)) = true := decide_eq_true c19
                                      clear c19
                                      by_cases c20 : 0 ≤ x12_4
                                      · rw [if_pos c20] at H
                                        have c20b0 : decide (0 ≤ x12_4) = true := decide_eq_true c20
                                        clear c20
                                        by_cases c21 : ((rd_T31 l0 x12_4).f0) = 0
                                        · rw [if_pos c21] at H
                                          exact absurd H (by simp)
                                        · rw [if_neg c21] at H
                                          have c21b0 : (((rd_T31 l0 x12_4).f0) == 0) = false := beq_eq_false_iff_ne.mpr c21
                                          have c21b1 : (((rd_T31 l0 x12_4).f0) != 0) = true := bne_iff_ne.mpr c21
                                          by_cases c22 : (Int.tmod (wrap64 (x6_3 - ((rd_T31 l0 x12_4).f1))) ((rd_T31 l0 x12_4).f0)) = 0
                                          · rw [if_pos c22] at H
                                            have c22b0 : ((Int.tmod (wrap64 (x6_3 - ((rd_T31 l0 x12_4).f1))) ((rd_T31 l0 x12_4).f0)) == 0) = true := beq_iff_eq.mpr c22
                                            have c22b1 : ((Int.tmod (wrap64 (x6_3 - ((rd_T31 l0 x12_4).f1))) ((rd_T31 l0 x12_4).f0)) != 0) = false := bne_eq_false_iff_eq.mpr c22
                                            clear c22
                                            have H' := Aside0.mk H
                                            clear H
                                            have p436 : 0 ≤ (x12_4 : Int) := of_decide_eq_true (by first | (with_reducible assumption) | assumption)
                                            have q436 : x12_4 < (l0.length : Int) := of_decide_eq_true (by first | (with_reducible assumption) | assumption)
                                            obtain ⟨ad436, e436, hx436_0, hx436_1⟩ := at_T31 HR0.out x12_4 p436 q436
                                            obtain rfl : ad433 = ad436 := (by injection e436)
                                            replace hx436_0 := (HB.out.cell (World.block_lt_of_cell? w _ hx436_0)).trans hx436_0
                                            replace hx436_1 := (HB.out.cell (World.block_lt_of_cell? w _ hx436_1)).trans hx436_1
                                            replace p436 := eq_true p436
                                            replace q436 := eq_true q436
                                            have p437 : 0 ≤ (x12_4 : Int) := of_decide_eq_true (by first | (with_reducible assumption) | assumption)
                                            have q437 : x12_4 < (l0.length : Int) := of_decide_eq_true (by first | (with_reducible assumption) | assumption)
                                            obtain ⟨ad437, e437, hx437_0, hx437_1⟩ := at_T31 HR0.out x12_4 p437 q437
                                            obtain rfl : ad433 = ad437 := (by injection e437)
                                            replace hx437_0 := (HB.out.cell (World.block_lt_of_cell? w _ hx437_0)).trans hx437_0
                                            replace hx437_1 := (HB.out.cell (World.block_lt_of_cell? w _ hx437_1)).trans hx437_1
                                            replace p437 := eq_true p437
                                            replace q437 := eq_true q437
                                            go_wp2
                                            repeat (go_quiet (fail); (try simp only [i64_w, i32_w]); try go_wp2)
                                            go_roundg k4
                                            case measure => have := HK1.out; have := HK2.out; have := HK3.out; have := HK4.out; omega
                                            case rel => exact ⟨(wrap64 (x12_4 + 1)), (by first | rfl | (simp; done) | (simp [*]; done)), H', ⟨by have := HK1.out; have := HK2.out; have := HK3.out; have := HK4.out; omega⟩, ⟨by (with_reducible repeat (first | refine blk_drewN ?_ _ | refine blk_drew ?_ | refine blk_alloc ?_ _)); exact BK434.out⟩, ⟨by repeat (first | (with_reducible first | exact HB.out | apply below_alloc | apply pw_below_drewN | apply below_drew1 | refine below_set ?_ GE434.out) | exact HB.out)⟩⟩
                                          · rw [if_neg c22] at H
                                            have c22b0 : ((Int.tmod (wrap64 (x6_3 - ((rd_T31 l0 x12_4).f1))) ((rd_T31 l0 x12_4).f0)) == 0) = false := beq_eq_false_iff_ne.mpr c22
                                            have c22b1 : ((Int.tmod (wrap64 (x6_3 - ((rd_T31 l0 x12_4).f1))) ((rd_T31 l0 x12_4).f0)) != 0) = true := bne_iff_ne.mpr c22
                                            simp only [Option.some.injEq, Prod.mk.injEq] at H
                                            obtain ⟨rfl, rfl⟩ := H
                                            have p436 : 0 ≤ (x12_4 : Int) := of_decide_eq_true (by first | (with_reducible assumption) | assumption)
                                            have q436 : x12_4 < (l0.length : Int) := of_decide_eq_true (by first | (with_reducible assumption) | assumption)
                                            obtain ⟨ad436, e436, hx436_0, hx436_1⟩ := at_T31 HR0.out x12_4 p436 q436
                                            obtain rfl : ad433 = ad436 := (by injection e436)
                                            replace hx436_0 := (HB.out.cell (World.block_lt_of_cell? w _ hx436_0)).trans hx436_0
                                            replace hx436_1 := (HB.out.cell (World.block_lt_of_cell? w _ hx436_1)).trans hx436_1
                                            replace p436 := eq_true p436
                                            replace q436 := eq_true q436
                                            have p437 : 0 ≤ (x12_4 : Int) := of_decide_eq_true (by first | (with_reducible assumption) | assumption)
                                            have q437 : x12_4 < (l0.length : Int) := of_decide_eq_true (by first | (with_reducible assumption) | assumption)
                                            obtain ⟨ad437, e437, hx437_0, hx437_1⟩ := at_T31 HR0.out x12_4 p437 q437
                                            obtain rfl : ad433 = ad437 := (by injection e437)
                                            replace hx437_0 := (HB.out.cell (World.block_lt_of_cell? w _ hx437_0)).trans hx437_0
                                            replace hx437_1 := (HB.out.cell (World.block_lt_of_cell? w _ hx437_1)).trans hx437_1
                                            replace p437 := eq_true p437
                                            replace q437 := eq_true q437
                                            go_wp2
                                            repeat (go_quiet (fail); (try simp only [i64_w, i32_w]); try go_wp2)
                                            go_ret2
                                            exact ⟨by first | rfl | (simp [errW_none, errW_some] <;> rfl) | (simp [*, errW_none, errW_some] <;> rfl), by repeat (first | (with_reducible first | exact HB.out | apply below_alloc | apply pw_below_drewN | apply below_drew1 | refine below_set ?_ GE434.out) | exact HB.out)⟩
                                      · rw [if_neg c20] at H
                                        exact absurd H (by simp)
                                    · rw [if_neg c19] at H
                                      have c19b0 : decide (x12_4 < (l0.length : Int)) = false := decide_eq_false c19
                                      clear c19
                                      simp only [Option.some.injEq, Prod.mk.injEq] at H
                                      obtain ⟨rfl, rfl⟩ := H
                                      go_wp2
                                      repeat (go_quiet (fail); (try simp only [i64_w, i32_w]); try go_wp2)
                                      go_ret2
                                      exact ⟨by first | rfl | (simp [errW_none, errW_some] <;> rfl) | (simp [*, errW_none, errW_some] <;> rfl), by repeat (first | (with_reducible first | exact HB.out | apply below_alloc | apply pw_below_drewN | apply below_drew1 | refine below_set ?_ GE434.out) | exact HB.out)⟩
                              · rw [if_neg c17] at H
                                have c17b0 : decide (1000000000000 < (wrap64 (x7_2 * (wrap64 (Int.tdiv ((rd_T31 l0 x8_2).f0) t435))))) = false := decide_eq_false c17
                                clear c17
                                have H' := Aside0.mk H
                                clear H
                                have hcz23_0 : wr.cell? ⟨gb434, 0, none⟩ = some (.int .i64 ((rd_T31 l0 x8_2).f0)) := (blk_cell BK434.out 0).trans rfl
                                have hcz23_1 : wr.cell? ⟨gb434, 1, none⟩ = some (.int .i64 ((rd_T31 l0 x8_2).f1)) := (blk_cell BK434.out 1).trans rfl
                                have hfz23_0 := blk_frozen BK434.out 0
                                have hfz23_1 := blk_frozen BK434.out 1
                                go_wp2
                                repeat (go_quiet (fail); (try simp only [i64_w, i32_w]); try go_wp2)
                                go_roundg k3
                                case measure => have := HK1.out; have := HK2.out; have := HK3.out; omega
                                case rel => exact ⟨(x6_3), (wrap64 (x7_2 * (wrap64 (Int.tdiv ((rd_T31 l0 x8_2).f0) t435)))), (wrap64 (x8_2 + 1)), (by first | rfl | (simp; done) | (simp [*]; done)), (by first | rfl | (simp; done) | (simp [*]; done)), (by first | rfl | (simp; done) | (simp [*]; done)), H', ⟨by have := HK1.out; have := HK2.out; have := HK3.out; omega⟩, ⟨by repeat (first | (with_reducible first | exact HB.out | apply below_alloc | apply pw_below_drewN | apply below_drew1 | refine below_set ?_ GE434.out) | exact HB.out)⟩⟩
                            · rw [if_neg c16] at H
                              have c16b0 : decide ((wrap64 (x8_2 + 1)) < (l0.length : Int)) = false := decide_eq_false c16
                              clear c16
                              have H' := Aside0.mk H
                              clear H
                              have hcz24_0 : wr.cell? ⟨gb434, 0, none⟩ = some (.int .i64 ((rd_T31 l0 x8_2).f0)) := (blk_cell BK434.out 0).trans rfl
                              have hcz24_1 : wr.cell? ⟨gb434, 1, none⟩ = some (.int .i64 ((rd_T31 l0 x8_2).f1)) := (blk_cell BK434.out 1).trans rfl
                              have hfz24_0 := blk_frozen BK434.out 0
                              have hfz24_1 := blk_frozen BK434.out 1
                              go_wp2
                              repeat (go_quiet (fail); (try simp only [i64_w, i32_w]); try go_wp2)
                              go_roundg k3
                              case measure => have := HK1.out; have := HK2.out; have := HK3.out; omega
                              case rel => exact ⟨(x6_3), (x7_2), (wrap64 (x8_2 + 1)), (by first | rfl | (simp; done) | (simp [*]; done)), (by first | rfl | (simp; done) | (simp [*]; done)), (by first | rfl | (simp; done) | (simp [*]; done)), H', ⟨by have := HK1.out; have := HK2.out; have := HK3.out; omega⟩, ⟨by repeat (first | (with_reducible first | exact HB.out | apply below_alloc | apply pw_below_drewN | apply below_drew1 | refine below_set ?_ GE434.out) | exact HB.out)⟩⟩
                          · rw [if_neg c15] at H
                            have c15b0 : ((Int.tmod (wrap64 (x6_3 - ((rd_T31 l0 x8_2).f1))) ((rd_T31 l0 x8_2).f0)) == 0) = false := beq_eq_false_iff_ne.mpr c15
                            have c15b1 : ((Int.tmod (wrap64 (x6_3 - ((rd_T31 l0 x8_2).f1))) ((rd_T31 l0 x8_2).f0)) != 0) = true := bne_iff_ne.mpr c15
                            by_cases c25 : (wrap64 (x11_3 + 1)) ≥ (wrap64 (Int.tdiv ((rd_T31 l0 x8_2).f0) t435))
                            · rw [if_pos c25] at H
                              have c25b0 : decide ((wrap64 (Int.tdiv ((rd_T31 l0 x8_2).f0) t435)) ≤ (wrap64 (x11_3 + 1))) = true := decide_eq_true c25
                              clear c25
                              simp only [Option.some.injEq, Prod.mk.injEq] at H
                              obtain ⟨rfl, rfl⟩ := H
                              have hcz26_0 : wr.cell? ⟨gb434, 0, none⟩ = some (.int .i64 ((rd_T31 l0 x8_2).f0)) := (blk_cell BK434.out 0).trans rfl
                              have hcz26_1 : wr.cell? ⟨gb434, 1, none⟩ = some (.int .i64 ((rd_T31 l0 x8_2).f1)) := (blk_cell BK434.out 1).trans rfl
                              have hfz26_0 := blk_frozen BK434.out 0
                              have hfz26_1 := blk_frozen BK434.out 1
                              go_wp2
                              repeat (go_quiet (fail); (try simp only [i64_w, i32_w]); try go_wp2)
                              go_ret2
                              exact ⟨by first | rfl | (simp [errW_none, errW_some] <;> rfl) | (simp [*, errW_none, errW_some] <;> rfl), by repeat (first | (with_reducible first | exact HB.out | apply below_alloc | apply pw_below_drewN | apply below_drew1 | refine below_set ?_ GE434.out) | exact HB.out)⟩
                            · rw [if_neg c25] at H
                              have c25b0 : decide ((wrap64 (Int.tdiv ((rd_T31 l0 x8_2).f0) t435)) ≤ (wrap64 (x11_3 + 1))) = false := decide_eq_false c25
                              clear c25
                              by_cases c27 : (wrap64 (x6_3 + x7_2)) > 1000000000000
                              · rw [if_pos c27] at H
                                have c27b0 : decide (1000000000000 < (wrap64 (x6_3 + x7_2))) = true := decide_eq_true c27
                                clear c27
                                simp only [Option.some.injEq, Prod.mk.injEq] at H
                                obtain ⟨rfl, rfl⟩ := H
                                have hcz28_0 : wr.cell? ⟨gb434, 0, none⟩ = some (.int .i64 ((rd_T31 l0 x8_2).f0)) := (blk_cell BK434.out 0).trans rfl
                                have hcz28_1 : wr.cell? ⟨gb434, 1, none⟩ = some (.int .i64 ((rd_T31 l0 x8_2).f1)) := (blk_cell BK434.out 1).trans rfl
                                have hfz28_0 := blk_frozen BK434.out 0
                                have hfz28_1 := blk_frozen BK434.out 1
                                go_wp2
                                repeat (go_quiet (fail); (try simp only [i64_w, i32_w]); try go_wp2)
                                go_ret2
                                exact ⟨by first | rfl | (simp [errW_none, errW_some] <;> rfl) | (simp [*, errW_none, errW_some] <;> rfl), by repeat (first | (with_reducible first | exact HB.out | apply below_alloc | apply pw_below_drewN | apply below_drew1 | refine below_set ?_ GE434.out) | exact HB.out)⟩
                              · rw [if_neg c27] at H
                                have c27b0 : decide (1000000000000 < (wrap64 (x6_3 + x7_2))) = false := decide_eq_false c27
                                clear c27
                                have H' := Aside0.mk H
                                clear H
                                have hcz29_0 : wr.cell? ⟨gb434, 0, none⟩ = some (.int .i64 ((rd_T31 l0 x8_2).f0)) := (blk_cell BK434.out 0).trans rfl
                                have hcz29_1 : wr.cell? ⟨gb434, 1, none⟩ = some (.int .i64 ((rd_T31 l0 x8_2).f1)) := (blk_cell BK434.out 1).trans rfl
                                have hfz29_0 := blk_frozen BK434.out 0
                                have hfz29_1 := blk_frozen BK434.out 1
                                go_wp2
                                repeat (go_quiet (fail); (try simp only [i64_w, i32_w]); try go_wp2)
                                go_roundg k3
                                case measure => have := HK1.out; have := HK2.out; have := HK3.out; omega
                                case rel => exact ⟨(wrap64 (x6_3 + x7_2)), (wrap64 (x11_3 + 1)), (by first | rfl | (simp; done) | (simp [*]; done)), (by first | rfl | (simp; done) | (simp [*]; done)), H', ⟨by have := HK1.out; have := HK2.out; have := HK3.out; omega⟩, ⟨by (with_reducible repeat (first | refine blk_drewN ?_ _ | refine blk_drew ?_ | refine blk_alloc ?_ _)); exact BK434.out⟩, ⟨by repeat (first | (with_reducible first | exact HB.out | apply below_alloc | apply pw_below_drewN | apply below_drew1 | refine below_set ?_ GE434.out) | exact HB.out)⟩⟩
                · rw [if_neg c9] at H
                  exact absurd H (by simp)
              · rw [if_neg c8] at H
                have c8b0 : decide (x8_2 < (l0.length : Int)) = false := decide_eq_false c8
                clear c8
                simp only [Option.some.injEq, Prod.mk.injEq] at H
                obtain ⟨rfl, rfl⟩ := H
                go_wp2
                repeat (go_quiet (fail); (try simp only [i64_w, i32_w]); try go_wp2)
                go_ret2
                exact ⟨by first | rfl | (simp [errW_none, errW_some] <;> rfl) | (simp [*, errW_none, errW_some] <;> rfl), by repeat (first | (with_reducible first | exact HB.out | apply below_alloc | apply pw_below_drewN | apply below_drew1) | exact HB.out)⟩
  · replace c3 := Bool.eq_false_iff.mpr c3
    subst c3
    have H1 : (some (0, false)) = some (r1, r2) := by rw [if_neg (show ¬ (false = true) by decide)] at H; exact H
    clear H
    have H := H1
    clear H1
    simp only [Option.some.injEq, Prod.mk.injEq] at H
    obtain ⟨rfl, rfl⟩ := H
    go_enter Try.func38, Try.ntmps38
    go_wp2_with (first | (go_at_call 55; (with_reducible refine (spec_l10All.calls k _ _ l0 false _ ?side1 ?side2 A2.out).mono ?_); (case side1 => repeat (first | exact HR0.out | (with_reducible refine Kd.C_alloc ?_ _) | (with_reducible refine Kd.C_drewN ?_ _) | (with_reducible refine Kd.C_drew ?_))); (case side2 => exact HC0.out); rintro e w30 ⟨rfl, hb⟩; have n0_ := Aside0.mk (below_step (by repeat (first | (with_reducible first | exact HB.out | apply below_alloc | apply pw_below_drewN | apply below_drew1) | exact HB.out)) hb); clear HB; have HB := n0_; clear n0_; (try clear hb); (try clear hb2); (try clear hk); (try clear hi)))
    repeat (go_quiet (first | (go_at_call 55; (with_reducible refine (spec_l10All.calls k _ _ l0 false _ ?side1 ?side2 A2.out).mono ?_); (case side1 => repeat (first | exact HR0.out | (with_reducible refine Kd.C_alloc ?_ _) | (with_reducible refine Kd.C_drewN ?_ _) | (with_reducible refine Kd.C_drew ?_))); (case side2 => exact HC0.out); rintro e w30 ⟨rfl, hb⟩; have n0_ := Aside0.mk (below_step (by repeat (first | (with_reducible first | exact HB.out | apply below_alloc | apply pw_below_drewN | apply below_drew1) | exact HB.out)) hb); clear HB; have HB := n0_; clear n0_; (try clear hb); (try clear hb2); (try clear hk); (try clear hi))); (try simp only [i64_w, i32_w]); try go_wp2_with (first | (go_at_call 55; (with_reducible refine (spec_l10All.calls k _ _ l0 false _ ?side1 ?side2 A2.out).mono ?_); (case side1 => repeat (first | exact HR0.out | (with_reducible refine Kd.C_alloc ?_ _) | (with_reducible refine Kd.C_drewN ?_ _) | (with_reducible refine Kd.C_drew ?_))); (case side2 => exact HC0.out); rintro e w30 ⟨rfl, hb⟩; have n0_ := Aside0.mk (below_step (by repeat (first | (with_reducible first | exact HB.out | apply below_alloc | apply pw_below_drewN | apply below_drew1) | exact HB.out)) hb); clear HB; have HB := n0_; clear n0_; (try clear hb); (try clear hb2); (try clear hk); (try clear hi))))
    go_ret2
    exact ⟨by first | rfl | (simp [errW_none, errW_some] <;> rfl) | (simp [*, errW_none, errW_some] <;> rfl), by repeat (first | (with_reducible first | exact HB.out | apply below_alloc | apply pw_below_drewN | apply below_drew1) | exact HB.out)⟩

end Go.Proofs.Ytfoedfigjcmjbaa.A
