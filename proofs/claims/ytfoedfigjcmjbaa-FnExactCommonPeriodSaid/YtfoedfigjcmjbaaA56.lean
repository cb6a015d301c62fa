-- Printed by this session's oprint.py through the kit's printer.
import Derived.Test.YtfoedfigjcmjbaaA0
import Derived.Test.YtfoedfigjcmjbaaA59
namespace Go.Proofs.Ytfoedfigjcmjbaa.A
open Go.RowKit Go.Proofs.YtfoedfigjcmjbaaW.PrintWords Go.Proofs.YtfoedfigjcmjbaaW.PrintLast Go.Proofs.YtfoedfigjcmjbaaW.PrintMore
attribute [local go_sem] max2_int min2_int max_two min_two max_three min_three max_four min_four   -- for this text's walks alone
set_option linter.unusedVariables false
set_option linter.unusedSimpArgs false

/-! ### spec_l10Common: function 56 -/
def spec_l10Common.l0 : Nat → List (S31) → Int → Int → Option (Int × Bool)
  | 0, _, _, _ => none
  | k + 1, x0, x4, x5 => if x5 < (x0.length : Int) then (if 0 ≤ x5 then ((spec_l01Gcd.f k x4 ((rd_T31 x0 x5).f0)).bind fun t363 => (if t363 = 0 then (none) else (if (wrap64 ((wrap64 (Int.tdiv x4 t363)) * ((rd_T31 x0 x5).f0))) > 1000000000000 then (some (0, false)) else (spec_l10Common.l0 k x0 (wrap64 ((wrap64 (Int.tdiv x4 t363)) * ((rd_T31 x0 x5).f0))) (wrap64 (x5 + 1)))))) else (none)) else (some (x4, true))
def spec_l10Common.f (k : Nat) (l0 : List (S31)) : Option (Int × Bool) := spec_l10Common.l0 k l0 1 0
theorem spec_l10Common.mono_l : ∀ k, (∀ y0 y1 y2, LeO (spec_l10Common.l0 k y0 y1 y2) (spec_l10Common.l0 (k + 1) y0 y1 y2))
  | 0 => fun _ _ _ r h => by simp [spec_l10Common.l0] at h
  | k + 1 => by
    have ih0 := spec_l10Common.mono_l k
    · intro y0 y1 y2
      unfold spec_l10Common.l0
      repeat' first
      | (with_reducible exact ih0 _ _ _)
      | (with_reducible exact spec_l01Gcd.mono _ _ _)
      | (with_reducible exact LeO.refl _)
      | (with_reducible exact LeO.none _)
      | (with_reducible refine LeO.ite ?_ ?_)
      | (with_reducible refine LeO.bind ?_ (fun _ => ?_))
      | exact ih0 _ _ _
      | exact spec_l01Gcd.mono _ _ _
      | exact LeO.none _
      | refine LeO.ite ?_ ?_
      | refine LeO.bind ?_ (fun _ => ?_)
theorem spec_l10Common.mono : ∀ a0 k, LeO (spec_l10Common.f k a0) (spec_l10Common.f (k + 1) a0) := by
  intro a0 k
  have ih0 := spec_l10Common.mono_l k
  unfold spec_l10Common.f
  repeat' first
      | (with_reducible exact ih0 _ _ _)
      | (with_reducible exact spec_l01Gcd.mono _ _ _)
      | (with_reducible exact LeO.refl _)
      | (with_reducible exact LeO.none _)
      | (with_reducible refine LeO.ite ?_ ?_)
      | (with_reducible refine LeO.bind ?_ (fun _ => ?_))
      | exact ih0 _ _ _
      | exact spec_l01Gcd.mono _ _ _
      | exact LeO.none _
      | refine LeO.ite ?_ ?_
      | refine LeO.bind ?_ (fun _ => ?_)
set_option maxHeartbeats 8000000 in
set_option maxRecDepth 100000 in
theorem spec_l10Common.calls (k : Nat) (A0 : Option Addr) (c0 : Nat) (l0 : List (S31)) (r1 : Int) (r2 : Bool) (w : World) (hr0 : Kd.C k31 w A0 l0.length l0) (hc0 : l0.length ≤ c0) (h : spec_l10Common.f k l0 = some (r1, r2)) :
    Calls Try.prog 56 #[.slice A0 l0.length c0] w fun e w' => e = .returned (.tuple #[.int .i64 r1, .bool r2]) ∧ Drawn0 w w' := by
  have HR0 := Aside0.mk hr0
  have HC0 := Aside0.mk hc0
  clear hr0 hc0
  have H : (spec_l10Common.l0 k l0 1 0) = some (r1, r2) := h
  clear h
  have H' := Aside0.mk H
  clear H
  go_enter Try.func56, Try.ntmps56
  go_wp2
  repeat (go_quiet (fail); (try simp only [i64_w, i32_w]); try go_wp2)
  go_loopg [4, 5] k (fun kq v4 v5 w' => ∃ (x4_1 : Int) (x5_1 : Int), v4 = .int .i64 x4_1 ∧ v5 = .int .i64 x5_1 ∧ Aside0 (spec_l10Common.l0 kq l0 x4_1 x5_1 = some (r1, r2)) ∧ Aside0 (kq ≤ k) ∧ Drawn0 w w')
  case atStart => exact ⟨(1), (0), (by first | rfl | (simp; done) | (simp [*]; done)), (by first | rfl | (simp; done) | (simp [*]; done)), H', ⟨Nat.le_refl _⟩, by repeat (first | exact Drawn0.refl _ | apply Drawn0.step)⟩
  case round =>
    clear H'
    obtain ⟨x4_1, x5_1, rfl, rfl, HA, HK1, ⟨m1, rfl⟩⟩ := hrel
    cases gk with
    | zero => exact absurd HA.out (by simp [spec_l10Common.l0])
    | succ k1 =>
      have H := HA.out
      clear HA
      simp only [spec_l10Common.l0] at H
      by_cases c2 : x5_1 < (l0.length : Int)
      · rw [if_pos c2] at H
        have c2b0 : decide (x5_1 < (l0.length : Int)) = true := decide_eq_true c2
        clear c2
        by_cases c3 : 0 ≤ x5_1
        · rw [if_pos c3] at H
          have c3b0 : decide (0 ≤ x5_1) = true := decide_eq_true c3
          clear c3
          replace H := Option.bind_eq_some_iff.mp H
          obtain ⟨t363, A40, H⟩ := H
          replace H : (if t363 = 0 then (none) else (if (wrap64 ((wrap64 (Int.tdiv x4_1 t363)) * ((rd_T31 l0 x5_1).f0))) > 1000000000000 then (some (0, false)) else (spec_l10Common.l0 k1 l0 (wrap64 ((wrap64 (Int.tdiv x4_1 t363)) * ((rd_T31 l0 x5_1).f0))) (wrap64 (x5_1 + 1))))) = some (r1, r2) := H
          have A4 := Aside0.mk A40
          clear A40
          by_cases c5 : t363 = 0
          · rw [if_pos c5] at H
            exact absurd H (by simp)
          · rw [if_neg c5] at H
            have c5b0 : (t363 == 0) = false := beq_eq_false_iff_ne.mpr c5
            have c5b1 : (t363 != 0) = true := bne_iff_ne.mpr c5
            by_cases c6 : (wrap64 ((wrap64 (Int.tdiv x4_1 t363)) * ((rd_T31 l0 x5_1).f0))) > 1000000000000
            · rw [if_pos c6] at H
              have c6b0 : decide (1000000000000 < (wrap64 ((wrap64 (Int.tdiv x4_1 t363)) * ((rd_T31 l0 x5_1).f0)))) = true := decide_eq_true c6
              clear c6
              simp only [Option.some.injEq, Prod.mk.injEq] at H
              obtain ⟨rfl, rfl⟩ := H
              have p362 : 0 ≤ (x5_1 : Int) := of_decide_eq_true (by first | (with_reducible assumption) | assumption)
              have q362 : x5_1 < (l0.length : Int) := of_decide_eq_true (by first | (with_reducible assumption) | assumption)
              obtain ⟨ad362, e362, hx362_0, hx362_1⟩ := at_T31 HR0.out x5_1 p362 q362
              cases e362
              replace p362 := eq_true p362
              replace q362 := eq_true q362
              go_wp2_with (first | (go_at_call 59; (with_reducible refine (spec_l01Gcd.calls k1 x4_1 ((rd_T31 l0 x5_1).f0) t363 _ A4.out).mono ?_); rintro e w' ⟨rfl, ⟨nd, rfl⟩⟩; (try first | exact ⟨rfl, _, World.drewN_drewN _ _ _⟩ | exact ⟨rfl, _, Eq.trans (World.drewN_drewN _ _ _) (congrArg (World.drewN _) (Nat.add_assoc _ _ _))⟩); have p364 : 0 ≤ (x5_1 : Int) := of_decide_eq_true (by first | (with_reducible assumption) | assumption); have q364 : x5_1 < (l0.length : Int) := of_decide_eq_true (by first | (with_reducible assumption) | assumption); obtain ⟨ad364, e364, hx364_0, hx364_1⟩ := at_T31 HR0.out x5_1 p364 q364; obtain rfl : ad362 = ad364 := (by injection e364); replace p364 := eq_true p364; replace q364 := eq_true q364))
              repeat (go_quiet (first | (go_at_call 59; (with_reducible refine (spec_l01Gcd.calls k1 x4_1 ((rd_T31 l0 x5_1).f0) t363 _ A4.out).mono ?_); rintro e w' ⟨rfl, ⟨nd, rfl⟩⟩; (try first | exact ⟨rfl, _, World.drewN_drewN _ _ _⟩ | exact ⟨rfl, _, Eq.trans (World.drewN_drewN _ _ _) (congrArg (World.drewN _) (Nat.add_assoc _ _ _))⟩); have p364 : 0 ≤ (x5_1 : Int) := of_decide_eq_true (by first | (with_reducible assumption) | assumption); have q364 : x5_1 < (l0.length : Int) := of_decide_eq_true (by first | (with_reducible assumption) | assumption); obtain ⟨ad364, e364, hx364_0, hx364_1⟩ := at_T31 HR0.out x5_1 p364 q364; obtain rfl : ad362 = ad364 := (by injection e364); replace p364 := eq_true p364; replace q364 := eq_true q364)); (try simp only [i64_w, i32_w]); try go_wp2_with (first | (go_at_call 59; (with_reducible refine (spec_l01Gcd.calls k1 x4_1 ((rd_T31 l0 x5_1).f0) t363 _ A4.out).mono ?_); rintro e w' ⟨rfl, ⟨nd, rfl⟩⟩; (try first | exact ⟨rfl, _, World.drewN_drewN _ _ _⟩ | exact ⟨rfl, _, Eq.trans (World.drewN_drewN _ _ _) (congrArg (World.drewN _) (Nat.add_assoc _ _ _))⟩); have p364 : 0 ≤ (x5_1 : Int) := of_decide_eq_true (by first | (with_reducible assumption) | assumption); have q364 : x5_1 < (l0.length : Int) := of_decide_eq_true (by first | (with_reducible assumption) | assumption); obtain ⟨ad364, e364, hx364_0, hx364_1⟩ := at_T31 HR0.out x5_1 p364 q364; obtain rfl : ad362 = ad364 := (by injection e364); replace p364 := eq_true p364; replace q364 := eq_true q364)))
              go_ret2
              exact ⟨by first | rfl | (simp; done) | (simp [*]; done), by repeat (first | exact Drawn0.refl _ | apply Drawn0.step)⟩
            · rw [if_neg c6] at H
              have c6b0 : decide (1000000000000 < (wrap64 ((wrap64 (Int.tdiv x4_1 t363)) * ((rd_T31 l0 x5_1).f0)))) = false := decide_eq_false c6
              clear c6
              have H' := Aside0.mk H
              clear H
              have p362 : 0 ≤ (x5_1 : Int) := of_decide_eq_true (by first | (with_reducible assumption) | assumption)
              have q362 : x5_1 < (l0.length : Int) := of_decide_eq_true (by first | (with_reducible assumption) | assumption)
              obtain ⟨ad362, e362, hx362_0, hx362_1⟩ := at_T31 HR0.out x5_1 p362 q362
              cases e362
              replace p362 := eq_true p362
              replace q362 := eq_true q362
              go_wp2_with (first | (go_at_call 59; (with_reducible refine (spec_l01Gcd.calls k1 x4_1 ((rd_T31 l0 x5_1).f0) t363 _ A4.out).mono ?_); rintro e w' ⟨rfl, ⟨nd, rfl⟩⟩; (try first | exact ⟨rfl, _, World.drewN_drewN _ _ _⟩ | exact ⟨rfl, _, Eq.trans (World.drewN_drewN _ _ _) (congrArg (World.drewN _) (Nat.add_assoc _ _ _))⟩); have p364 : 0 ≤ (x5_1 : Int) := of_decide_eq_true (by first | (with_reducible assumption) | assumption); have q364 : x5_1 < (l0.length : Int) := of_decide_eq_true (by first | (with_reducible assumption) | assumption); obtain ⟨ad364, e364, hx364_0, hx364_1⟩ := at_T31 HR0.out x5_1 p364 q364; obtain rfl : ad362 = ad364 := (by injection e364); replace p364 := eq_true p364; replace q364 := eq_true q364))
              repeat (go_quiet (first | (go_at_call 59; (with_reducible refine (spec_l01Gcd.calls k1 x4_1 ((rd_T31 l0 x5_1).f0) t363 _ A4.out).mono ?_); rintro e w' ⟨rfl, ⟨nd, rfl⟩⟩; (try first | exact ⟨rfl, _, World.drewN_drewN _ _ _⟩ | exact ⟨rfl, _, Eq.trans (World.drewN_drewN _ _ _) (congrArg (World.drewN _) (Nat.add_assoc _ _ _))⟩); have p364 : 0 ≤ (x5_1 : Int) := of_decide_eq_true (by first | (with_reducible assumption) | assumption); have q364 : x5_1 < (l0.length : Int) := of_decide_eq_true (by first | (with_reducible assumption) | assumption); obtain ⟨ad364, e364, hx364_0, hx364_1⟩ := at_T31 HR0.out x5_1 p364 q364; obtain rfl : ad362 = ad364 := (by injection e364); replace p364 := eq_true p364; replace q364 := eq_true q364)); (try simp only [i64_w, i32_w]); try go_wp2_with (first | (go_at_call 59; (with_reducible refine (spec_l01Gcd.calls k1 x4_1 ((rd_T31 l0 x5_1).f0) t363 _ A4.out).mono ?_); rintro e w' ⟨rfl, ⟨nd, rfl⟩⟩; (try first | exact ⟨rfl, _, World.drewN_drewN _ _ _⟩ | exact ⟨rfl, _, Eq.trans (World.drewN_drewN _ _ _) (congrArg (World.drewN _) (Nat.add_assoc _ _ _))⟩); have p364 : 0 ≤ (x5_1 : Int) := of_decide_eq_true (by first | (with_reducible assumption) | assumption); have q364 : x5_1 < (l0.length : Int) := of_decide_eq_true (by first | (with_reducible assumption) | assumption); obtain ⟨ad364, e364, hx364_0, hx364_1⟩ := at_T31 HR0.out x5_1 p364 q364; obtain rfl : ad362 = ad364 := (by injection e364); replace p364 := eq_true p364; replace q364 := eq_true q364)))
              go_roundg k1
              case measure => have := HK1.out; omega
              case rel => exact ⟨(wrap64 ((wrap64 (Int.tdiv x4_1 t363)) * ((rd_T31 l0 x5_1).f0))), (wrap64 (x5_1 + 1)), (by first | rfl | (simp; done) | (simp [*]; done)), (by first | rfl | (simp; done) | (simp [*]; done)), H', ⟨by have := HK1.out; omega⟩, by repeat (first | exact Drawn0.refl _ | apply Drawn0.step)⟩
        · rw [if_neg c3] at H
          exact absurd H (by simp)
      · rw [if_neg c2] at H
        have c2b0 : decide (x5_1 < (l0.length : Int)) = false := decide_eq_false c2
        clear c2
        simp only [Option.some.injEq, Prod.mk.injEq] at H
        obtain ⟨rfl, rfl⟩ := H
        go_wp2
        repeat (go_quiet (fail); (try simp only [i64_w, i32_w]); try go_wp2)
        go_ret2
        exact ⟨by first | rfl | (simp; done) | (simp [*]; done), by repeat (first | exact Drawn0.refl _ | apply Drawn0.step)⟩

end Go.Proofs.Ytfoedfigjcmjbaa.A
