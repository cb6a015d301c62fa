-- Printed by this session's oprint.py through the kit's printer.
import Derived.Test.YtbemhcdklmcbcaaDoorA0
import Derived.Test.YtbemhcdklmcbcaaDoorA47
namespace Go.Proofs.YtbemhcdklmcbcaaDoor.A
open Go.RowKit Go.Proofs.YtbemhcdklmcbcaaDoorW.PrintWords Go.Proofs.YtbemhcdklmcbcaaDoorW.PrintLast Go.Proofs.YtbemhcdklmcbcaaDoorW.PrintMore
attribute [local go_sem] max2_int min2_int max_two min_two max_three min_three max_four min_four   -- for this text's walks alone
set_option linter.unusedVariables false
set_option linter.unusedSimpArgs false

/-! ### impl_mostUneven: function 51 -/
mutual
def impl_mostUneven.l0 : Nat → ByteArray → Int → Int → Option (Int)
  | 0, _, _, _ => none
  | k + 1, x0, x3, x4 => if x4 ≤ (x0.size : Int) then (impl_mostUneven.l1 k x0 x3 x4 x4 0 (x0.size : Int) 0) else (some x3)
def impl_mostUneven.l1 : Nat → ByteArray → Int → Int → Int → Int → Int → Int → Option (Int)
  | 0, _, _, _, _, _, _, _ => none
  | k + 1, x0, x3, x4, x5, x6, x17, x18 => if x18 < x17 then (if x0.size + x0.size ≤ 9223372036854775807 then (if 0 ≤ x18 then (if x18 ≤ (wrap64 (x18 + x4)) then (if (wrap64 (x18 + x4)) ≤ ((x0 ++ x0).size : Int) then ((strings_Count.f ((x0 ++ x0).extract (x18 : Int).toNat ((wrap64 (x18 + x4)) : Int).toNat) (⟨#[49]⟩ : ByteArray)).bind fun t202 => (impl_mostUneven.l1 k x0 x3 x4 (mn x5 t202) (mx x6 t202) x17 (wrap64 (x18 + 1)))) else (none)) else (none)) else (none)) else (none)) else (impl_mostUneven.l0 k x0 (mx x3 (wrap64 (x6 - x5))) (wrap64 (x4 + 1)))
end
def impl_mostUneven.f (k : Nat) (a0 : ByteArray) : Option (Int) := impl_mostUneven.l0 k a0 0 1
theorem impl_mostUneven.mono_l : ∀ k, (∀ y0 y1 y2, LeO (impl_mostUneven.l0 k y0 y1 y2) (impl_mostUneven.l0 (k + 1) y0 y1 y2)) ∧ (∀ y0 y1 y2 y3 y4 y5 y6, LeO (impl_mostUneven.l1 k y0 y1 y2 y3 y4 y5 y6) (impl_mostUneven.l1 (k + 1) y0 y1 y2 y3 y4 y5 y6))
  | 0 => ⟨fun _ _ _ r h => by simp [impl_mostUneven.l0] at h, fun _ _ _ _ _ _ _ r h => by simp [impl_mostUneven.l1] at h⟩
  | k + 1 => by
    obtain ⟨ih0, ih1⟩ := impl_mostUneven.mono_l k
    refine ⟨?_, ?_⟩
    · intro y0 y1 y2
      unfold impl_mostUneven.l0
      repeat' first
      | (with_reducible exact ih0 _ _ _)
      | (with_reducible exact ih1 _ _ _ _ _ _ _)
      | (with_reducible exact LeO.refl _)
      | (with_reducible exact LeO.none _)
      | (with_reducible refine LeO.ite ?_ ?_)
      | (with_reducible refine LeO.bind ?_ (fun _ => ?_))
      | exact ih0 _ _ _
      | exact ih1 _ _ _ _ _ _ _
      | exact LeO.none _
      | refine LeO.ite ?_ ?_
      | refine LeO.bind ?_ (fun _ => ?_)
    · intro y0 y1 y2 y3 y4 y5 y6
      unfold impl_mostUneven.l1
      repeat' first
      | (with_reducible exact ih0 _ _ _)
      | (with_reducible exact ih1 _ _ _ _ _ _ _)
      | (with_reducible exact LeO.refl _)
      | (with_reducible exact LeO.none _)
      | (with_reducible refine LeO.ite ?_ ?_)
      | (with_reducible refine LeO.bind ?_ (fun _ => ?_))
      | exact ih0 _ _ _
      | exact ih1 _ _ _ _ _ _ _
      | exact LeO.none _
      | refine LeO.ite ?_ ?_
      | refine LeO.bind ?_ (fun _ => ?_)
theorem impl_mostUneven.mono : ∀ a0 k, LeO (impl_mostUneven.f k a0) (impl_mostUneven.f (k + 1) a0) := by
  intro a0 k
  obtain ⟨ih0, ih1⟩ := impl_mostUneven.mono_l k
  unfold impl_mostUneven.f
  repeat' first
      | (with_reducible exact ih0 _ _ _)
      | (with_reducible exact ih1 _ _ _ _ _ _ _)
      | (with_reducible exact LeO.refl _)
      | (with_reducible exact LeO.none _)
      | (with_reducible refine LeO.ite ?_ ?_)
      | (with_reducible refine LeO.bind ?_ (fun _ => ?_))
      | exact ih0 _ _ _
      | exact ih1 _ _ _ _ _ _ _
      | exact LeO.none _
      | refine LeO.ite ?_ ?_
      | refine LeO.bind ?_ (fun _ => ?_)
set_option maxHeartbeats 8000000 in
set_option maxRecDepth 100000 in
theorem impl_mostUneven.calls (k : Nat) (a0 : ByteArray) (r : Int) (w : World) (h : impl_mostUneven.f k a0 = some r) :
    Calls Tryd.prog 51 #[.string a0] w fun e w' => e = .returned (.int .i64 r) ∧ Below w.heap.size w w' := by
  have HB := Aside0.mk (Below.refl w.heap.size w)
  have H : (impl_mostUneven.l0 k a0 0 1) = some r := h
  clear h
  have H' := Aside0.mk H
  clear H
  go_enter Tryd.func51, Tryd.ntmps51
  go_wp2
  go_loopg [3, 4] k (fun kq v3 v4 w' => ∃ (x3_1 : Int) (x4_1 : Int), v3 = .int .i64 x3_1 ∧ v4 = .int .i64 x4_1 ∧ Aside0 (impl_mostUneven.l0 kq a0 x3_1 x4_1 = some r) ∧ Aside0 (kq ≤ k) ∧ Aside0 (Below w.heap.size w w'))
  case atStart => exact ⟨(0), (1), (by first | rfl | (simp; done) | (simp [*]; done)), (by first | rfl | (simp; done) | (simp [*]; done)), H', ⟨Nat.le_refl _⟩, ⟨by repeat (first | (with_reducible first | exact HB.out | apply below_alloc | apply pw_below_drewN | apply below_drew1) | exact HB.out)⟩⟩
  case round =>
    clear H'
    obtain ⟨x3_1, x4_1, rfl, rfl, HA, HK1, HB⟩ := hrel
    cases gk with
    | zero => exact absurd HA.out (by simp [impl_mostUneven.l0])
    | succ k1 =>
      have H := HA.out
      clear HA
      simp only [impl_mostUneven.l0] at H
      by_cases c2 : x4_1 ≤ (a0.size : Int)
      · rw [if_pos c2] at H
        have c2b0 : decide (x4_1 ≤ (a0.size : Int)) = true := decide_eq_true c2
        clear c2
        have H' := Aside0.mk H
        clear H
        go_wp2
        go_loopg [5, 6, 18] k1 (fun kq v5 v6 v18 w' => ∃ (x5_2 : Int) (x6_2 : Int) (x18_2 : Int), v5 = .int .i64 x5_2 ∧ v6 = .int .i64 x6_2 ∧ v18 = .int .i64 x18_2 ∧ Aside0 (impl_mostUneven.l1 kq a0 x3_1 x4_1 x5_2 x6_2 (a0.size : Int) x18_2 = some r) ∧ Aside0 (kq ≤ k1) ∧ Aside0 (Below w.heap.size w w'))
        case atStart => exact ⟨(x4_1), (0), (0), (by first | rfl | (simp; done) | (simp [*]; done)), (by first | rfl | (simp; done) | (simp [*]; done)), (by first | rfl | (simp; done) | (simp [*]; done)), H', ⟨Nat.le_refl _⟩, ⟨by repeat (first | (with_reducible first | exact HB.out | apply below_alloc | apply pw_below_drewN | apply below_drew1) | exact HB.out)⟩⟩
        case round =>
          clear H'
          try clear c2
          try clear c2b0
          try clear p2
          obtain ⟨x5_2, x6_2, x18_2, rfl, rfl, rfl, HA, HK2, HB⟩ := hrel
          cases gk with
          | zero => exact absurd HA.out (by simp [impl_mostUneven.l1])
          | succ k2 =>
            have H := HA.out
            clear HA
            simp only [impl_mostUneven.l1] at H
            by_cases c3 : x18_2 < (a0.size : Int)
            · rw [if_pos c3] at H
              have c3b0 : decide (x18_2 < (a0.size : Int)) = true := decide_eq_true c3
              clear c3
              by_cases c4 : a0.size + a0.size ≤ 9223372036854775807
              · rw [if_pos c4] at H
                have c4b0 := eq_true c4
                have c4b1 : decide (a0.size + a0.size ≤ 9223372036854775807) = true := decide_eq_true c4
                try have c4b2 : (9223372036854775807 < a0.size + a0.size) = False := eq_false (Nat.not_lt.2 c4)
                by_cases c5 : 0 ≤ x18_2
                · rw [if_pos c5] at H
                  have c5b0 := eq_true c5
                  have c5b1 : decide (0 ≤ x18_2) = true := decide_eq_true c5
                  clear c5
                  by_cases c6 : x18_2 ≤ (wrap64 (x18_2 + x4_1))
                  · rw [if_pos c6] at H
                    have c6b0 := eq_true c6
                    have c6b1 : decide (x18_2 ≤ (wrap64 (x18_2 + x4_1))) = true := decide_eq_true c6
                    by_cases c7 : (wrap64 (x18_2 + x4_1)) ≤ ((a0 ++ a0).size : Int)
                    · rw [if_pos c7] at H
                      have c7b0 := eq_true c7
                      have c7b1 : decide ((wrap64 (x18_2 + x4_1)) ≤ ((a0 ++ a0).size : Int)) = true := decide_eq_true c7
                      have c7b1s := c7b1; (try simp only [ByteArray.size_append, Int.natCast_add, show ∀ b_ : UInt8, (⟨#[b_]⟩ : ByteArray).size = 1 from fun _ => rfl] at c7b1s); (try have c7b1t := eq_true (of_decide_eq_true c7b1s))
                      replace H := Option.bind_eq_some_iff.mp H
                      obtain ⟨t202, A80, H⟩ := H
                      replace H : (impl_mostUneven.l1 k2 a0 x3_1 x4_1 (mn x5_2 t202) (mx x6_2 t202) (a0.size : Int) (wrap64 (x18_2 + 1))) = some r := H
                      have A8 := Aside0.mk A80
                      clear A80
                      obtain ⟨ji9, hji9⟩ : ∃ j_ : Int, (mn x5_2 t202) = j_ := ⟨_, rfl⟩
                      replace H : (impl_mostUneven.l1 k2 a0 x3_1 x4_1 ji9 (mx x6_2 t202) (a0.size : Int) (wrap64 (x18_2 + 1))) = some r := by first | (rw [hji9] at H; exact H) | (simp only [hji9] at H ⊢; exact H)
                      (try rw [hji9] at A8)
                      have hji9_ : (if t202 < x5_2 then t202 else x5_2) = ji9 := hji9
                      obtain ⟨ji10, hji10⟩ : ∃ j_ : Int, (mx x6_2 t202) = j_ := ⟨_, rfl⟩
                      replace H : (impl_mostUneven.l1 k2 a0 x3_1 x4_1 ji9 ji10 (a0.size : Int) (wrap64 (x18_2 + 1))) = some r := by first | (rw [hji10] at H; exact H) | (simp only [hji10] at H ⊢; exact H)
                      (try rw [hji10] at A8)
                      have hji10_ : (if x6_2 < t202 then t202 else x6_2) = ji10 := hji10
                      have H' := Aside0.mk H
                      clear H
                      go_wp2_with (first | ((with_reducible refine gate_callee (f := 47) rfl ?_); refine goesL_ (some 29) rfl rfl Tryd.func47 (by kernel_rfl) rfl #[.string ((a0 ++ a0).extract (x18_2 : Int).toNat ((wrap64 (x18_2 + x4_1)) : Int).toNat), .string (⟨#[49]⟩ : ByteArray)] rfl (by (try simp only [List.map_toArray, List.map_cons, List.map_nil]); first | done | rfl | (simp only [List.length_drop, List.length_take]; rfl)) ?_; (with_reducible refine (strings_Count.calls ((a0 ++ a0).extract (x18_2 : Int).toNat ((wrap64 (x18_2 + x4_1)) : Int).toNat) (⟨#[49]⟩ : ByteArray) t202 _ A8.out).mono ?_); rintro e w' ⟨rfl, ⟨nd, rfl⟩⟩; refine ⟨_, rfl, ?_⟩))
                      go_roundg k2
                      case measure => have := HK1.out; have := HK2.out; omega
                      case rel => exact ⟨(ji9), (ji10), (wrap64 (x18_2 + 1)), (by first | rfl | (simp; done) | (simp only [← hji9] <;> (first | rfl | simp)) | (simp [*]; done)), (by first | rfl | (simp; done) | (simp only [← hji10] <;> (first | rfl | simp)) | (simp [*]; done)), (by first | rfl | (simp; done) | (simp [*]; done)), H', ⟨by have := HK1.out; have := HK2.out; omega⟩, ⟨by repeat (first | (with_reducible first | exact HB.out | apply below_alloc | apply pw_below_drewN | apply below_drew1) | exact HB.out)⟩⟩
                    · rw [if_neg c7] at H
                      exact absurd H (by simp)
                  · rw [if_neg c6] at H
                    exact absurd H (by simp)
                · rw [if_neg c5] at H
                  exact absurd H (by simp)
              · rw [if_neg c4] at H
                exact absurd H (by simp)
            · rw [if_neg c3] at H
              have c3b0 : decide (x18_2 < (a0.size : Int)) = false := decide_eq_false c3
              clear c3
              obtain ⟨ji11, hji11⟩ : ∃ j_ : Int, (mx x3_1 (wrap64 (x6_2 - x5_2))) = j_ := ⟨_, rfl⟩
              replace H : (impl_mostUneven.l0 k2 a0 ji11 (wrap64 (x4_1 + 1))) = some r := by first | (rw [hji11] at H; exact H) | (simp only [hji11] at H ⊢; exact H)
              have hji11_ : (if x3_1 < (wrap64 (x6_2 - x5_2)) then (wrap64 (x6_2 - x5_2)) else x3_1) = ji11 := hji11
              have H' := Aside0.mk H
              clear H
              go_wp2
              go_roundg k2
              case measure => have := HK1.out; have := HK2.out; omega
              case rel => exact ⟨(ji11), (wrap64 (x4_1 + 1)), (by first | rfl | (simp; done) | (simp only [← hji11] <;> (first | rfl | simp)) | (simp [*]; done)), (by first | rfl | (simp; done) | (simp [*]; done)), H', ⟨by have := HK1.out; have := HK2.out; omega⟩, ⟨by repeat (first | (with_reducible first | exact HB.out | apply below_alloc | apply pw_below_drewN | apply below_drew1) | exact HB.out)⟩⟩
      · rw [if_neg c2] at H
        have c2b0 : decide (x4_1 ≤ (a0.size : Int)) = false := decide_eq_false c2
        clear c2
        obtain rfl := Option.some.inj H
        go_wp2
        go_ret
        exact ⟨by first | rfl | (simp [errW_none, errW_some] <;> rfl) | (simp [*, errW_none, errW_some] <;> rfl), by repeat (first | (with_reducible first | exact HB.out | apply below_alloc | apply pw_below_drewN | apply below_drew1) | exact HB.out)⟩

end Go.Proofs.YtbemhcdklmcbcaaDoor.A
