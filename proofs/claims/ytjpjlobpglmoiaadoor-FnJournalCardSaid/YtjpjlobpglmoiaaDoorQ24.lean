/- Texts of this claim, put together by this session's pack2.py: each part is introduced by its own comment. No conditions. -/
import Derived.Test.YtjpjlobpglmoiaaDoorQ23
import Derived.Test.YtjpjlobpglmoiaaDoorOpen
-- Printed by this session's oprint.py through the kit's printer.
namespace Go.Proofs.YtjpjlobpglmoiaaDoor.A
open Go.RowKit Go.Proofs.YtjpjlobpglmoiaaDoorW.PrintWords Go.Proofs.YtjpjlobpglmoiaaDoorW.PrintLast Go.Proofs.YtjpjlobpglmoiaaDoorW.PrintMore
attribute [local go_sem] max2_int min2_int max_two min_two max_three min_three max_four min_four   -- for this text's walks alone
set_option linter.unusedVariables false
set_option linter.unusedSimpArgs false

/-! ### spec_l01Cut: function 54 -/
def spec_l01Cut.l0 : Nat → ByteArray → Int → List ByteArray → Int → Int → Option (List ByteArray)
  | 0, _, _, _, _, _ => none
  | k + 1, x0, x1, x5, x6, x7 => if x7 ≤ (x0.size : Int) then (if x7 = (x0.size : Int) then (if 0 ≤ x6 then (if x6 ≤ x7 then (if x5.length < 8796093022208 then (spec_l01Cut.l0 k x0 x1 (x5 ++ [x0.extract (x6 : Int).toNat (x7 : Int).toNat]) (wrap64 (x7 + 1)) (wrap64 (x7 + 1))) else (none)) else (none)) else (none)) else (if 0 ≤ x7 then (if x7 < (x0.size : Int) then (if (bt x0 x7) = x1 then (if 0 ≤ x6 then (if x6 ≤ x7 then (if x5.length < 8796093022208 then (spec_l01Cut.l0 k x0 x1 (x5 ++ [x0.extract (x6 : Int).toNat (x7 : Int).toNat]) (wrap64 (x7 + 1)) (wrap64 (x7 + 1))) else (none)) else (none)) else (none)) else (spec_l01Cut.l0 k x0 x1 x5 x6 (wrap64 (x7 + 1)))) else (none)) else (none))) else (some x5)
def spec_l01Cut.f (k : Nat) (a0 : ByteArray) (a1 : Int) : Option (List ByteArray) := spec_l01Cut.l0 k a0 a1 (([] : List ByteArray)) 0 0
theorem spec_l01Cut.mono_l : ∀ k, (∀ y0 y1 y2 y3 y4, LeO (spec_l01Cut.l0 k y0 y1 y2 y3 y4) (spec_l01Cut.l0 (k + 1) y0 y1 y2 y3 y4))
  | 0 => fun _ _ _ _ _ r h => by simp [spec_l01Cut.l0] at h
  | k + 1 => by
    have ih0 := spec_l01Cut.mono_l k
    · intro y0 y1 y2 y3 y4
      unfold spec_l01Cut.l0
      repeat' first
      | (with_reducible exact ih0 _ _ _ _ _)
      | (with_reducible exact LeO.refl _)
      | (with_reducible exact LeO.none _)
      | (with_reducible refine LeO.ite ?_ ?_)
      | (with_reducible refine LeO.bind ?_ (fun _ => ?_))
      | exact ih0 _ _ _ _ _
      | exact LeO.none _
      | refine LeO.ite ?_ ?_
      | refine LeO.bind ?_ (fun _ => ?_)
theorem spec_l01Cut.mono : ∀ a0 a1 k, LeO (spec_l01Cut.f k a0 a1) (spec_l01Cut.f (k + 1) a0 a1) := by
  intro a0 a1 k
  have ih0 := spec_l01Cut.mono_l k
  unfold spec_l01Cut.f
  repeat' first
      | (with_reducible exact ih0 _ _ _ _ _)
      | (with_reducible exact LeO.refl _)
      | (with_reducible exact LeO.none _)
      | (with_reducible refine LeO.ite ?_ ?_)
      | (with_reducible refine LeO.bind ?_ (fun _ => ?_))
      | exact ih0 _ _ _ _ _
      | exact LeO.none _
      | refine LeO.ite ?_ ?_
      | refine LeO.bind ?_ (fun _ => ?_)
set_option maxHeartbeats 8000000 in
set_option maxRecDepth 100000 in
theorem spec_l01Cut.calls (k : Nat) (a0 : ByteArray) (a1 : Int) (r : List ByteArray) (w : World) (h : spec_l01Cut.f k a0 a1 = some r) :
    Calls Tryd.prog 54 #[.string a0, .int .u8 a1] w fun e w' => ∃ v0_ : Value, e = .returned (v0_) ∧ Kd.R Kd.string 9 w' w.heap.size (fun _ => True) v0_ r ∧ Below w.heap.size w w' := by
  have HB := Aside0.mk (Below.refl w.heap.size w)
  have H : (spec_l01Cut.l0 k a0 a1 (([] : List ByteArray)) 0 0) = some r := h
  clear h
  obtain ⟨y203, hy203⟩ : ∃ y_ : List ByteArray, y_ = (([] : List ByteArray)) := ⟨_, rfl⟩
  replace H : (spec_l01Cut.l0 k a0 a1 y203 0 0) = some r := by first | (rw [hy203]; with_reducible exact H) | (have H2_ := (Option.bind_some _ _).symm.trans H; rw [hy203]; with_reducible exact H2_) | (have H2_ := (Option.bind_some _ _).symm.trans H; with_reducible exact H2_) | with_reducible exact H | (rw [hy203]; exact H) | exact H
  have Ny203 := Aside0.mk hy203
  clear hy203
  have H' := Aside0.mk H
  clear H
  go_enter Tryd.func54, Tryd.ntmps54
  go_wp2_with (first | ((with_reducible refine gate_dst (N := 8) rfl ?_); refine Kd.R_lit Kd.string _ 9 ?hg (N := 8) ?hd (xs := ([] : List ByteArray)) (inner := []) (ok := fun _ => True) (okp := fun _ => True) ?hr ?hp (fun _ hk => hk) trivial (Below.refl _ _) (Nat.le_refl _) (by simp) ?_; (case hd => rfl); (case hg => rfl); (case hr => first | (go_simp; done) | (go_simp; rfl)); (case hp => exact (Reps.none _ _)); intro v204 w3 ho4 hb hg_ hnew_; clear hg_ hnew_; (first | rw [← Ny203.out] at ho4 | (simp only [Int.reduceToNat] at ho4; rw [← Ny203.out] at ho4)); have n0_ := Aside0.mk (Kd.R_lower ho4 (below_size (by repeat (first | (with_reducible first | exact HB.out | apply below_alloc | apply pw_below_drewN | apply below_drew1) | exact HB.out)))); have n1_ := Aside0.mk (below_step (by repeat (first | (with_reducible first | exact HB.out | apply below_alloc | apply pw_below_drewN | apply below_drew1) | exact HB.out)) hb); clear HB; have HO205 := n0_; have HB := n1_; clear n0_ n1_; clear hb ho4))
  go_loopg [5, 6, 7] k (fun kq v5 v6 v7 w' => ∃ (x5_1 : List ByteArray) (x6_1 : Int) (x7_1 : Int), v6 = .int .i64 x6_1 ∧ v7 = .int .i64 x7_1 ∧ Aside0 (spec_l01Cut.l0 kq a0 a1 x5_1 x6_1 x7_1 = some r) ∧ Aside0 (kq ≤ k) ∧ Aside0 (Kd.R Kd.string 9 w' w.heap.size (fun _ => True) v5 x5_1) ∧ Aside0 (Below w.heap.size w w'))
  case atStart => exact ⟨(y203), (0), (0), (by first | rfl | (simp; done) | (simp [*]; done)), (by first | rfl | (simp; done) | (simp [*]; done)), H', ⟨Nat.le_refl _⟩, ⟨by (with_reducible repeat (first | apply Kd.R_alloc | apply Kd.R_drewN | apply Kd.R_drew)); exact HO205.out⟩, ⟨by repeat (first | (with_reducible first | exact HB.out | apply below_alloc | apply pw_below_drewN | apply below_drew1) | exact HB.out)⟩⟩
  case round =>
    clear H'
    try clear p2
    obtain ⟨x5_1, x6_1, x7_1, rfl, rfl, HA, HK1, HO_5, HB⟩ := hrel
    cases gk with
    | zero => exact absurd HA.out (by simp [spec_l01Cut.l0])
    | succ k1 =>
      have H := HA.out
      clear HA
      simp only [spec_l01Cut.l0] at H
      by_cases c5 : x7_1 ≤ (a0.size : Int)
      · rw [if_pos c5] at H
        have c5b0 : decide (x7_1 ≤ (a0.size : Int)) = true := decide_eq_true c5
        clear c5
        by_cases c6 : x7_1 = (a0.size : Int)
        · rw [if_pos c6] at H
          have c6b0 : (x7_1 == (a0.size : Int)) = true := beq_iff_eq.mpr c6
          have c6b1 : (x7_1 != (a0.size : Int)) = false := bne_eq_false_iff_eq.mpr c6
          clear c6
          by_cases c7 : 0 ≤ x6_1
          · rw [if_pos c7] at H
            have c7b0 := eq_true c7
            have c7b1 : decide (0 ≤ x6_1) = true := decide_eq_true c7
            clear c7
            by_cases c8 : x6_1 ≤ x7_1
            · rw [if_pos c8] at H
              have c8b0 := eq_true c8
              have c8b1 : decide (x6_1 ≤ x7_1) = true := decide_eq_true c8
              clear c8
              have c9b0 := eq_true (of_decide_eq_true (by first | (with_reducible assumption) | assumption) : x7_1 ≤ (a0.size : Int))
              by_cases c10 : x5_1.length < 8796093022208
              · rw [if_pos c10] at H
                have LMc10 := Aside0.mk c10
                clear c10
                obtain ⟨y206, hy206⟩ : ∃ y_ : List ByteArray, y_ = (x5_1 ++ [a0.extract (x6_1 : Int).toNat (x7_1 : Int).toNat]) := ⟨_, rfl⟩
                replace H : (spec_l01Cut.l0 k1 a0 a1 y206 (wrap64 (x7_1 + 1)) (wrap64 (x7_1 + 1))) = some r := by first | (rw [hy206]; with_reducible exact H) | (have H2_ := (Option.bind_some _ _).symm.trans H; rw [hy206]; with_reducible exact H2_) | (have H2_ := (Option.bind_some _ _).symm.trans H; with_reducible exact H2_) | with_reducible exact H | (rw [hy206]; exact H) | exact H
                have Ny206 := Aside0.mk hy206
                clear hy206
                have H' := Aside0.mk H
                clear H
                go_wp2_with (first | ((with_reducible refine gate_builtin (b := .append) (xs := #[.tmp 26, .tmp 31]) rfl ?_); at_builtin; refine Kd.R_append Kd.string (w0 := w) w.heap.size rfl (.tmp 26) (.tmp 31) 22 9 (.string ⟨#[]⟩) 16 rfl Tryd.underlying22 info9 rfl (by decide) (by omega) u5 x5_1 (a0.extract (x6_1 : Int).toNat (x7_1 : Int).toNat) [.string (a0.extract (x6_1 : Int).toNat (x7_1 : Int).toNat)] (fun _ => True) (fun _ => False) rfl rfl ?aP (fun _ hk => hk.elim) ?aF ?aO ?aB ?aS ?aL ?_; (case aP => exact rfl); (case aB => exact (by repeat (first | (with_reducible first | exact HB.out | apply below_alloc | apply pw_below_drewN | apply below_drew1) | exact HB.out))); (case aF => exact (fun _ _ => trivial)); (case aO => exact (by (with_reducible repeat (first | apply Kd.R_alloc | apply Kd.R_drewN | apply Kd.R_drew)); exact HO_5.out)); (case aS => exact (below_size (by repeat (first | (with_reducible first | exact HB.out | apply below_alloc | apply pw_below_drewN | apply below_drew1) | exact HB.out)))); (case aL => have := LMc10.out; omega); intro v207 w11 ho hb hg hat; rw [← Ny206.out] at ho; have n0_ := Aside0.mk (hb); have n1_ := Aside0.mk (ho); clear HB; clear HO_5; have HB := n0_; have HO208 := n1_; clear n0_ n1_; clear ho hb hg hat))
                go_roundg k1
                case measure => have := HK1.out; omega
                case rel => exact ⟨(y206), (wrap64 (x7_1 + 1)), (wrap64 (x7_1 + 1)), (by first | rfl | (simp; done) | (simp [*]; done)), (by first | rfl | (simp; done) | (simp [*]; done)), H', ⟨by have := HK1.out; omega⟩, ⟨by (with_reducible repeat (first | apply Kd.R_alloc | apply Kd.R_drewN | apply Kd.R_drew)); exact HO208.out⟩, ⟨by repeat (first | (with_reducible first | exact HB.out | apply below_alloc | apply pw_below_drewN | apply below_drew1) | exact HB.out)⟩⟩
              · rw [if_neg c10] at H
                exact absurd H (by simp)
            · rw [if_neg c8] at H
              exact absurd H (by simp)
          · rw [if_neg c7] at H
            exact absurd H (by simp)
        · rw [if_neg c6] at H
          have c6b0 : (x7_1 == (a0.size : Int)) = false := beq_eq_false_iff_ne.mpr c6
          have c6b1 : (x7_1 != (a0.size : Int)) = true := bne_iff_ne.mpr c6
          by_cases c12 : 0 ≤ x7_1
          · rw [if_pos c12] at H
            have c12b0 : decide (0 ≤ x7_1) = true := decide_eq_true c12
            clear c12
            by_cases c13 : x7_1 < (a0.size : Int)
            · rw [if_pos c13] at H
              have c13b0 : decide (x7_1 < (a0.size : Int)) = true := decide_eq_true c13
              clear c13
              by_cases c15 : (bt a0 x7_1) = a1
              · rw [if_pos c15] at H
                have c15b0 : ((bt a0 x7_1) == a1) = true := beq_iff_eq.mpr c15
                have c15b1 : ((bt a0 x7_1) != a1) = false := bne_eq_false_iff_eq.mpr c15
                clear c15
                by_cases c16 : 0 ≤ x6_1
                · rw [if_pos c16] at H
                  have c16b0 := eq_true c16
                  have c16b1 : decide (0 ≤ x6_1) = true := decide_eq_true c16
                  clear c16
                  by_cases c17 : x6_1 ≤ x7_1
                  · rw [if_pos c17] at H
                    have c17b0 := eq_true c17
                    have c17b1 : decide (x6_1 ≤ x7_1) = true := decide_eq_true c17
                    clear c17
                    have c18b0 := eq_true (of_decide_eq_true (by first | (with_reducible assumption) | assumption) : x7_1 ≤ (a0.size : Int))
                    by_cases c19 : x5_1.length < 8796093022208
                    · rw [if_pos c19] at H
                      have LMc19 := Aside0.mk c19
                      clear c19
                      obtain ⟨y209, hy209⟩ : ∃ y_ : List ByteArray, y_ = (x5_1 ++ [a0.extract (x6_1 : Int).toNat (x7_1 : Int).toNat]) := ⟨_, rfl⟩
                      replace H : (spec_l01Cut.l0 k1 a0 a1 y209 (wrap64 (x7_1 + 1)) (wrap64 (x7_1 + 1))) = some r := by first | (rw [hy209]; with_reducible exact H) | (have H2_ := (Option.bind_some _ _).symm.trans H; rw [hy209]; with_reducible exact H2_) | (have H2_ := (Option.bind_some _ _).symm.trans H; with_reducible exact H2_) | with_reducible exact H | (rw [hy209]; exact H) | exact H
                      have Ny209 := Aside0.mk hy209
                      clear hy209
                      have H' := Aside0.mk H
                      clear H
                      have p14 : 0 ≤ (x7_1 : Int) := of_decide_eq_true (by first | (with_reducible assumption) | assumption)
                      have q14 : x7_1 < (a0.size : Int) := of_decide_eq_true (by first | (with_reducible assumption) | assumption)
                      have hx14 := bt_at a0 x7_1
                      replace p14 := eq_true p14
                      replace q14 := eq_true q14
                      go_wp2_with (first | ((with_reducible refine gate_builtin (b := .append) (xs := #[.tmp 26, .tmp 31]) rfl ?_); at_builtin; refine Kd.R_append Kd.string (w0 := w) w.heap.size rfl (.tmp 26) (.tmp 31) 22 9 (.string ⟨#[]⟩) 16 rfl Tryd.underlying22 info9 rfl (by decide) (by omega) u5 x5_1 (a0.extract (x6_1 : Int).toNat (x7_1 : Int).toNat) [.string (a0.extract (x6_1 : Int).toNat (x7_1 : Int).toNat)] (fun _ => True) (fun _ => False) rfl rfl ?aP (fun _ hk => hk.elim) ?aF ?aO ?aB ?aS ?aL ?_; (case aP => exact rfl); (case aB => exact (by repeat (first | (with_reducible first | exact HB.out | apply below_alloc | apply pw_below_drewN | apply below_drew1) | exact HB.out))); (case aF => exact (fun _ _ => trivial)); (case aO => exact (by (with_reducible repeat (first | apply Kd.R_alloc | apply Kd.R_drewN | apply Kd.R_drew)); exact HO_5.out)); (case aS => exact (below_size (by repeat (first | (with_reducible first | exact HB.out | apply below_alloc | apply pw_below_drewN | apply below_drew1) | exact HB.out)))); (case aL => have := LMc19.out; omega); intro v210 w20 ho hb hg hat; rw [← Ny209.out] at ho; have n0_ := Aside0.mk (hb); have n1_ := Aside0.mk (ho); clear HB; clear HO_5; have HB := n0_; have HO211 := n1_; clear n0_ n1_; clear ho hb hg hat))
                      go_roundg k1
                      case measure => have := HK1.out; omega
                      case rel => exact ⟨(y209), (wrap64 (x7_1 + 1)), (wrap64 (x7_1 + 1)), (by first | rfl | (simp; done) | (simp [*]; done)), (by first | rfl | (simp; done) | (simp [*]; done)), H', ⟨by have := HK1.out; omega⟩, ⟨by (with_reducible repeat (first | apply Kd.R_alloc | apply Kd.R_drewN | apply Kd.R_drew)); exact HO211.out⟩, ⟨by repeat (first | (with_reducible first | exact HB.out | apply below_alloc | apply pw_below_drewN | apply below_drew1) | exact HB.out)⟩⟩
                    · rw [if_neg c19] at H
                      exact absurd H (by simp)
                  · rw [if_neg c17] at H
                    exact absurd H (by simp)
                · rw [if_neg c16] at H
                  exact absurd H (by simp)
              · rw [if_neg c15] at H
                have c15b0 : ((bt a0 x7_1) == a1) = false := beq_eq_false_iff_ne.mpr c15
                have c15b1 : ((bt a0 x7_1) != a1) = true := bne_iff_ne.mpr c15
                have H' := Aside0.mk H
                clear H
                have p14 : 0 ≤ (x7_1 : Int) := of_decide_eq_true (by first | (with_reducible assumption) | assumption)
                have q14 : x7_1 < (a0.size : Int) := of_decide_eq_true (by first | (with_reducible assumption) | assumption)
                have hx14 := bt_at a0 x7_1
                replace p14 := eq_true p14
                replace q14 := eq_true q14
                go_wp2
                go_roundg k1
                case measure => have := HK1.out; omega
                case rel => exact ⟨(x5_1), (x6_1), (wrap64 (x7_1 + 1)), (by first | rfl | (simp; done) | (simp [*]; done)), (by first | rfl | (simp; done) | (simp [*]; done)), H', ⟨by have := HK1.out; omega⟩, ⟨by (with_reducible repeat (first | apply Kd.R_alloc | apply Kd.R_drewN | apply Kd.R_drew)); exact HO_5.out⟩, ⟨by repeat (first | (with_reducible first | exact HB.out | apply below_alloc | apply pw_below_drewN | apply below_drew1) | exact HB.out)⟩⟩
            · rw [if_neg c13] at H
              exact absurd H (by simp)
          · rw [if_neg c12] at H
            exact absurd H (by simp)
      · rw [if_neg c5] at H
        have c5b0 : decide (x7_1 ≤ (a0.size : Int)) = false := decide_eq_false c5
        clear c5
        obtain rfl := Option.some.inj H
        go_wp2
        go_ret
        exact ⟨_, by first | rfl | (simp [errW_none, errW_some] <;> rfl) | (simp [*, errW_none, errW_some] <;> rfl), by (with_reducible repeat (first | apply Kd.R_alloc | apply Kd.R_drewN | apply Kd.R_drew)); exact HO_5.out, by repeat (first | (with_reducible first | exact HB.out | apply below_alloc | apply pw_below_drewN | apply below_drew1) | exact HB.out)⟩

end Go.Proofs.YtjpjlobpglmoiaaDoor.A
-- Printed by this session's oprint.py through the kit's printer.
namespace Go.Proofs.YtjpjlobpglmoiaaDoor.A
open Go.RowKit Go.Proofs.YtjpjlobpglmoiaaDoorW.PrintWords Go.Proofs.YtjpjlobpglmoiaaDoorW.PrintLast Go.Proofs.YtjpjlobpglmoiaaDoorW.PrintMore
attribute [local go_sem] max2_int min2_int max_two min_two max_three min_three max_four min_four   -- for this text's walks alone
set_option linter.unusedVariables false
set_option linter.unusedSimpArgs false

/-! ### spec_l11Lines: function 35 -/
-- given: proved by hand (lines.tpl)
def spec_l11Lines.f (k : Nat) (t : ByteArray) : Option (List ByteArray × ByteArray) := (spec_l01Cut.f k t 10).bind fun p => if 0 < p.length ∧ p.length ≤ 1048577 then some (p.take (p.length - 1), rdOf ByteArray.empty p ((p.length - 1 : Nat) : Int)) else none
theorem spec_l11Lines.mono : ∀ a0 k, LeO (spec_l11Lines.f k a0) (spec_l11Lines.f (k + 1) a0) := fun a0 k => LeO.bind (spec_l01Cut.mono a0 10 k) (fun _ => LeO.refl _)
set_option maxHeartbeats 1600000 in
set_option maxRecDepth 100000 in
theorem spec_l11Lines.calls (k : Nat) (a0 : ByteArray) (r1 : List ByteArray) (r2 : ByteArray) (w : World) (h : spec_l11Lines.f k a0 = some (r1, r2)) :
    Calls Tryd.prog 35 #[.string a0] w fun e w' => ∃ v0_ : Value, e = .returned (.tuple #[v0_, .string r2]) ∧ Kd.R Kd.string 9 w' w.heap.size (fun _ => True) v0_ r1 ∧ Below w.heap.size w w' := by
  unfold spec_l11Lines.f at h
  cases hc : spec_l01Cut.f k a0 10 with
  | none => rw [hc] at h; exact absurd h (by simp)
  | some p =>
    rw [hc] at h
    simp only [Option.bind_some] at h
    by_cases c : 0 < p.length ∧ p.length ≤ 1048577
    · rw [if_pos c] at h
      have h := Option.some.inj h
      obtain ⟨m, hm⟩ : ∃ m, p.length = m + 1 := ⟨p.length - 1, by omega⟩
      rw [hm, Nat.add_sub_cancel, Prod.mk.injEq] at h
      obtain ⟨rfl, rfl⟩ := h
      have HC := Aside0.mk hc
      have HM := Aside0.mk hm
      have hm1 : (m : Int) ≤ 1048576 := by omega
      clear hc c hm
      go_enter Tryd.func35, Tryd.ntmps35
      go_wp2_with (first | (go_at_call 54; refine (spec_l01Cut.calls k a0 10 p _ HC.out).mono ?_; rintro e w1 ⟨v, rfl, ho, hb⟩; obtain ⟨A, cc, rfl, hcc, hrd⟩ := Kd.R_reads ho; rw [HM.out] at ho hcc hrd ⊢; obtain ⟨ad, rfl, hx⟩ := Kd.at_string hrd (m : Int) (by omega) (by omega); rw [Int.toNat_natCast] at hx; have HO := Aside0.mk ho; have HB := Aside0.mk hb; clear ho hb hrd))
      have w1_ : wrap64 (((m + 1 : Nat) : Int) - 1) = (m : Int) := by unfold wrap64; omega
      go_quiet (fail)
      go_wp2
      go_ret2
      exact ⟨_, rfl, by (with_reducible repeat (first | apply Kd.R_alloc | apply Kd.R_drewN | apply Kd.R_drew)); exact Kd.R_take HO.out (by have := HM.out; omega), pw_below_drewN HB.out _⟩
    · rw [if_neg c] at h
      exact absurd h (by simp)

end Go.Proofs.YtjpjlobpglmoiaaDoor.A
-- Printed by this session's oprint.py through the kit's printer.
namespace Go.Proofs.YtjpjlobpglmoiaaDoor.A
open Go.RowKit Go.Proofs.YtjpjlobpglmoiaaDoorW.PrintWords Go.Proofs.YtjpjlobpglmoiaaDoorW.PrintLast Go.Proofs.YtjpjlobpglmoiaaDoorW.PrintMore
attribute [local go_sem] max2_int min2_int max_two min_two max_three min_three max_four min_four   -- for this text's walks alone
set_option linter.unusedVariables false
set_option linter.unusedSimpArgs false

/-! ### spec_l00Src_next: function 56 -/
def spec_l00Src_next.f (s0_0 : List Int) (s0_1 : Int) (s0_2 : Int) : Option (Int × Int × Int) := if s0_1 < (s0_0.length : Int) then (if 0 ≤ s0_1 then (if (wrap64 (s0_1 + 1)) ≤ (s0_0.length : Int) then (some (wrap64 (rd s0_0 s0_1), wrap64 (s0_1 + 1), IntKind.u64.wrap ((IntKind.u64.wrap ((IntKind.u64.wrap (s0_2 * 6364136223846793005)) + (IntKind.u64.wrap (wrap64 (rd s0_0 s0_1))))) + 1442695040888963407))) else (some (wrap64 (Go.bits .and .u64 ((IntKind.u64.wrap ((IntKind.u64.wrap ((IntKind.u64.wrap (s0_2 * 6364136223846793005)) + (IntKind.u64.wrap (wrap64 (rd s0_0 s0_1))))) + 1442695040888963407)) / 1099511627776) 255), wrap64 (s0_1 + 1), IntKind.u64.wrap ((IntKind.u64.wrap ((IntKind.u64.wrap (s0_2 * 6364136223846793005)) + (IntKind.u64.wrap (wrap64 (rd s0_0 s0_1))))) + 1442695040888963407)))) else (none)) else (if (wrap64 (s0_1 + 1)) ≤ (s0_0.length : Int) then (some (0, wrap64 (s0_1 + 1), IntKind.u64.wrap ((IntKind.u64.wrap ((IntKind.u64.wrap (s0_2 * 6364136223846793005)))) + 1442695040888963407))) else (some (wrap64 (Go.bits .and .u64 ((IntKind.u64.wrap ((IntKind.u64.wrap ((IntKind.u64.wrap (s0_2 * 6364136223846793005)))) + 1442695040888963407)) / 1099511627776) 255), wrap64 (s0_1 + 1), IntKind.u64.wrap ((IntKind.u64.wrap ((IntKind.u64.wrap (s0_2 * 6364136223846793005)))) + 1442695040888963407))))
set_option maxHeartbeats 8000000 in
set_option maxRecDepth 100000 in
theorem spec_l00Src_next.calls (g : Nat) (s0_0 : List Int) (s0_1 : Int) (s0_2 : Int) (r1 : Int) (r2 : Int) (r3 : Int) (w0 w : World) (hI : IsS75 w0 w g s0_0 s0_1 s0_2) (hB : Below w0.heap.size w0 w) (h : spec_l00Src_next.f s0_0 s0_1 s0_2 = some (r1, r2, r3)) :
    Calls Tryd.prog 56 #[.pointer (some ⟨g, 0, none⟩)] w fun e w' => e = .returned (.int .i64 r1) ∧ IsS75 w0 w' g s0_0 r2 r3 ∧ Below w0.heap.size w0 w' ∧ KeepBut w w' g none := by
  have HI0 := Aside0.mk hI
  have HK := Aside0.mk (KeepBut.refl w g none)
  have HL := Aside0.mk hB.size
  clear hI
  have HW0 := Aside0.mk hB.size
  have HB := Aside0.mk hB
  clear hB
  have H : (if s0_1 < (s0_0.length : Int) then (if 0 ≤ s0_1 then (if (wrap64 (s0_1 + 1)) ≤ (s0_0.length : Int) then (some (wrap64 (rd s0_0 s0_1), wrap64 (s0_1 + 1), IntKind.u64.wrap ((IntKind.u64.wrap ((IntKind.u64.wrap (s0_2 * 6364136223846793005)) + (IntKind.u64.wrap (wrap64 (rd s0_0 s0_1))))) + 1442695040888963407))) else (some (wrap64 (Go.bits .and .u64 ((IntKind.u64.wrap ((IntKind.u64.wrap ((IntKind.u64.wrap (s0_2 * 6364136223846793005)) + (IntKind.u64.wrap (wrap64 (rd s0_0 s0_1))))) + 1442695040888963407)) / 1099511627776) 255), wrap64 (s0_1 + 1), IntKind.u64.wrap ((IntKind.u64.wrap ((IntKind.u64.wrap (s0_2 * 6364136223846793005)) + (IntKind.u64.wrap (wrap64 (rd s0_0 s0_1))))) + 1442695040888963407)))) else (none)) else (if (wrap64 (s0_1 + 1)) ≤ (s0_0.length : Int) then (some (0, wrap64 (s0_1 + 1), IntKind.u64.wrap ((IntKind.u64.wrap ((IntKind.u64.wrap (s0_2 * 6364136223846793005)))) + 1442695040888963407))) else (some (wrap64 (Go.bits .and .u64 ((IntKind.u64.wrap ((IntKind.u64.wrap ((IntKind.u64.wrap (s0_2 * 6364136223846793005)))) + 1442695040888963407)) / 1099511627776) 255), wrap64 (s0_1 + 1), IntKind.u64.wrap ((IntKind.u64.wrap ((IntKind.u64.wrap (s0_2 * 6364136223846793005)))) + 1442695040888963407))))) = some (r1, r2, r3) := h
  clear h
  by_cases c2 : s0_1 < (s0_0.length : Int)
  · rw [if_pos c2] at H
    have c2b0 : decide (s0_1 < (s0_0.length : Int)) = true := decide_eq_true c2
    clear c2
    by_cases c3 : 0 ≤ s0_1
    · rw [if_pos c3] at H
      have c3b0 : decide (0 ≤ s0_1) = true := decide_eq_true c3
      clear c3
      by_cases c4 : (wrap64 (s0_1 + 1)) ≤ (s0_0.length : Int)
      · rw [if_pos c4] at H
        have c4b0 : decide ((wrap64 (s0_1 + 1)) ≤ (s0_0.length : Int)) = true := decide_eq_true c4
        clear c4
        simp only [Option.some.injEq, Prod.mk.injEq] at H
        obtain ⟨rfl, rfl, rfl⟩ := H
        obtain ⟨ASz5_0, cSz5_0, HGz5, hgz5, HSz5_0⟩ := HI0.out
        have hcz5_0 := cellS75_0 HGz5
        have hcz5_1 := cellS75_1 HGz5
        have hcz5_2 := cellS75_2 HGz5
        have hfz5_1 := blk_frozen HGz5 1
        have hfz5_2 := blk_frozen HGz5 2
        clear HGz5 hgz5
        have p273 : 0 ≤ (s0_1 : Int) := of_decide_eq_true (by first | (with_reducible assumption) | assumption)
        have q273 : s0_1 < (s0_0.length : Int) := of_decide_eq_true (by first | (with_reducible assumption) | assumption)
        obtain ⟨ad273, e273, hx273_0⟩ := Kd.at_int HSz5_0 s0_1 p273 q273
        cases e273
        replace hx273_0 := pw_cell_below HB.out hx273_0
        replace p273 := eq_true p273
        replace q273 := eq_true q273
        go_enter Tryd.func56, Tryd.ntmps56
        go_wp2
        repeat (go_quiet (fail); (try simp only [i64_w, i32_w]); try go_wp2)
        go_ret
        exact ⟨by first | rfl | (simp [errW_none, errW_some] <;> rfl) | (simp [*, errW_none, errW_some] <;> rfl), by repeat (first | (with_reducible first | exact HI0.out | apply IsS75.alloc | apply IsS75.drewN | apply IsS75.drew | apply IsS75.set_1 | apply IsS75.set_2) | exact HI0.out), by repeat (first | (with_reducible first | exact HB.out | apply below_alloc | apply pw_below_drewN | apply below_drew1 | refine below_set ?_ (IsS75.ge HI0.out)) | exact HB.out), by repeat (first | (with_reducible first | exact HK.out | apply KeepBut.set_ | apply keep_drewN | apply keep_drew | apply keep_alloc) | exact HK.out)⟩
      · rw [if_neg c4] at H
        have c4b0 : decide ((wrap64 (s0_1 + 1)) ≤ (s0_0.length : Int)) = false := decide_eq_false c4
        clear c4
        simp only [Option.some.injEq, Prod.mk.injEq] at H
        obtain ⟨rfl, rfl, rfl⟩ := H
        obtain ⟨ASz6_0, cSz6_0, HGz6, hgz6, HSz6_0⟩ := HI0.out
        have hcz6_0 := cellS75_0 HGz6
        have hcz6_1 := cellS75_1 HGz6
        have hcz6_2 := cellS75_2 HGz6
        have hfz6_1 := blk_frozen HGz6 1
        have hfz6_2 := blk_frozen HGz6 2
        clear HGz6 hgz6
        have p273 : 0 ≤ (s0_1 : Int) := of_decide_eq_true (by first | (with_reducible assumption) | assumption)
        have q273 : s0_1 < (s0_0.length : Int) := of_decide_eq_true (by first | (with_reducible assumption) | assumption)
        obtain ⟨ad273, e273, hx273_0⟩ := Kd.at_int HSz6_0 s0_1 p273 q273
        cases e273
        replace hx273_0 := pw_cell_below HB.out hx273_0
        replace p273 := eq_true p273
        replace q273 := eq_true q273
        go_enter Tryd.func56, Tryd.ntmps56
        go_wp2
        repeat (go_quiet (fail); (try simp only [i64_w, i32_w]); try go_wp2)
        go_ret
        exact ⟨by first | rfl | (simp [errW_none, errW_some] <;> rfl) | (simp [*, errW_none, errW_some] <;> rfl), by repeat (first | (with_reducible first | exact HI0.out | apply IsS75.alloc | apply IsS75.drewN | apply IsS75.drew | apply IsS75.set_1 | apply IsS75.set_2) | exact HI0.out), by repeat (first | (with_reducible first | exact HB.out | apply below_alloc | apply pw_below_drewN | apply below_drew1 | refine below_set ?_ (IsS75.ge HI0.out)) | exact HB.out), by repeat (first | (with_reducible first | exact HK.out | apply KeepBut.set_ | apply keep_drewN | apply keep_drew | apply keep_alloc) | exact HK.out)⟩
    · rw [if_neg c3] at H
      exact absurd H (by simp)
  · rw [if_neg c2] at H
    have c2b0 : decide (s0_1 < (s0_0.length : Int)) = false := decide_eq_false c2
    clear c2
    by_cases c7 : (wrap64 (s0_1 + 1)) ≤ (s0_0.length : Int)
    · rw [if_pos c7] at H
      have c7b0 : decide ((wrap64 (s0_1 + 1)) ≤ (s0_0.length : Int)) = true := decide_eq_true c7
      clear c7
      simp only [Option.some.injEq, Prod.mk.injEq] at H
      obtain ⟨rfl, rfl, rfl⟩ := H
      obtain ⟨ASz8_0, cSz8_0, HGz8, hgz8, HSz8_0⟩ := HI0.out
      have hcz8_0 := cellS75_0 HGz8
      have hcz8_1 := cellS75_1 HGz8
      have hcz8_2 := cellS75_2 HGz8
      have hfz8_1 := blk_frozen HGz8 1
      have hfz8_2 := blk_frozen HGz8 2
      clear HGz8 hgz8
      go_enter Tryd.func56, Tryd.ntmps56
      go_wp2
      repeat (go_quiet (fail); (try simp only [i64_w, i32_w]); try go_wp2)
      go_ret
      exact ⟨by first | rfl | (simp [errW_none, errW_some] <;> rfl) | (simp [*, errW_none, errW_some] <;> rfl), by repeat (first | (with_reducible first | exact HI0.out | apply IsS75.alloc | apply IsS75.drewN | apply IsS75.drew | apply IsS75.set_1 | apply IsS75.set_2) | exact HI0.out), by repeat (first | (with_reducible first | exact HB.out | apply below_alloc | apply pw_below_drewN | apply below_drew1 | refine below_set ?_ (IsS75.ge HI0.out)) | exact HB.out), by repeat (first | (with_reducible first | exact HK.out | apply KeepBut.set_ | apply keep_drewN | apply keep_drew | apply keep_alloc) | exact HK.out)⟩
    · rw [if_neg c7] at H
      have c7b0 : decide ((wrap64 (s0_1 + 1)) ≤ (s0_0.length : Int)) = false := decide_eq_false c7
      clear c7
      simp only [Option.some.injEq, Prod.mk.injEq] at H
      obtain ⟨rfl, rfl, rfl⟩ := H
      obtain ⟨ASz9_0, cSz9_0, HGz9, hgz9, HSz9_0⟩ := HI0.out
      have hcz9_0 := cellS75_0 HGz9
      have hcz9_1 := cellS75_1 HGz9
      have hcz9_2 := cellS75_2 HGz9
      have hfz9_1 := blk_frozen HGz9 1
      have hfz9_2 := blk_frozen HGz9 2
      clear HGz9 hgz9
      go_enter Tryd.func56, Tryd.ntmps56
      go_wp2
      repeat (go_quiet (fail); (try simp only [i64_w, i32_w]); try go_wp2)
      go_ret
      exact ⟨by first | rfl | (simp [errW_none, errW_some] <;> rfl) | (simp [*, errW_none, errW_some] <;> rfl), by repeat (first | (with_reducible first | exact HI0.out | apply IsS75.alloc | apply IsS75.drewN | apply IsS75.drew | apply IsS75.set_1 | apply IsS75.set_2) | exact HI0.out), by repeat (first | (with_reducible first | exact HB.out | apply below_alloc | apply pw_below_drewN | apply below_drew1 | refine below_set ?_ (IsS75.ge HI0.out)) | exact HB.out), by repeat (first | (with_reducible first | exact HK.out | apply KeepBut.set_ | apply keep_drewN | apply keep_drew | apply keep_alloc) | exact HK.out)⟩

end Go.Proofs.YtjpjlobpglmoiaaDoor.A
-- Printed by this session's oprint.py through the kit's printer.
namespace Go.Proofs.YtjpjlobpglmoiaaDoor.A
open Go.RowKit Go.Proofs.YtjpjlobpglmoiaaDoorW.PrintWords Go.Proofs.YtjpjlobpglmoiaaDoorW.PrintLast Go.Proofs.YtjpjlobpglmoiaaDoorW.PrintMore
attribute [local go_sem] max2_int min2_int max_two min_two max_three min_three max_four min_four   -- for this text's walks alone
set_option linter.unusedVariables false
set_option linter.unusedSimpArgs false

/-! ### spec_l00Src_pick: function 41 -/
def spec_l00Src_pick.f (s0_0 : List Int) (s0_1 : Int) (s0_2 : Int) (a1 : Int) : Option (Int × Int × Int) := if a1 ≤ 1 then (some (0, s0_1, s0_2)) else ((spec_l00Src_next.f s0_0 s0_1 s0_2).bind fun bt274 => (if a1 > 200 then ((spec_l00Src_next.f s0_0 bt274.2.1 bt274.2.2).bind fun bt277 => (if a1 = 0 then (none) else (some (Int.tmod (wrap64 ((wrap64 (bt274.1 * 256)) + bt277.1)) a1, bt277.2.1, bt277.2.2)))) else (if a1 = 0 then (none) else (some (Int.tmod bt274.1 a1, bt274.2.1, bt274.2.2)))))
set_option maxHeartbeats 8000000 in
set_option maxRecDepth 100000 in
theorem spec_l00Src_pick.calls (g : Nat) (s0_0 : List Int) (s0_1 : Int) (s0_2 : Int) (a1 : Int) (r1 : Int) (r2 : Int) (r3 : Int) (w0 w : World) (hI : IsS75 w0 w g s0_0 s0_1 s0_2) (hB : Below w0.heap.size w0 w) (h : spec_l00Src_pick.f s0_0 s0_1 s0_2 a1 = some (r1, r2, r3)) :
    Calls Tryd.prog 41 #[.pointer (some ⟨g, 0, none⟩), .int .i64 a1] w fun e w' => e = .returned (.int .i64 r1) ∧ IsS75 w0 w' g s0_0 r2 r3 ∧ Below w0.heap.size w0 w' ∧ KeepBut w w' g none := by
  have HI0 := Aside0.mk hI
  have HK := Aside0.mk (KeepBut.refl w g none)
  have HL := Aside0.mk hB.size
  clear hI
  have HW0 := Aside0.mk hB.size
  have HB := Aside0.mk hB
  clear hB
  have H : (if a1 ≤ 1 then (some (0, s0_1, s0_2)) else ((spec_l00Src_next.f s0_0 s0_1 s0_2).bind fun bt274 => (if a1 > 200 then ((spec_l00Src_next.f s0_0 bt274.2.1 bt274.2.2).bind fun bt277 => (if a1 = 0 then (none) else (some (Int.tmod (wrap64 ((wrap64 (bt274.1 * 256)) + bt277.1)) a1, bt277.2.1, bt277.2.2)))) else (if a1 = 0 then (none) else (some (Int.tmod bt274.1 a1, bt274.2.1, bt274.2.2)))))) = some (r1, r2, r3) := h
  clear h
  by_cases c3 : a1 ≤ 1
  · rw [if_pos c3] at H
    have c3b0 : decide (a1 ≤ 1) = true := decide_eq_true c3
    clear c3
    simp only [Option.some.injEq, Prod.mk.injEq] at H
    obtain ⟨rfl, rfl, rfl⟩ := H
    go_enter Tryd.func41, Tryd.ntmps41
    go_wp2
    go_ret
    exact ⟨by first | rfl | (simp [errW_none, errW_some] <;> rfl) | (simp [*, errW_none, errW_some] <;> rfl), by repeat (first | (with_reducible first | exact HI0.out | apply IsS75.alloc | apply IsS75.drewN | apply IsS75.drew | apply IsS75.set_1 | apply IsS75.set_2) | exact HI0.out), by repeat (first | (with_reducible first | exact HB.out | apply below_alloc | apply pw_below_drewN | apply below_drew1 | refine below_set ?_ (IsS75.ge HI0.out)) | exact HB.out), by repeat (first | (with_reducible first | exact HK.out | apply KeepBut.set_ | apply keep_drewN | apply keep_drew | apply keep_alloc) | exact HK.out)⟩
  · rw [if_neg c3] at H
    have c3b0 : decide (a1 ≤ 1) = false := decide_eq_false c3
    clear c3
    replace H := Option.bind_eq_some_iff.mp H
    obtain ⟨⟨t274, t275, t276⟩, A40, H⟩ := H
    replace H : (if a1 > 200 then ((spec_l00Src_next.f s0_0 t275 t276).bind fun bt277 => (if a1 = 0 then (none) else (some (Int.tmod (wrap64 ((wrap64 (t274 * 256)) + bt277.1)) a1, bt277.2.1, bt277.2.2)))) else (if a1 = 0 then (none) else (some (Int.tmod t274 a1, t275, t276)))) = some (r1, r2, r3) := H
    have A4 := Aside0.mk A40
    clear A40
    by_cases c5 : a1 > 200
    · rw [if_pos c5] at H
      have c5b0 : decide (200 < a1) = true := decide_eq_true c5
      clear c5
      replace H := Option.bind_eq_some_iff.mp H
      obtain ⟨⟨t277, t278, t279⟩, A60, H⟩ := H
      replace H : (if a1 = 0 then (none) else (some (Int.tmod (wrap64 ((wrap64 (t274 * 256)) + t277)) a1, t278, t279))) = some (r1, r2, r3) := H
      have A6 := Aside0.mk A60
      clear A60
      by_cases c7 : a1 = 0
      · rw [if_pos c7] at H
        exact absurd H (by simp)
      · rw [if_neg c7] at H
        have c7b0 : (a1 == 0) = false := beq_eq_false_iff_ne.mpr c7
        have c7b1 : (a1 != 0) = true := bne_iff_ne.mpr c7
        simp only [Option.some.injEq, Prod.mk.injEq] at H
        obtain ⟨rfl, rfl, rfl⟩ := H
        go_enter Tryd.func41, Tryd.ntmps41
        go_wp2_with (first | ((with_reducible refine gate_callee (f := 56) rfl ?_); refine goesL_ (some 9) rfl rfl Tryd.func56 (by kernel_rfl) rfl #[.pointer (some ⟨g, 0, none⟩)] rfl (by (try simp only [List.map_toArray, List.map_cons, List.map_nil]); first | done | rfl | (simp only [List.length_drop, List.length_take]; rfl)) ?_; (with_reducible refine (spec_l00Src_next.calls g s0_0 s0_1 s0_2 t274 t275 t276 w0 _ ?side1 ?side2 A4.out).mono ?_); (case side1 => repeat (first | (with_reducible first | exact HI0.out | apply IsS75.alloc | apply IsS75.drewN | apply IsS75.drew | apply IsS75.set_1 | apply IsS75.set_2) | exact HI0.out)); (case side2 => repeat (first | (with_reducible first | exact HB.out | apply below_alloc | apply pw_below_drewN | apply below_drew1 | refine below_set ?_ (IsS75.ge HI0.out)) | exact HB.out)); rintro e w8 ⟨rfl, hi, hb, hk⟩; refine ⟨_, rfl, ?_⟩; have n0_ := Aside0.mk (KeepBut.trans (by repeat (first | (with_reducible first | exact HK.out | apply KeepBut.set_ | apply keep_drewN | apply keep_drew | apply keep_alloc) | exact HK.out)) hk (.inl rfl)); have n1_ := Aside0.mk (hb); have n2_ := Aside0.mk (hi); clear HK; clear HB; clear HI0; have HK := n0_; have HB := n1_; have HI0 := n2_; clear n0_ n1_ n2_; (try clear hb); (try clear hb2); (try clear hk); (try clear hi)) | ((with_reducible refine gate_callee (f := 56) rfl ?_); refine goesL_ (some 15) rfl rfl Tryd.func56 (by kernel_rfl) rfl #[.pointer (some ⟨g, 0, none⟩)] rfl (by (try simp only [List.map_toArray, List.map_cons, List.map_nil]); first | done | rfl | (simp only [List.length_drop, List.length_take]; rfl)) ?_; (with_reducible refine (spec_l00Src_next.calls g s0_0 t275 t276 t277 t278 t279 w0 _ ?side1 ?side2 A6.out).mono ?_); (case side1 => repeat (first | (with_reducible first | exact HI0.out | apply IsS75.alloc | apply IsS75.drewN | apply IsS75.drew | apply IsS75.set_1 | apply IsS75.set_2) | exact HI0.out)); (case side2 => repeat (first | (with_reducible first | exact HB.out | apply below_alloc | apply pw_below_drewN | apply below_drew1 | refine below_set ?_ (IsS75.ge HI0.out)) | exact HB.out)); rintro e w9 ⟨rfl, hi, hb, hk⟩; refine ⟨_, rfl, ?_⟩; have n0_ := Aside0.mk (KeepBut.trans (by repeat (first | (with_reducible first | exact HK.out | apply KeepBut.set_ | apply keep_drewN | apply keep_drew | apply keep_alloc) | exact HK.out)) hk (.inl rfl)); have n1_ := Aside0.mk (hb); have n2_ := Aside0.mk (hi); clear HK; clear HB; clear HI0; have HK := n0_; have HB := n1_; have HI0 := n2_; clear n0_ n1_ n2_; (try clear hb); (try clear hb2); (try clear hk); (try clear hi)))
        go_ret
        exact ⟨by first | rfl | (simp [errW_none, errW_some] <;> rfl) | (simp [*, errW_none, errW_some] <;> rfl), by repeat (first | (with_reducible first | exact HI0.out | apply IsS75.alloc | apply IsS75.drewN | apply IsS75.drew | apply IsS75.set_1 | apply IsS75.set_2) | exact HI0.out), by repeat (first | (with_reducible first | exact HB.out | apply below_alloc | apply pw_below_drewN | apply below_drew1 | refine below_set ?_ (IsS75.ge HI0.out)) | exact HB.out), by repeat (first | (with_reducible first | exact HK.out | apply KeepBut.set_ | apply keep_drewN | apply keep_drew | apply keep_alloc) | exact HK.out)⟩
    · rw [if_neg c5] at H
      have c5b0 : decide (200 < a1) = false := decide_eq_false c5
      clear c5
      by_cases c10 : a1 = 0
      · rw [if_pos c10] at H
        exact absurd H (by simp)
      · rw [if_neg c10] at H
        have c10b0 : (a1 == 0) = false := beq_eq_false_iff_ne.mpr c10
        have c10b1 : (a1 != 0) = true := bne_iff_ne.mpr c10
        simp only [Option.some.injEq, Prod.mk.injEq] at H
        obtain ⟨rfl, rfl, rfl⟩ := H
        go_enter Tryd.func41, Tryd.ntmps41
        go_wp2_with (first | ((with_reducible refine gate_callee (f := 56) rfl ?_); refine goesL_ (some 9) rfl rfl Tryd.func56 (by kernel_rfl) rfl #[.pointer (some ⟨g, 0, none⟩)] rfl (by (try simp only [List.map_toArray, List.map_cons, List.map_nil]); first | done | rfl | (simp only [List.length_drop, List.length_take]; rfl)) ?_; (with_reducible refine (spec_l00Src_next.calls g s0_0 s0_1 s0_2 t274 t275 t276 w0 _ ?side1 ?side2 A4.out).mono ?_); (case side1 => repeat (first | (with_reducible first | exact HI0.out | apply IsS75.alloc | apply IsS75.drewN | apply IsS75.drew | apply IsS75.set_1 | apply IsS75.set_2) | exact HI0.out)); (case side2 => repeat (first | (with_reducible first | exact HB.out | apply below_alloc | apply pw_below_drewN | apply below_drew1 | refine below_set ?_ (IsS75.ge HI0.out)) | exact HB.out)); rintro e w11 ⟨rfl, hi, hb, hk⟩; refine ⟨_, rfl, ?_⟩; have n0_ := Aside0.mk (KeepBut.trans (by repeat (first | (with_reducible first | exact HK.out | apply KeepBut.set_ | apply keep_drewN | apply keep_drew | apply keep_alloc) | exact HK.out)) hk (.inl rfl)); have n1_ := Aside0.mk (hb); have n2_ := Aside0.mk (hi); clear HK; clear HB; clear HI0; have HK := n0_; have HB := n1_; have HI0 := n2_; clear n0_ n1_ n2_; (try clear hb); (try clear hb2); (try clear hk); (try clear hi)))
        go_ret
        exact ⟨by first | rfl | (simp [errW_none, errW_some] <;> rfl) | (simp [*, errW_none, errW_some] <;> rfl), by repeat (first | (with_reducible first | exact HI0.out | apply IsS75.alloc | apply IsS75.drewN | apply IsS75.drew | apply IsS75.set_1 | apply IsS75.set_2) | exact HI0.out), by repeat (first | (with_reducible first | exact HB.out | apply below_alloc | apply pw_below_drewN | apply below_drew1 | refine below_set ?_ (IsS75.ge HI0.out)) | exact HB.out), by repeat (first | (with_reducible first | exact HK.out | apply KeepBut.set_ | apply keep_drewN | apply keep_drew | apply keep_alloc) | exact HK.out)⟩

end Go.Proofs.YtjpjlobpglmoiaaDoor.A
-- Printed by this session's oprint.py through the kit's printer.
namespace Go.Proofs.YtjpjlobpglmoiaaDoor.A
open Go.RowKit Go.Proofs.YtjpjlobpglmoiaaDoorW.PrintWords Go.Proofs.YtjpjlobpglmoiaaDoorW.PrintLast Go.Proofs.YtjpjlobpglmoiaaDoorW.PrintMore
attribute [local go_sem] max2_int min2_int max_two min_two max_three min_three max_four min_four   -- for this text's walks alone
set_option linter.unusedVariables false
set_option linter.unusedSimpArgs false

/-! ### spec_l00Src_text: function 58 -/
def spec_l00Src_text.f (s0_0 : List Int) (s0_1 : Int) (s0_2 : Int) (l1 : List ByteArray) : Option (ByteArray × Int × Int) := (spec_l00Src_pick.f s0_0 s0_1 s0_2 (l1.length : Int)).bind fun bt283 => (if 0 ≤ bt283.1 then (if bt283.1 < (l1.length : Int) then (some (rdOf ByteArray.empty l1 bt283.1, bt283.2.1, bt283.2.2)) else (none)) else (none))
set_option maxHeartbeats 8000000 in
set_option maxRecDepth 100000 in
theorem spec_l00Src_text.calls (g : Nat) (s0_0 : List Int) (s0_1 : Int) (s0_2 : Int) (A1 : Option Addr) (c1 : Nat) (l1 : List ByteArray) (r1 : ByteArray) (r2 : Int) (r3 : Int) (w0 w : World) (hI : IsS75 w0 w g s0_0 s0_1 s0_2) (hB : Below w0.heap.size w0 w) (hr1 : Kd.C Kd.string w A1 l1.length l1) (hc1 : l1.length ≤ c1) (hf1 : ∀ ad, A1 = some ad → 0 < l1.length → ad.block ≠ g) (h : spec_l00Src_text.f s0_0 s0_1 s0_2 l1 = some (r1, r2, r3)) :
    Calls Tryd.prog 58 #[.pointer (some ⟨g, 0, none⟩), .slice A1 l1.length c1] w fun e w' => e = .returned (.string r1) ∧ IsS75 w0 w' g s0_0 r2 r3 ∧ Below w0.heap.size w0 w' ∧ KeepBut w w' g none := by
  have HR1 := Aside0.mk hr1
  have HC1 := Aside0.mk hc1
  clear hr1 hc1
  have HI0 := Aside0.mk hI
  have HK := Aside0.mk (KeepBut.refl w g none)
  have HL := Aside0.mk hB.size
  clear hI
  have HW0 := Aside0.mk hB.size
  have HB := Aside0.mk hB
  clear hB
  have H : ((spec_l00Src_pick.f s0_0 s0_1 s0_2 (l1.length : Int)).bind fun bt283 => (if 0 ≤ bt283.1 then (if bt283.1 < (l1.length : Int) then (some (rdOf ByteArray.empty l1 bt283.1, bt283.2.1, bt283.2.2)) else (none)) else (none))) = some (r1, r2, r3) := h
  clear h
  replace H := Option.bind_eq_some_iff.mp H
  obtain ⟨⟨t283, t284, t285⟩, A30, H⟩ := H
  replace H : (if 0 ≤ t283 then (if t283 < (l1.length : Int) then (some (rdOf ByteArray.empty l1 t283, t284, t285)) else (none)) else (none)) = some (r1, r2, r3) := H
  have A3 := Aside0.mk A30
  clear A30
  by_cases c4 : 0 ≤ t283
  · rw [if_pos c4] at H
    have c4b0 : decide (0 ≤ t283) = true := decide_eq_true c4
    clear c4
    by_cases c5 : t283 < (l1.length : Int)
    · rw [if_pos c5] at H
      have c5b0 : decide (t283 < (l1.length : Int)) = true := decide_eq_true c5
      clear c5
      simp only [Option.some.injEq, Prod.mk.injEq] at H
      obtain ⟨rfl, rfl, rfl⟩ := H
      go_enter Tryd.func58, Tryd.ntmps58
      go_wp2_with (first | ((with_reducible refine gate_callee (f := 41) rfl ?_); refine goesL_ (some 9) rfl rfl Tryd.func41 (by kernel_rfl) rfl #[.pointer (some ⟨g, 0, none⟩), .int .i64 (l1.length : Int)] rfl (by (try simp only [List.map_toArray, List.map_cons, List.map_nil]); first | done | rfl | (simp only [List.length_drop, List.length_take]; rfl)) ?_; (with_reducible refine (spec_l00Src_pick.calls g s0_0 s0_1 s0_2 (l1.length : Int) t283 t284 t285 w0 _ ?side1 ?side2 A3.out).mono ?_); (case side1 => repeat (first | (with_reducible first | exact HI0.out | apply IsS75.alloc | apply IsS75.drewN | apply IsS75.drew | apply IsS75.set_1 | apply IsS75.set_2) | exact HI0.out)); (case side2 => repeat (first | (with_reducible first | exact HB.out | apply below_alloc | apply pw_below_drewN | apply below_drew1 | refine below_set ?_ (IsS75.ge HI0.out)) | exact HB.out)); rintro e w6 ⟨rfl, hi, hb, hk⟩; refine ⟨_, rfl, ?_⟩; have n0_ := Aside0.mk (KeepBut.trans (by repeat (first | (with_reducible first | exact HK.out | apply KeepBut.set_ | apply keep_drewN | apply keep_drew | apply keep_alloc) | exact HK.out)) hk (.inl rfl)); have n1_ := Aside0.mk (hb); have n2_ := Aside0.mk (hi); clear HK; clear HB; clear HI0; have HK := n0_; have HB := n1_; have HI0 := n2_; clear n0_ n1_ n2_; (try clear hb); (try clear hb2); (try clear hk); (try clear hi); have p286 : 0 ≤ (t283 : Int) := of_decide_eq_true (by first | (with_reducible assumption) | assumption); have q286 : t283 < (l1.length : Int) := of_decide_eq_true (by first | (with_reducible assumption) | assumption); obtain ⟨ad286, e286, hx286_0⟩ := Kd.at_string HR1.out t283 p286 q286; cases e286; replace hx286_0 := keep_cell HK.out hx286_0 (by first | (rw [add_block]; exact hf1 _ rfl (by omega)) | exact hf1 _ rfl (by omega) | exact hf1 ad286 rfl (by omega)); replace p286 := eq_true p286; replace q286 := eq_true q286))
      go_ret
      exact ⟨by first | rfl | (simp [errW_none, errW_some] <;> rfl) | (simp [*, errW_none, errW_some] <;> rfl), by repeat (first | (with_reducible first | exact HI0.out | apply IsS75.alloc | apply IsS75.drewN | apply IsS75.drew | apply IsS75.set_1 | apply IsS75.set_2) | exact HI0.out), by repeat (first | (with_reducible first | exact HB.out | apply below_alloc | apply pw_below_drewN | apply below_drew1 | refine below_set ?_ (IsS75.ge HI0.out)) | exact HB.out), by repeat (first | (with_reducible first | exact HK.out | apply KeepBut.set_ | apply keep_drewN | apply keep_drew | apply keep_alloc) | exact HK.out)⟩
    · rw [if_neg c5] at H
      exact absurd H (by simp)
  · rw [if_neg c4] at H
    exact absurd H (by simp)

end Go.Proofs.YtjpjlobpglmoiaaDoor.A
-- Printed by this session's oprint.py through the kit's printer.
namespace Go.Proofs.YtjpjlobpglmoiaaDoor.A
open Go.RowKit Go.Proofs.YtjpjlobpglmoiaaDoorW.PrintWords Go.Proofs.YtjpjlobpglmoiaaDoorW.PrintLast Go.Proofs.YtjpjlobpglmoiaaDoorW.PrintMore
attribute [local go_sem] max2_int min2_int max_two min_two max_three min_three max_four min_four   -- for this text's walks alone
set_option linter.unusedVariables false
set_option linter.unusedSimpArgs false

/-! ### spec_l11Show: function 59 -/
def spec_l11Show.f (a0 : ByteArray) : Option (ByteArray) := if a0.toList = ([] : List UInt8) then (some (⟨#[110, 111, 110, 101]⟩ : ByteArray)) else (some a0)
set_option maxHeartbeats 8000000 in
set_option maxRecDepth 100000 in
theorem spec_l11Show.calls (a0 : ByteArray) (r : ByteArray) (w : World) (h : spec_l11Show.f a0 = some r) :
    Calls Tryd.prog 59 #[.string a0] w fun e w' => e = .returned (.string r) ∧ Drawn0 w w' := by
  have H : (if a0.toList = ([] : List UInt8) then (some (⟨#[110, 111, 110, 101]⟩ : ByteArray)) else (some a0)) = some r := h
  clear h
  by_cases c2 : a0.toList = ([] : List UInt8)
  · rw [if_pos c2] at H
    have c2b0 : (a0.toList == ([] : List UInt8)) = true := beq_iff_eq.mpr c2
    have c2b1 : (a0.toList != ([] : List UInt8)) = false := bne_eq_false_iff_eq.mpr c2
    clear c2
    obtain rfl := Option.some.inj H
    go_enter Tryd.func59, Tryd.ntmps59
    go_wp2
    go_ret
    exact ⟨by first | rfl | (simp; done) | (simp [*]; done), by repeat (first | exact Drawn0.refl _ | apply Drawn0.step)⟩
  · rw [if_neg c2] at H
    have c2b0 : (a0.toList == ([] : List UInt8)) = false := beq_eq_false_iff_ne.mpr c2
    have c2b1 : (a0.toList != ([] : List UInt8)) = true := bne_iff_ne.mpr c2
    obtain rfl := Option.some.inj H
    go_enter Tryd.func59, Tryd.ntmps59
    go_wp2
    go_ret
    exact ⟨by first | rfl | (simp; done) | (simp [*]; done), by repeat (first | exact Drawn0.refl _ | apply Drawn0.step)⟩

end Go.Proofs.YtjpjlobpglmoiaaDoor.A
-- Printed by this session's oprint.py through the kit's printer.
namespace Go.Proofs.YtjpjlobpglmoiaaDoor.A
open Go.RowKit Go.Proofs.YtjpjlobpglmoiaaDoorW.PrintWords Go.Proofs.YtjpjlobpglmoiaaDoorW.PrintLast Go.Proofs.YtjpjlobpglmoiaaDoorW.PrintMore
attribute [local go_sem] max2_int min2_int max_two min_two max_three min_three max_four min_four   -- for this text's walks alone
set_option linter.unusedVariables false
set_option linter.unusedSimpArgs false

/-! ### spec_l00Src_one: function 61 -/
def spec_l00Src_one.f (s0_0 : List Int) (s0_1 : Int) (s0_2 : Int) (a1 : Int) : Option (Bool × Int × Int) := (spec_l00Src_pick.f s0_0 s0_1 s0_2 a1).bind fun bt280 => (some ((bt280.1 == 0), bt280.2.1, bt280.2.2))
set_option maxHeartbeats 8000000 in
set_option maxRecDepth 100000 in
theorem spec_l00Src_one.calls (g : Nat) (s0_0 : List Int) (s0_1 : Int) (s0_2 : Int) (a1 : Int) (r1 : Bool) (r2 : Int) (r3 : Int) (w0 w : World) (hI : IsS75 w0 w g s0_0 s0_1 s0_2) (hB : Below w0.heap.size w0 w) (h : spec_l00Src_one.f s0_0 s0_1 s0_2 a1 = some (r1, r2, r3)) :
    Calls Tryd.prog 61 #[.pointer (some ⟨g, 0, none⟩), .int .i64 a1] w fun e w' => e = .returned (.bool r1) ∧ IsS75 w0 w' g s0_0 r2 r3 ∧ Below w0.heap.size w0 w' ∧ KeepBut w w' g none := by
  have HI0 := Aside0.mk hI
  have HK := Aside0.mk (KeepBut.refl w g none)
  have HL := Aside0.mk hB.size
  clear hI
  have HW0 := Aside0.mk hB.size
  have HB := Aside0.mk hB
  clear hB
  have H : ((spec_l00Src_pick.f s0_0 s0_1 s0_2 a1).bind fun bt280 => (some ((bt280.1 == 0), bt280.2.1, bt280.2.2))) = some (r1, r2, r3) := h
  clear h
  replace H := Option.bind_eq_some_iff.mp H
  obtain ⟨⟨t280, t281, t282⟩, A30, H⟩ := H
  replace H : (some ((t280 == 0), t281, t282)) = some (r1, r2, r3) := H
  have A3 := Aside0.mk A30
  clear A30
  simp only [Option.some.injEq, Prod.mk.injEq] at H
  obtain ⟨rfl, rfl, rfl⟩ := H
  go_enter Tryd.func61, Tryd.ntmps61
  go_wp2_with (first | ((with_reducible refine gate_callee (f := 41) rfl ?_); refine goesL_ (some 7) rfl rfl Tryd.func41 (by kernel_rfl) rfl #[.pointer (some ⟨g, 0, none⟩), .int .i64 a1] rfl (by (try simp only [List.map_toArray, List.map_cons, List.map_nil]); first | done | rfl | (simp only [List.length_drop, List.length_take]; rfl)) ?_; (with_reducible refine (spec_l00Src_pick.calls g s0_0 s0_1 s0_2 a1 t280 t281 t282 w0 _ ?side1 ?side2 A3.out).mono ?_); (case side1 => repeat (first | (with_reducible first | exact HI0.out | apply IsS75.alloc | apply IsS75.drewN | apply IsS75.drew | apply IsS75.set_1 | apply IsS75.set_2) | exact HI0.out)); (case side2 => repeat (first | (with_reducible first | exact HB.out | apply below_alloc | apply pw_below_drewN | apply below_drew1 | refine below_set ?_ (IsS75.ge HI0.out)) | exact HB.out)); rintro e w4 ⟨rfl, hi, hb, hk⟩; refine ⟨_, rfl, ?_⟩; have n0_ := Aside0.mk (KeepBut.trans (by repeat (first | (with_reducible first | exact HK.out | apply KeepBut.set_ | apply keep_drewN | apply keep_drew | apply keep_alloc) | exact HK.out)) hk (.inl rfl)); have n1_ := Aside0.mk (hb); have n2_ := Aside0.mk (hi); clear HK; clear HB; clear HI0; have HK := n0_; have HB := n1_; have HI0 := n2_; clear n0_ n1_ n2_; (try clear hb); (try clear hb2); (try clear hk); (try clear hi)))
  go_ret
  exact ⟨by first | rfl | (simp [errW_none, errW_some] <;> rfl) | (simp [*, errW_none, errW_some] <;> rfl), by repeat (first | (with_reducible first | exact HI0.out | apply IsS75.alloc | apply IsS75.drewN | apply IsS75.drew | apply IsS75.set_1 | apply IsS75.set_2) | exact HI0.out), by repeat (first | (with_reducible first | exact HB.out | apply below_alloc | apply pw_below_drewN | apply below_drew1 | refine below_set ?_ (IsS75.ge HI0.out)) | exact HB.out), by repeat (first | (with_reducible first | exact HK.out | apply KeepBut.set_ | apply keep_drewN | apply keep_drew | apply keep_alloc) | exact HK.out)⟩

end Go.Proofs.YtjpjlobpglmoiaaDoor.A
-- Printed by this session's oprint.py through the kit's printer.
namespace Go.Proofs.YtjpjlobpglmoiaaDoor.A
open Go.RowKit Go.Proofs.YtjpjlobpglmoiaaDoorW.PrintWords Go.Proofs.YtjpjlobpglmoiaaDoorW.PrintLast Go.Proofs.YtjpjlobpglmoiaaDoorW.PrintMore
attribute [local go_sem] max2_int min2_int max_two min_two max_three min_three max_four min_four   -- for this text's walks alone
set_option linter.unusedVariables false
set_option linter.unusedSimpArgs false

/-! ### spec_l01DrawGood: function 60 -/
def spec_l01DrawGood.l0 : Nat → List Int → Int → Int → Int → List Int → Int → Int → Option (ByteArray × Int × Int)
  | 0, _, _, _, _, _, _, _ => none
  | k + 1, x5, x6, x7, x8, x1000, x1001, x1002 => if x8 > 0 then ((spec_l00Src_one.f x1000 x1001 x1002 x7).bind fun bt299 => (if bt299.1 = true then ((spec_l00Src_pick.f x1000 bt299.2.1 bt299.2.2 2).bind fun bt302 => (if x5.length < 140737488355328 then (spec_l01DrawGood.l0 k (x5 ++ [(wrap64 (48 + bt302.1)) % 256]) ((wrap64 (48 + bt302.1)) % 256) x7 (wrap64 (x8 - 1)) x1000 bt302.2.1 bt302.2.2) else (none))) else (if x5.length < 140737488355328 then (spec_l01DrawGood.l0 k (x5 ++ [x6]) x6 x7 (wrap64 (x8 - 1)) x1000 bt299.2.1 bt299.2.2) else (none)))) else (some (strOfNums x5, x1001, x1002))
def spec_l01DrawGood.f (k : Nat) (s0_0 : List Int) (s0_1 : Int) (s0_2 : Int) (a1 : Int) : Option (ByteArray × Int × Int) := (spec_l00Src_pick.f s0_0 s0_1 s0_2 2).bind fun bt290 => ((spec_l00Src_pick.f s0_0 bt290.2.1 bt290.2.2 5).bind fun bt293 => ((spec_l00Src_pick.f s0_0 bt293.2.1 bt293.2.2 (wrap64 (a1 + 1))).bind fun bt296 => (spec_l01DrawGood.l0 k (([] : List Int)) ((wrap64 (48 + bt290.1)) % 256) (wrap64 (1 + bt293.1)) bt296.1 s0_0 bt296.2.1 bt296.2.2)))
theorem spec_l01DrawGood.mono_l : ∀ k, (∀ y0 y1 y2 y3 y4 y5 y6, LeO (spec_l01DrawGood.l0 k y0 y1 y2 y3 y4 y5 y6) (spec_l01DrawGood.l0 (k + 1) y0 y1 y2 y3 y4 y5 y6))
  | 0 => fun _ _ _ _ _ _ _ r h => by simp [spec_l01DrawGood.l0] at h
  | k + 1 => by
    have ih0 := spec_l01DrawGood.mono_l k
    · intro y0 y1 y2 y3 y4 y5 y6
      unfold spec_l01DrawGood.l0
      repeat' first
      | (with_reducible exact ih0 _ _ _ _ _ _ _)
      | (with_reducible exact LeO.refl _)
      | (with_reducible exact LeO.none _)
      | (with_reducible refine LeO.ite ?_ ?_)
      | (with_reducible refine LeO.bind ?_ (fun _ => ?_))
      | exact ih0 _ _ _ _ _ _ _
      | exact LeO.none _
      | refine LeO.ite ?_ ?_
      | refine LeO.bind ?_ (fun _ => ?_)
theorem spec_l01DrawGood.mono : ∀ a0 a1 a2 a3 k, LeO (spec_l01DrawGood.f k a0 a1 a2 a3) (spec_l01DrawGood.f (k + 1) a0 a1 a2 a3) := by
  intro a0 a1 a2 a3 k
  have ih0 := spec_l01DrawGood.mono_l k
  unfold spec_l01DrawGood.f
  repeat' first
      | (with_reducible exact ih0 _ _ _ _ _ _ _)
      | (with_reducible exact LeO.refl _)
      | (with_reducible exact LeO.none _)
      | (with_reducible refine LeO.ite ?_ ?_)
      | (with_reducible refine LeO.bind ?_ (fun _ => ?_))
      | exact ih0 _ _ _ _ _ _ _
      | exact LeO.none _
      | refine LeO.ite ?_ ?_
      | refine LeO.bind ?_ (fun _ => ?_)
set_option maxHeartbeats 8000000 in
set_option maxRecDepth 100000 in
theorem spec_l01DrawGood.calls (k : Nat) (g : Nat) (s0_0 : List Int) (s0_1 : Int) (s0_2 : Int) (a1 : Int) (r1 : ByteArray) (r2 : Int) (r3 : Int) (w0 w : World) (hI : IsS75 w0 w g s0_0 s0_1 s0_2) (hB : Below w0.heap.size w0 w) (h : spec_l01DrawGood.f k s0_0 s0_1 s0_2 a1 = some (r1, r2, r3)) :
    Calls Tryd.prog 60 #[.pointer (some ⟨g, 0, none⟩), .int .i64 a1] w fun e w' => e = .returned (.string r1) ∧ IsS75 w0 w' g s0_0 r2 r3 ∧ Below w0.heap.size w0 w' ∧ KeepBut w w' g none := by
  have HI0 := Aside0.mk hI
  have HK := Aside0.mk (KeepBut.refl w g none)
  have HL := Aside0.mk hB.size
  clear hI
  have HW0 := Aside0.mk hB.size
  have HB := Aside0.mk hB
  clear hB
  have H : ((spec_l00Src_pick.f s0_0 s0_1 s0_2 2).bind fun bt290 => ((spec_l00Src_pick.f s0_0 bt290.2.1 bt290.2.2 5).bind fun bt293 => ((spec_l00Src_pick.f s0_0 bt293.2.1 bt293.2.2 (wrap64 (a1 + 1))).bind fun bt296 => (spec_l01DrawGood.l0 k (([] : List Int)) ((wrap64 (48 + bt290.1)) % 256) (wrap64 (1 + bt293.1)) bt296.1 s0_0 bt296.2.1 bt296.2.2)))) = some (r1, r2, r3) := h
  clear h
  obtain ⟨y287, hy287⟩ : ∃ y_ : List Int, y_ = (([] : List Int)) := ⟨_, rfl⟩
  replace H : ((spec_l00Src_pick.f s0_0 s0_1 s0_2 2).bind fun bt290 => ((spec_l00Src_pick.f s0_0 bt290.2.1 bt290.2.2 5).bind fun bt293 => ((spec_l00Src_pick.f s0_0 bt293.2.1 bt293.2.2 (wrap64 (a1 + 1))).bind fun bt296 => (spec_l01DrawGood.l0 k y287 ((wrap64 (48 + bt290.1)) % 256) (wrap64 (1 + bt293.1)) bt296.1 s0_0 bt296.2.1 bt296.2.2)))) = some (r1, r2, r3) := by first | (rw [hy287]; with_reducible exact H) | (have H2_ := (Option.bind_some _ _).symm.trans H; rw [hy287]; with_reducible exact H2_) | (have H2_ := (Option.bind_some _ _).symm.trans H; with_reducible exact H2_) | with_reducible exact H | (rw [hy287]; exact H) | exact H
  have Ny287 := Aside0.mk hy287
  clear hy287
  replace H := Option.bind_eq_some_iff.mp H
  obtain ⟨⟨t290, t291, t292⟩, A30, H⟩ := H
  replace H : ((spec_l00Src_pick.f s0_0 t291 t292 5).bind fun bt293 => ((spec_l00Src_pick.f s0_0 bt293.2.1 bt293.2.2 (wrap64 (a1 + 1))).bind fun bt296 => (spec_l01DrawGood.l0 k y287 ((wrap64 (48 + t290)) % 256) (wrap64 (1 + bt293.1)) bt296.1 s0_0 bt296.2.1 bt296.2.2))) = some (r1, r2, r3) := H
  have A3 := Aside0.mk A30
  clear A30
  replace H := Option.bind_eq_some_iff.mp H
  obtain ⟨⟨t293, t294, t295⟩, A40, H⟩ := H
  replace H : ((spec_l00Src_pick.f s0_0 t294 t295 (wrap64 (a1 + 1))).bind fun bt296 => (spec_l01DrawGood.l0 k y287 ((wrap64 (48 + t290)) % 256) (wrap64 (1 + t293)) bt296.1 s0_0 bt296.2.1 bt296.2.2)) = some (r1, r2, r3) := H
  have A4 := Aside0.mk A40
  clear A40
  replace H := Option.bind_eq_some_iff.mp H
  obtain ⟨⟨t296, t297, t298⟩, A50, H⟩ := H
  replace H : (spec_l01DrawGood.l0 k y287 ((wrap64 (48 + t290)) % 256) (wrap64 (1 + t293)) t296 s0_0 t297 t298) = some (r1, r2, r3) := H
  have A5 := Aside0.mk A50
  clear A50
  have H' := Aside0.mk H
  clear H
  go_enter Tryd.func60, Tryd.ntmps60
  go_wp2_with (first | ((with_reducible refine gate_dst (N := 9) rfl ?_); refine Kd.R_lit (Kd.int .u8) _ 5 ?hg (N := 9) ?hd (xs := ([] : List Int)) (inner := []) (ok := fun _ => True) (okp := fun _ => True) ?hr ?hp (fun _ hk => hk) trivial (Below.refl _ _) (Nat.le_refl _) (by simp) ?_; (case hd => rfl); (case hg => rfl); (case hr => first | (go_simp; done) | (go_simp; rfl)); (case hp => exact (Reps.none _ _)); intro v288 w6 ho7 hb hg_ hnew_; clear hg_ hnew_; (first | rw [← Ny287.out] at ho7 | (simp only [Int.reduceToNat] at ho7; rw [← Ny287.out] at ho7)); have n0_ := Aside0.mk (Kd.R_lower ho7 (keep_size (w := w) (g := g) (row := none) (by repeat (first | (with_reducible first | exact HK.out | apply KeepBut.set_ | apply keep_drewN | apply keep_drew | apply keep_alloc) | exact HK.out)))); have n1_ := Aside0.mk (IsS75.below (by repeat (first | (with_reducible first | exact HI0.out | apply IsS75.alloc | apply IsS75.drewN | apply IsS75.drew | apply IsS75.set_1 | apply IsS75.set_2) | exact HI0.out)) hb); have n2_ := Aside0.mk (KeepBut.trans (by repeat (first | (with_reducible first | exact HK.out | apply KeepBut.set_ | apply keep_drewN | apply keep_drew | apply keep_alloc) | exact HK.out)) (KeepBut.of_below hb g none) (.inl rfl)); have n3_ := Aside0.mk (below_step (by repeat (first | (with_reducible first | exact HB.out | apply below_alloc | apply pw_below_drewN | apply below_drew1 | refine below_set ?_ (IsS75.ge HI0.out)) | exact HB.out)) hb); clear HI0; clear HK; clear HB; have HO289 := n0_; have HI0 := n1_; have HK := n2_; have HB := n3_; clear n0_ n1_ n2_ n3_; clear hb ho7) | ((with_reducible refine gate_callee (f := 41) rfl ?_); refine goesL_ (some 11) rfl rfl Tryd.func41 (by kernel_rfl) rfl #[.pointer (some ⟨g, 0, none⟩), .int .i64 2] rfl (by (try simp only [List.map_toArray, List.map_cons, List.map_nil]); first | done | rfl | (simp only [List.length_drop, List.length_take]; rfl)) ?_; (with_reducible refine (spec_l00Src_pick.calls g s0_0 s0_1 s0_2 2 t290 t291 t292 w0 _ ?side1 ?side2 A3.out).mono ?_); (case side1 => repeat (first | (with_reducible first | exact HI0.out | apply IsS75.alloc | apply IsS75.drewN | apply IsS75.drew | apply IsS75.set_1 | apply IsS75.set_2) | exact HI0.out)); (case side2 => repeat (first | (with_reducible first | exact HB.out | apply below_alloc | apply pw_below_drewN | apply below_drew1 | refine below_set ?_ (IsS75.ge HI0.out)) | exact HB.out)); rintro e w8 ⟨rfl, hi, hb, hk⟩; refine ⟨_, rfl, ?_⟩; have n0_ := Aside0.mk (Kd.R_mono (Kd.R_keep (IsS75.apart (show IsS75 w0 _ g s0_0 s0_1 s0_2 from by repeat (first | (with_reducible first | exact HI0.out | apply IsS75.alloc | apply IsS75.drewN | apply IsS75.drew | apply IsS75.set_1 | apply IsS75.set_2) | exact HI0.out)) (by (with_reducible repeat (first | apply Kd.R_alloc | apply Kd.R_drewN | apply Kd.R_drew)); exact HO289.out) (by decide)) hk (fun _ h => h.2)) (fun _ h => h.1)); have n1_ := Aside0.mk (KeepBut.trans (by repeat (first | (with_reducible first | exact HK.out | apply KeepBut.set_ | apply keep_drewN | apply keep_drew | apply keep_alloc) | exact HK.out)) hk (.inl rfl)); have n2_ := Aside0.mk (hb); have n3_ := Aside0.mk (hi); clear HO289; clear HK; clear HB; clear HI0; have HO289 := n0_; have HK := n1_; have HB := n2_; have HI0 := n3_; clear n0_ n1_ n2_ n3_; (try clear hb); (try clear hb2); (try clear hk); (try clear hi)) | ((with_reducible refine gate_callee (f := 41) rfl ?_); refine goesL_ (some 15) rfl rfl Tryd.func41 (by kernel_rfl) rfl #[.pointer (some ⟨g, 0, none⟩), .int .i64 5] rfl (by (try simp only [List.map_toArray, List.map_cons, List.map_nil]); first | done | rfl | (simp only [List.length_drop, List.length_take]; rfl)) ?_; (with_reducible refine (spec_l00Src_pick.calls g s0_0 t291 t292 5 t293 t294 t295 w0 _ ?side1 ?side2 A4.out).mono ?_); (case side1 => repeat (first | (with_reducible first | exact HI0.out | apply IsS75.alloc | apply IsS75.drewN | apply IsS75.drew | apply IsS75.set_1 | apply IsS75.set_2) | exact HI0.out)); (case side2 => repeat (first | (with_reducible first | exact HB.out | apply below_alloc | apply pw_below_drewN | apply below_drew1 | refine below_set ?_ (IsS75.ge HI0.out)) | exact HB.out)); rintro e w9 ⟨rfl, hi, hb, hk⟩; refine ⟨_, rfl, ?_⟩; have n0_ := Aside0.mk (Kd.R_mono (Kd.R_keep (IsS75.apart (show IsS75 w0 _ g s0_0 t291 t292 from by repeat (first | (with_reducible first | exact HI0.out | apply IsS75.alloc | apply IsS75.drewN | apply IsS75.drew | apply IsS75.set_1 | apply IsS75.set_2) | exact HI0.out)) (by (with_reducible repeat (first | apply Kd.R_alloc | apply Kd.R_drewN | apply Kd.R_drew)); exact HO289.out) (by decide)) hk (fun _ h => h.2)) (fun _ h => h.1)); have n1_ := Aside0.mk (KeepBut.trans (by repeat (first | (with_reducible first | exact HK.out | apply KeepBut.set_ | apply keep_drewN | apply keep_drew | apply keep_alloc) | exact HK.out)) hk (.inl rfl)); have n2_ := Aside0.mk (hb); have n3_ := Aside0.mk (hi); clear HO289; clear HK; clear HB; clear HI0; have HO289 := n0_; have HK := n1_; have HB := n2_; have HI0 := n3_; clear n0_ n1_ n2_ n3_; (try clear hb); (try clear hb2); (try clear hk); (try clear hi)) | ((with_reducible refine gate_callee (f := 41) rfl ?_); refine goesL_ (some 20) rfl rfl Tryd.func41 (by kernel_rfl) rfl #[.pointer (some ⟨g, 0, none⟩), .int .i64 (wrap64 (a1 + 1))] rfl (by (try simp only [List.map_toArray, List.map_cons, List.map_nil]); first | done | rfl | (simp only [List.length_drop, List.length_take]; rfl)) ?_; (with_reducible refine (spec_l00Src_pick.calls g s0_0 t294 t295 (wrap64 (a1 + 1)) t296 t297 t298 w0 _ ?side1 ?side2 A5.out).mono ?_); (case side1 => repeat (first | (with_reducible first | exact HI0.out | apply IsS75.alloc | apply IsS75.drewN | apply IsS75.drew | apply IsS75.set_1 | apply IsS75.set_2) | exact HI0.out)); (case side2 => repeat (first | (with_reducible first | exact HB.out | apply below_alloc | apply pw_below_drewN | apply below_drew1 | refine below_set ?_ (IsS75.ge HI0.out)) | exact HB.out)); rintro e w10 ⟨rfl, hi, hb, hk⟩; refine ⟨_, rfl, ?_⟩; have n0_ := Aside0.mk (Kd.R_mono (Kd.R_keep (IsS75.apart (show IsS75 w0 _ g s0_0 t294 t295 from by repeat (first | (with_reducible first | exact HI0.out | apply IsS75.alloc | apply IsS75.drewN | apply IsS75.drew | apply IsS75.set_1 | apply IsS75.set_2) | exact HI0.out)) (by (with_reducible repeat (first | apply Kd.R_alloc | apply Kd.R_drewN | apply Kd.R_drew)); exact HO289.out) (by decide)) hk (fun _ h => h.2)) (fun _ h => h.1)); have n1_ := Aside0.mk (KeepBut.trans (by repeat (first | (with_reducible first | exact HK.out | apply KeepBut.set_ | apply keep_drewN | apply keep_drew | apply keep_alloc) | exact HK.out)) hk (.inl rfl)); have n2_ := Aside0.mk (hb); have n3_ := Aside0.mk (hi); clear HO289; clear HK; clear HB; clear HI0; have HO289 := n0_; have HK := n1_; have HB := n2_; have HI0 := n3_; clear n0_ n1_ n2_ n3_; (try clear hb); (try clear hb2); (try clear hk); (try clear hi)))
  go_loopg [5, 6, 8] k (fun kq v5 v6 v8 w' => ∃ (x5_1 : List Int) (x6_1 : Int) (x8_1 : Int) (x1001_1 : Int) (x1002_1 : Int), v6 = .int .u8 x6_1 ∧ v8 = .int .i64 x8_1 ∧ Aside0 (spec_l01DrawGood.l0 kq x5_1 x6_1 (wrap64 (1 + t293)) x8_1 s0_0 x1001_1 x1002_1 = some (r1, r2, r3)) ∧ Aside0 (kq ≤ k) ∧ Aside0 (Kd.R (Kd.int .u8) 5 w' w.heap.size (fun _ => True) v5 x5_1) ∧ Aside0 (IsS75 w0 w' g s0_0 x1001_1 x1002_1) ∧ Aside0 (KeepBut w w' g none) ∧ Aside0 (Below w0.heap.size w0 w'))
  case atStart => exact ⟨(y287), ((wrap64 (48 + t290)) % 256), (t296), (t297), (t298), (by first | rfl | (simp; done) | (simp [*]; done)), (by first | rfl | (simp; done) | (simp [*]; done)), H', ⟨Nat.le_refl _⟩, ⟨by (with_reducible repeat (first | apply Kd.R_alloc | apply Kd.R_drewN | apply Kd.R_drew)); exact HO289.out⟩, ⟨by repeat (first | (with_reducible first | exact HI0.out | apply IsS75.alloc | apply IsS75.drewN | apply IsS75.drew | apply IsS75.set_1 | apply IsS75.set_2) | exact HI0.out)⟩, ⟨by repeat (first | (with_reducible first | exact HK.out | apply KeepBut.set_ | apply keep_drewN | apply keep_drew | apply keep_alloc) | exact HK.out)⟩, ⟨by repeat (first | (with_reducible first | exact HB.out | apply below_alloc | apply pw_below_drewN | apply below_drew1 | refine below_set ?_ (IsS75.ge HI0.out)) | exact HB.out)⟩⟩
  case round =>
    clear H'
    try clear p2
    try clear c4
    try clear c6
    try clear p6
    obtain ⟨x5_1, x6_1, x8_1, x1001_1, x1002_1, rfl, rfl, HA, HK1, HO_5, HI0, HK, HB⟩ := hrel
    cases gk with
    | zero => exact absurd HA.out (by simp [spec_l01DrawGood.l0])
    | succ k1 =>
      have H := HA.out
      clear HA
      simp only [spec_l01DrawGood.l0] at H
      by_cases c11 : x8_1 > 0
      · rw [if_pos c11] at H
        have c11b0 : decide (0 < x8_1) = true := decide_eq_true c11
        clear c11
        replace H := Option.bind_eq_some_iff.mp H
        obtain ⟨⟨t299, t300, t301⟩, A120, H⟩ := H
        replace H : (if t299 = true then ((spec_l00Src_pick.f s0_0 t300 t301 2).bind fun bt302 => (if x5_1.length < 140737488355328 then (spec_l01DrawGood.l0 k1 (x5_1 ++ [(wrap64 (48 + bt302.1)) % 256]) ((wrap64 (48 + bt302.1)) % 256) (wrap64 (1 + t293)) (wrap64 (x8_1 - 1)) s0_0 bt302.2.1 bt302.2.2) else (none))) else (if x5_1.length < 140737488355328 then (spec_l01DrawGood.l0 k1 (x5_1 ++ [x6_1]) x6_1 (wrap64 (1 + t293)) (wrap64 (x8_1 - 1)) s0_0 t300 t301) else (none))) = some (r1, r2, r3) := H
        have A12 := Aside0.mk A120
        clear A120
        by_cases c13 : t299 = true
        · subst c13
          have H1 : ((spec_l00Src_pick.f s0_0 t300 t301 2).bind fun bt302 => (if x5_1.length < 140737488355328 then (spec_l01DrawGood.l0 k1 (x5_1 ++ [(wrap64 (48 + bt302.1)) % 256]) ((wrap64 (48 + bt302.1)) % 256) (wrap64 (1 + t293)) (wrap64 (x8_1 - 1)) s0_0 bt302.2.1 bt302.2.2) else (none))) = some (r1, r2, r3) := by rw [if_pos rfl] at H; exact H
          clear H
          have H := H1
          clear H1
          replace H := Option.bind_eq_some_iff.mp H
          obtain ⟨⟨t302, t303, t304⟩, A140, H⟩ := H
          replace H : (if x5_1.length < 140737488355328 then (spec_l01DrawGood.l0 k1 (x5_1 ++ [(wrap64 (48 + t302)) % 256]) ((wrap64 (48 + t302)) % 256) (wrap64 (1 + t293)) (wrap64 (x8_1 - 1)) s0_0 t303 t304) else (none)) = some (r1, r2, r3) := H
          have A14 := Aside0.mk A140
          clear A140
          by_cases c15 : x5_1.length < 140737488355328
          · rw [if_pos c15] at H
            have LMc15 := Aside0.mk c15
            clear c15
            obtain ⟨y305, hy305⟩ : ∃ y_ : List Int, y_ = (x5_1 ++ [(wrap64 (48 + t302)) % 256]) := ⟨_, rfl⟩
            replace H : (spec_l01DrawGood.l0 k1 y305 ((wrap64 (48 + t302)) % 256) (wrap64 (1 + t293)) (wrap64 (x8_1 - 1)) s0_0 t303 t304) = some (r1, r2, r3) := by first | (rw [hy305]; with_reducible exact H) | (have H2_ := (Option.bind_some _ _).symm.trans H; rw [hy305]; with_reducible exact H2_) | (have H2_ := (Option.bind_some _ _).symm.trans H; with_reducible exact H2_) | with_reducible exact H | (rw [hy305]; exact H) | exact H
            have Ny305 := Aside0.mk hy305
            clear hy305
            have H' := Aside0.mk H
            clear H
            go_wp2_with (first | ((with_reducible refine gate_callee (f := 61) rfl ?_); refine goesL_ (some 27) rfl rfl Tryd.func61 (by kernel_rfl) rfl #[.pointer (some ⟨g, 0, none⟩), .int .i64 (wrap64 (1 + t293))] rfl (by (try simp only [List.map_toArray, List.map_cons, List.map_nil]); first | done | rfl | (simp only [List.length_drop, List.length_take]; rfl)) ?_; (with_reducible refine (spec_l00Src_one.calls g s0_0 x1001_1 x1002_1 (wrap64 (1 + t293)) true t300 t301 w0 _ ?side1 ?side2 A12.out).mono ?_); (case side1 => repeat (first | (with_reducible first | exact HI0.out | apply IsS75.alloc | apply IsS75.drewN | apply IsS75.drew | apply IsS75.set_1 | apply IsS75.set_2) | exact HI0.out)); (case side2 => repeat (first | (with_reducible first | exact HB.out | apply below_alloc | apply pw_below_drewN | apply below_drew1 | refine below_set ?_ (IsS75.ge HI0.out)) | exact HB.out)); rintro e w16 ⟨rfl, hi, hb, hk⟩; refine ⟨_, rfl, ?_⟩; have n0_ := Aside0.mk (Kd.R_mono (Kd.R_keep (IsS75.apart (show IsS75 w0 _ g s0_0 x1001_1 x1002_1 from by repeat (first | (with_reducible first | exact HI0.out | apply IsS75.alloc | apply IsS75.drewN | apply IsS75.drew | apply IsS75.set_1 | apply IsS75.set_2) | exact HI0.out)) (by (with_reducible repeat (first | apply Kd.R_alloc | apply Kd.R_drewN | apply Kd.R_drew)); exact HO_5.out) (by decide)) hk (fun _ h => h.2)) (fun _ h => h.1)); have n1_ := Aside0.mk (KeepBut.trans (by repeat (first | (with_reducible first | exact HK.out | apply KeepBut.set_ | apply keep_drewN | apply keep_drew | apply keep_alloc) | exact HK.out)) hk (.inl rfl)); have n2_ := Aside0.mk (hb); have n3_ := Aside0.mk (hi); clear HO_5; clear HK; clear HB; clear HI0; have HO_5 := n0_; have HK := n1_; have HB := n2_; have HI0 := n3_; clear n0_ n1_ n2_ n3_; (try clear hb); (try clear hb2); (try clear hk); (try clear hi)) | ((with_reducible refine gate_callee (f := 41) rfl ?_); refine goesL_ (some 29) rfl rfl Tryd.func41 (by kernel_rfl) rfl #[.pointer (some ⟨g, 0, none⟩), .int .i64 2] rfl (by (try simp only [List.map_toArray, List.map_cons, List.map_nil]); first | done | rfl | (simp only [List.length_drop, List.length_take]; rfl)) ?_; (with_reducible refine (spec_l00Src_pick.calls g s0_0 t300 t301 2 t302 t303 t304 w0 _ ?side1 ?side2 A14.out).mono ?_); (case side1 => repeat (first | (with_reducible first | exact HI0.out | apply IsS75.alloc | apply IsS75.drewN | apply IsS75.drew | apply IsS75.set_1 | apply IsS75.set_2) | exact HI0.out)); (case side2 => repeat (first | (with_reducible first | exact HB.out | apply below_alloc | apply pw_below_drewN | apply below_drew1 | refine below_set ?_ (IsS75.ge HI0.out)) | exact HB.out)); rintro e w17 ⟨rfl, hi, hb, hk⟩; refine ⟨_, rfl, ?_⟩; have n0_ := Aside0.mk (Kd.R_mono (Kd.R_keep (IsS75.apart (show IsS75 w0 _ g s0_0 t300 t301 from by repeat (first | (with_reducible first | exact HI0.out | apply IsS75.alloc | apply IsS75.drewN | apply IsS75.drew | apply IsS75.set_1 | apply IsS75.set_2) | exact HI0.out)) (by (with_reducible repeat (first | apply Kd.R_alloc | apply Kd.R_drewN | apply Kd.R_drew)); exact HO_5.out) (by decide)) hk (fun _ h => h.2)) (fun _ h => h.1)); have n1_ := Aside0.mk (KeepBut.trans (by repeat (first | (with_reducible first | exact HK.out | apply KeepBut.set_ | apply keep_drewN | apply keep_drew | apply keep_alloc) | exact HK.out)) hk (.inl rfl)); have n2_ := Aside0.mk (hb); have n3_ := Aside0.mk (hi); clear HO_5; clear HK; clear HB; clear HI0; have HO_5 := n0_; have HK := n1_; have HB := n2_; have HI0 := n3_; clear n0_ n1_ n2_ n3_; (try clear hb); (try clear hb2); (try clear hk); (try clear hi)) | ((with_reducible refine gate_builtin (b := .append) (xs := #[.tmp 32, .tmp 34]) rfl ?_); at_builtin; refine Kd.R_append (Kd.int .u8) w.heap.size rfl (.tmp 32) (.tmp 34) 40 5 (.int .u8 0) 1 rfl Tryd.underlying40 info5 rfl (by decide) (by omega) u5 x5_1 ((wrap64 (48 + t302)) % 256) [.int .u8 ((wrap64 (48 + t302)) % 256)] (fun _ => True) (fun _ => False) rfl rfl ?aP (fun _ hk => hk.elim) ?aF ?aO (Below.refl _ _) ?aS ?aL ?_; (case aP => exact rfl); (case aF => exact (fun _ _ => trivial)); (case aO => exact (by (with_reducible repeat (first | apply Kd.R_alloc | apply Kd.R_drewN | apply Kd.R_drew)); exact HO_5.out)); (case aS => exact (keep_size (w := w) (g := g) (row := none) (by repeat (first | (with_reducible first | exact HK.out | apply KeepBut.set_ | apply keep_drewN | apply keep_drew | apply keep_alloc) | exact HK.out)))); (case aL => have := LMc15.out; omega); intro v306 w18 ho hb hg hat; rw [← Ny305.out] at ho; have n0_ := Aside0.mk (IsS75.grown (by repeat (first | (with_reducible first | exact HI0.out | apply IsS75.alloc | apply IsS75.drewN | apply IsS75.drew | apply IsS75.set_1 | apply IsS75.set_2) | exact HI0.out)) hg (IsS75.own_ne HI0.out HO_5.out (by decide))); have n1_ := Aside0.mk (below_weaken (by repeat (first | (with_reducible first | exact HB.out | apply below_alloc | apply pw_below_drewN | apply below_drew1 | refine below_set ?_ (IsS75.ge HI0.out)) | exact HB.out)) HL.out hb); have n2_ := Aside0.mk (KeepBut.trans (by repeat (first | (with_reducible first | exact HK.out | apply KeepBut.set_ | apply keep_drewN | apply keep_drew | apply keep_alloc) | exact HK.out)) (KeepBut.of_grown hg g) (Kd.R_base2 HO_5.out)); have n3_ := Aside0.mk (ho); clear HI0; clear HB; clear HK; clear HO_5; have HI0 := n0_; have HB := n1_; have HK := n2_; have HO307 := n3_; clear n0_ n1_ n2_ n3_; clear ho hb hg hat))
            go_roundg k1
            case measure => have := HK1.out; omega
            case rel => exact ⟨(y305), ((wrap64 (48 + t302)) % 256), (wrap64 (x8_1 - 1)), (t303), (t304), (by first | rfl | (simp; done) | (simp [*]; done)), (by first | rfl | (simp; done) | (simp [*]; done)), H', ⟨by have := HK1.out; omega⟩, ⟨by (with_reducible repeat (first | apply Kd.R_alloc | apply Kd.R_drewN | apply Kd.R_drew)); exact HO307.out⟩, ⟨by repeat (first | (with_reducible first | exact HI0.out | apply IsS75.alloc | apply IsS75.drewN | apply IsS75.drew | apply IsS75.set_1 | apply IsS75.set_2) | exact HI0.out)⟩, ⟨by repeat (first | (with_reducible first | exact HK.out | apply KeepBut.set_ | apply keep_drewN | apply keep_drew | apply keep_alloc) | exact HK.out)⟩, ⟨by repeat (first | (with_reducible first | exact HB.out | apply below_alloc | apply pw_below_drewN | apply below_drew1 | refine below_set ?_ (IsS75.ge HI0.out)) | exact HB.out)⟩⟩
          · rw [if_neg c15] at H
            exact absurd H (by simp)
        · replace c13 := Bool.eq_false_iff.mpr c13
          subst c13
          have H1 : (if x5_1.length < 140737488355328 then (spec_l01DrawGood.l0 k1 (x5_1 ++ [x6_1]) x6_1 (wrap64 (1 + t293)) (wrap64 (x8_1 - 1)) s0_0 t300 t301) else (none)) = some (r1, r2, r3) := by rw [if_neg (show ¬ (false = true) by decide)] at H; exact H
          clear H
          have H := H1
          clear H1
          by_cases c19 : x5_1.length < 140737488355328
          · rw [if_pos c19] at H
            have LMc19 := Aside0.mk c19
            clear c19
            obtain ⟨y308, hy308⟩ : ∃ y_ : List Int, y_ = (x5_1 ++ [x6_1]) := ⟨_, rfl⟩
            replace H : (spec_l01DrawGood.l0 k1 y308 x6_1 (wrap64 (1 + t293)) (wrap64 (x8_1 - 1)) s0_0 t300 t301) = some (r1, r2, r3) := by first | (rw [hy308]; with_reducible exact H) | (have H2_ := (Option.bind_some _ _).symm.trans H; rw [hy308]; with_reducible exact H2_) | (have H2_ := (Option.bind_some _ _).symm.trans H; with_reducible exact H2_) | with_reducible exact H | (rw [hy308]; exact H) | exact H
            have Ny308 := Aside0.mk hy308
            clear hy308
            have H' := Aside0.mk H
            clear H
            go_wp2_with (first | ((with_reducible refine gate_callee (f := 61) rfl ?_); refine goesL_ (some 27) rfl rfl Tryd.func61 (by kernel_rfl) rfl #[.pointer (some ⟨g, 0, none⟩), .int .i64 (wrap64 (1 + t293))] rfl (by (try simp only [List.map_toArray, List.map_cons, List.map_nil]); first | done | rfl | (simp only [List.length_drop, List.length_take]; rfl)) ?_; (with_reducible refine (spec_l00Src_one.calls g s0_0 x1001_1 x1002_1 (wrap64 (1 + t293)) false t300 t301 w0 _ ?side1 ?side2 A12.out).mono ?_); (case side1 => repeat (first | (with_reducible first | exact HI0.out | apply IsS75.alloc | apply IsS75.drewN | apply IsS75.drew | apply IsS75.set_1 | apply IsS75.set_2) | exact HI0.out)); (case side2 => repeat (first | (with_reducible first | exact HB.out | apply below_alloc | apply pw_below_drewN | apply below_drew1 | refine below_set ?_ (IsS75.ge HI0.out)) | exact HB.out)); rintro e w20 ⟨rfl, hi, hb, hk⟩; refine ⟨_, rfl, ?_⟩; have n0_ := Aside0.mk (Kd.R_mono (Kd.R_keep (IsS75.apart (show IsS75 w0 _ g s0_0 x1001_1 x1002_1 from by repeat (first | (with_reducible first | exact HI0.out | apply IsS75.alloc | apply IsS75.drewN | apply IsS75.drew | apply IsS75.set_1 | apply IsS75.set_2) | exact HI0.out)) (by (with_reducible repeat (first | apply Kd.R_alloc | apply Kd.R_drewN | apply Kd.R_drew)); exact HO_5.out) (by decide)) hk (fun _ h => h.2)) (fun _ h => h.1)); have n1_ := Aside0.mk (KeepBut.trans (by repeat (first | (with_reducible first | exact HK.out | apply KeepBut.set_ | apply keep_drewN | apply keep_drew | apply keep_alloc) | exact HK.out)) hk (.inl rfl)); have n2_ := Aside0.mk (hb); have n3_ := Aside0.mk (hi); clear HO_5; clear HK; clear HB; clear HI0; have HO_5 := n0_; have HK := n1_; have HB := n2_; have HI0 := n3_; clear n0_ n1_ n2_ n3_; (try clear hb); (try clear hb2); (try clear hk); (try clear hi)) | ((with_reducible refine gate_builtin (b := .append) (xs := #[.tmp 32, .tmp 34]) rfl ?_); at_builtin; refine Kd.R_append (Kd.int .u8) w.heap.size rfl (.tmp 32) (.tmp 34) 40 5 (.int .u8 0) 1 rfl Tryd.underlying40 info5 rfl (by decide) (by omega) u5 x5_1 x6_1 [.int .u8 x6_1] (fun _ => True) (fun _ => False) rfl rfl ?aP (fun _ hk => hk.elim) ?aF ?aO (Below.refl _ _) ?aS ?aL ?_; (case aP => exact rfl); (case aF => exact (fun _ _ => trivial)); (case aO => exact (by (with_reducible repeat (first | apply Kd.R_alloc | apply Kd.R_drewN | apply Kd.R_drew)); exact HO_5.out)); (case aS => exact (keep_size (w := w) (g := g) (row := none) (by repeat (first | (with_reducible first | exact HK.out | apply KeepBut.set_ | apply keep_drewN | apply keep_drew | apply keep_alloc) | exact HK.out)))); (case aL => have := LMc19.out; omega); intro v309 w21 ho hb hg hat; rw [← Ny308.out] at ho; have n0_ := Aside0.mk (IsS75.grown (by repeat (first | (with_reducible first | exact HI0.out | apply IsS75.alloc | apply IsS75.drewN | apply IsS75.drew | apply IsS75.set_1 | apply IsS75.set_2) | exact HI0.out)) hg (IsS75.own_ne HI0.out HO_5.out (by decide))); have n1_ := Aside0.mk (below_weaken (by repeat (first | (with_reducible first | exact HB.out | apply below_alloc | apply pw_below_drewN | apply below_drew1 | refine below_set ?_ (IsS75.ge HI0.out)) | exact HB.out)) HL.out hb); have n2_ := Aside0.mk (KeepBut.trans (by repeat (first | (with_reducible first | exact HK.out | apply KeepBut.set_ | apply keep_drewN | apply keep_drew | apply keep_alloc) | exact HK.out)) (KeepBut.of_grown hg g) (Kd.R_base2 HO_5.out)); have n3_ := Aside0.mk (ho); clear HI0; clear HB; clear HK; clear HO_5; have HI0 := n0_; have HB := n1_; have HK := n2_; have HO310 := n3_; clear n0_ n1_ n2_ n3_; clear ho hb hg hat))
            go_roundg k1
            case measure => have := HK1.out; omega
            case rel => exact ⟨(y308), (x6_1), (wrap64 (x8_1 - 1)), (t300), (t301), (by first | rfl | (simp; done) | (simp [*]; done)), (by first | rfl | (simp; done) | (simp [*]; done)), H', ⟨by have := HK1.out; omega⟩, ⟨by (with_reducible repeat (first | apply Kd.R_alloc | apply Kd.R_drewN | apply Kd.R_drew)); exact HO310.out⟩, ⟨by repeat (first | (with_reducible first | exact HI0.out | apply IsS75.alloc | apply IsS75.drewN | apply IsS75.drew | apply IsS75.set_1 | apply IsS75.set_2) | exact HI0.out)⟩, ⟨by repeat (first | (with_reducible first | exact HK.out | apply KeepBut.set_ | apply keep_drewN | apply keep_drew | apply keep_alloc) | exact HK.out)⟩, ⟨by repeat (first | (with_reducible first | exact HB.out | apply below_alloc | apply pw_below_drewN | apply below_drew1 | refine below_set ?_ (IsS75.ge HI0.out)) | exact HB.out)⟩⟩
          · rw [if_neg c19] at H
            exact absurd H (by simp)
      · rw [if_neg c11] at H
        have c11b0 : decide (0 < x8_1) = false := decide_eq_false c11
        clear c11
        simp only [Option.some.injEq, Prod.mk.injEq] at H
        obtain ⟨rfl, rfl, rfl⟩ := H
        have hcv22 := own_string (P := Tryd.prog) Tryd.underlying40 Tryd.underlying5 Tryd.underlying9 (Kd.own_of_R HO_5.out)
        go_wp2
        go_ret
        exact ⟨by first | rfl | (simp [errW_none, errW_some] <;> rfl) | (simp [*, errW_none, errW_some] <;> rfl), by repeat (first | (with_reducible first | exact HI0.out | apply IsS75.alloc | apply IsS75.drewN | apply IsS75.drew | apply IsS75.set_1 | apply IsS75.set_2) | exact HI0.out), by repeat (first | (with_reducible first | exact HB.out | apply below_alloc | apply pw_below_drewN | apply below_drew1 | refine below_set ?_ (IsS75.ge HI0.out)) | exact HB.out), by repeat (first | (with_reducible first | exact HK.out | apply KeepBut.set_ | apply keep_drewN | apply keep_drew | apply keep_alloc) | exact HK.out)⟩

end Go.Proofs.YtjpjlobpglmoiaaDoor.A
-- Printed by this session's oprint.py through the kit's printer.
namespace Go.Proofs.YtjpjlobpglmoiaaDoor.A
open Go.RowKit Go.Proofs.YtjpjlobpglmoiaaDoorW.PrintWords Go.Proofs.YtjpjlobpglmoiaaDoorW.PrintLast Go.Proofs.YtjpjlobpglmoiaaDoorW.PrintMore
attribute [local go_sem] max2_int min2_int max_two min_two max_three min_three max_four min_four   -- for this text's walks alone
set_option linter.unusedVariables false
set_option linter.unusedSimpArgs false

/-! ### spec_l07DrawLevels: function 62 -/
def spec_l07DrawLevels.l0 : Nat → Int → List Int → Int → List Int → Int → Int → Option (ByteArray × Int × Int)
  | 0, _, _, _, _, _, _ => none
  | k + 1, x1, x5, x6, x1000, x1001, x1002 => if x1 > 0 then ((spec_l00Src_one.f x1000 x1001 x1002 6).bind fun bt317 => (if bt317.1 = true then (if x5.length < 140737488355328 then (spec_l07DrawLevels.l0 k (wrap64 (x1 - 1)) (x5 ++ [(97 - x6) % 256]) ((97 - x6) % 256) x1000 bt317.2.1 bt317.2.2) else (none)) else (if x5.length < 140737488355328 then (spec_l07DrawLevels.l0 k (wrap64 (x1 - 1)) (x5 ++ [x6]) x6 x1000 bt317.2.1 bt317.2.2) else (none)))) else (some (strOfNums x5, x1001, x1002))
def spec_l07DrawLevels.f (k : Nat) (s0_0 : List Int) (s0_1 : Int) (s0_2 : Int) (a1 : Int) : Option (ByteArray × Int × Int) := (spec_l00Src_pick.f s0_0 s0_1 s0_2 2).bind fun bt314 => (spec_l07DrawLevels.l0 k a1 (([] : List Int)) ((wrap64 (48 + bt314.1)) % 256) s0_0 bt314.2.1 bt314.2.2)
theorem spec_l07DrawLevels.mono_l : ∀ k, (∀ y0 y1 y2 y3 y4 y5, LeO (spec_l07DrawLevels.l0 k y0 y1 y2 y3 y4 y5) (spec_l07DrawLevels.l0 (k + 1) y0 y1 y2 y3 y4 y5))
  | 0 => fun _ _ _ _ _ _ r h => by simp [spec_l07DrawLevels.l0] at h
  | k + 1 => by
    have ih0 := spec_l07DrawLevels.mono_l k
    · intro y0 y1 y2 y3 y4 y5
      unfold spec_l07DrawLevels.l0
      repeat' first
      | (with_reducible exact ih0 _ _ _ _ _ _)
      | (with_reducible exact LeO.refl _)
      | (with_reducible exact LeO.none _)
      | (with_reducible refine LeO.ite ?_ ?_)
      | (with_reducible refine LeO.bind ?_ (fun _ => ?_))
      | exact ih0 _ _ _ _ _ _
      | exact LeO.none _
      | refine LeO.ite ?_ ?_
      | refine LeO.bind ?_ (fun _ => ?_)
theorem spec_l07DrawLevels.mono : ∀ a0 a1 a2 a3 k, LeO (spec_l07DrawLevels.f k a0 a1 a2 a3) (spec_l07DrawLevels.f (k + 1) a0 a1 a2 a3) := by
  intro a0 a1 a2 a3 k
  have ih0 := spec_l07DrawLevels.mono_l k
  unfold spec_l07DrawLevels.f
  repeat' first
      | (with_reducible exact ih0 _ _ _ _ _ _)
      | (with_reducible exact LeO.refl _)
      | (with_reducible exact LeO.none _)
      | (with_reducible refine LeO.ite ?_ ?_)
      | (with_reducible refine LeO.bind ?_ (fun _ => ?_))
      | exact ih0 _ _ _ _ _ _
      | exact LeO.none _
      | refine LeO.ite ?_ ?_
      | refine LeO.bind ?_ (fun _ => ?_)
set_option maxHeartbeats 8000000 in
set_option maxRecDepth 100000 in
theorem spec_l07DrawLevels.calls (k : Nat) (g : Nat) (s0_0 : List Int) (s0_1 : Int) (s0_2 : Int) (a1 : Int) (r1 : ByteArray) (r2 : Int) (r3 : Int) (w0 w : World) (hI : IsS75 w0 w g s0_0 s0_1 s0_2) (hB : Below w0.heap.size w0 w) (h : spec_l07DrawLevels.f k s0_0 s0_1 s0_2 a1 = some (r1, r2, r3)) :
    Calls Tryd.prog 62 #[.pointer (some ⟨g, 0, none⟩), .int .i64 a1] w fun e w' => e = .returned (.string r1) ∧ IsS75 w0 w' g s0_0 r2 r3 ∧ Below w0.heap.size w0 w' ∧ KeepBut w w' g none := by
  have HI0 := Aside0.mk hI
  have HK := Aside0.mk (KeepBut.refl w g none)
  have HL := Aside0.mk hB.size
  clear hI
  have HW0 := Aside0.mk hB.size
  have HB := Aside0.mk hB
  clear hB
  have H : ((spec_l00Src_pick.f s0_0 s0_1 s0_2 2).bind fun bt314 => (spec_l07DrawLevels.l0 k a1 (([] : List Int)) ((wrap64 (48 + bt314.1)) % 256) s0_0 bt314.2.1 bt314.2.2)) = some (r1, r2, r3) := h
  clear h
  obtain ⟨y311, hy311⟩ : ∃ y_ : List Int, y_ = (([] : List Int)) := ⟨_, rfl⟩
  replace H : ((spec_l00Src_pick.f s0_0 s0_1 s0_2 2).bind fun bt314 => (spec_l07DrawLevels.l0 k a1 y311 ((wrap64 (48 + bt314.1)) % 256) s0_0 bt314.2.1 bt314.2.2)) = some (r1, r2, r3) := by first | (rw [hy311]; with_reducible exact H) | (have H2_ := (Option.bind_some _ _).symm.trans H; rw [hy311]; with_reducible exact H2_) | (have H2_ := (Option.bind_some _ _).symm.trans H; with_reducible exact H2_) | with_reducible exact H | (rw [hy311]; exact H) | exact H
  have Ny311 := Aside0.mk hy311
  clear hy311
  replace H := Option.bind_eq_some_iff.mp H
  obtain ⟨⟨t314, t315, t316⟩, A30, H⟩ := H
  replace H : (spec_l07DrawLevels.l0 k a1 y311 ((wrap64 (48 + t314)) % 256) s0_0 t315 t316) = some (r1, r2, r3) := H
  have A3 := Aside0.mk A30
  clear A30
  have H' := Aside0.mk H
  clear H
  go_enter Tryd.func62, Tryd.ntmps62
  go_wp2_with (first | ((with_reducible refine gate_dst (N := 7) rfl ?_); refine Kd.R_lit (Kd.int .u8) _ 5 ?hg (N := 7) ?hd (xs := ([] : List Int)) (inner := []) (ok := fun _ => True) (okp := fun _ => True) ?hr ?hp (fun _ hk => hk) trivial (Below.refl _ _) (Nat.le_refl _) (by simp) ?_; (case hd => rfl); (case hg => rfl); (case hr => first | (go_simp; done) | (go_simp; rfl)); (case hp => exact (Reps.none _ _)); intro v312 w4 ho5 hb hg_ hnew_; clear hg_ hnew_; (first | rw [← Ny311.out] at ho5 | (simp only [Int.reduceToNat] at ho5; rw [← Ny311.out] at ho5)); have n0_ := Aside0.mk (Kd.R_lower ho5 (keep_size (w := w) (g := g) (row := none) (by repeat (first | (with_reducible first | exact HK.out | apply KeepBut.set_ | apply keep_drewN | apply keep_drew | apply keep_alloc) | exact HK.out)))); have n1_ := Aside0.mk (IsS75.below (by repeat (first | (with_reducible first | exact HI0.out | apply IsS75.alloc | apply IsS75.drewN | apply IsS75.drew | apply IsS75.set_1 | apply IsS75.set_2) | exact HI0.out)) hb); have n2_ := Aside0.mk (KeepBut.trans (by repeat (first | (with_reducible first | exact HK.out | apply KeepBut.set_ | apply keep_drewN | apply keep_drew | apply keep_alloc) | exact HK.out)) (KeepBut.of_below hb g none) (.inl rfl)); have n3_ := Aside0.mk (below_step (by repeat (first | (with_reducible first | exact HB.out | apply below_alloc | apply pw_below_drewN | apply below_drew1 | refine below_set ?_ (IsS75.ge HI0.out)) | exact HB.out)) hb); clear HI0; clear HK; clear HB; have HO313 := n0_; have HI0 := n1_; have HK := n2_; have HB := n3_; clear n0_ n1_ n2_ n3_; clear hb ho5) | ((with_reducible refine gate_callee (f := 41) rfl ?_); refine goesL_ (some 9) rfl rfl Tryd.func41 (by kernel_rfl) rfl #[.pointer (some ⟨g, 0, none⟩), .int .i64 2] rfl (by (try simp only [List.map_toArray, List.map_cons, List.map_nil]); first | done | rfl | (simp only [List.length_drop, List.length_take]; rfl)) ?_; (with_reducible refine (spec_l00Src_pick.calls g s0_0 s0_1 s0_2 2 t314 t315 t316 w0 _ ?side1 ?side2 A3.out).mono ?_); (case side1 => repeat (first | (with_reducible first | exact HI0.out | apply IsS75.alloc | apply IsS75.drewN | apply IsS75.drew | apply IsS75.set_1 | apply IsS75.set_2) | exact HI0.out)); (case side2 => repeat (first | (with_reducible first | exact HB.out | apply below_alloc | apply pw_below_drewN | apply below_drew1 | refine below_set ?_ (IsS75.ge HI0.out)) | exact HB.out)); rintro e w6 ⟨rfl, hi, hb, hk⟩; refine ⟨_, rfl, ?_⟩; have n0_ := Aside0.mk (Kd.R_mono (Kd.R_keep (IsS75.apart (show IsS75 w0 _ g s0_0 s0_1 s0_2 from by repeat (first | (with_reducible first | exact HI0.out | apply IsS75.alloc | apply IsS75.drewN | apply IsS75.drew | apply IsS75.set_1 | apply IsS75.set_2) | exact HI0.out)) (by (with_reducible repeat (first | apply Kd.R_alloc | apply Kd.R_drewN | apply Kd.R_drew)); exact HO313.out) (by decide)) hk (fun _ h => h.2)) (fun _ h => h.1)); have n1_ := Aside0.mk (KeepBut.trans (by repeat (first | (with_reducible first | exact HK.out | apply KeepBut.set_ | apply keep_drewN | apply keep_drew | apply keep_alloc) | exact HK.out)) hk (.inl rfl)); have n2_ := Aside0.mk (hb); have n3_ := Aside0.mk (hi); clear HO313; clear HK; clear HB; clear HI0; have HO313 := n0_; have HK := n1_; have HB := n2_; have HI0 := n3_; clear n0_ n1_ n2_ n3_; (try clear hb); (try clear hb2); (try clear hk); (try clear hi)))
  go_loopg [1, 5, 6] k (fun kq v1 v5 v6 w' => ∃ (x1_1 : Int) (x5_1 : List Int) (x6_1 : Int) (x1001_1 : Int) (x1002_1 : Int), v1 = .int .i64 x1_1 ∧ v6 = .int .u8 x6_1 ∧ Aside0 (spec_l07DrawLevels.l0 kq x1_1 x5_1 x6_1 s0_0 x1001_1 x1002_1 = some (r1, r2, r3)) ∧ Aside0 (kq ≤ k) ∧ Aside0 (Kd.R (Kd.int .u8) 5 w' w.heap.size (fun _ => True) v5 x5_1) ∧ Aside0 (IsS75 w0 w' g s0_0 x1001_1 x1002_1) ∧ Aside0 (KeepBut w w' g none) ∧ Aside0 (Below w0.heap.size w0 w'))
  case atStart => exact ⟨(a1), (y311), ((wrap64 (48 + t314)) % 256), (t315), (t316), (by first | rfl | (simp; done) | (simp [*]; done)), (by first | rfl | (simp; done) | (simp [*]; done)), H', ⟨Nat.le_refl _⟩, ⟨by (with_reducible repeat (first | apply Kd.R_alloc | apply Kd.R_drewN | apply Kd.R_drew)); exact HO313.out⟩, ⟨by repeat (first | (with_reducible first | exact HI0.out | apply IsS75.alloc | apply IsS75.drewN | apply IsS75.drew | apply IsS75.set_1 | apply IsS75.set_2) | exact HI0.out)⟩, ⟨by repeat (first | (with_reducible first | exact HK.out | apply KeepBut.set_ | apply keep_drewN | apply keep_drew | apply keep_alloc) | exact HK.out)⟩, ⟨by repeat (first | (with_reducible first | exact HB.out | apply below_alloc | apply pw_below_drewN | apply below_drew1 | refine below_set ?_ (IsS75.ge HI0.out)) | exact HB.out)⟩⟩
  case round =>
    clear H'
    try clear p2
    try clear c4
    try clear c6
    try clear p6
    obtain ⟨x1_1, x5_1, x6_1, x1001_1, x1002_1, rfl, rfl, HA, HK1, HO_5, HI0, HK, HB⟩ := hrel
    cases gk with
    | zero => exact absurd HA.out (by simp [spec_l07DrawLevels.l0])
    | succ k1 =>
      have H := HA.out
      clear HA
      simp only [spec_l07DrawLevels.l0] at H
      by_cases c7 : x1_1 > 0
      · rw [if_pos c7] at H
        have c7b0 : decide (0 < x1_1) = true := decide_eq_true c7
        clear c7
        replace H := Option.bind_eq_some_iff.mp H
        obtain ⟨⟨t317, t318, t319⟩, A80, H⟩ := H
        replace H : (if t317 = true then (if x5_1.length < 140737488355328 then (spec_l07DrawLevels.l0 k1 (wrap64 (x1_1 - 1)) (x5_1 ++ [(97 - x6_1) % 256]) ((97 - x6_1) % 256) s0_0 t318 t319) else (none)) else (if x5_1.length < 140737488355328 then (spec_l07DrawLevels.l0 k1 (wrap64 (x1_1 - 1)) (x5_1 ++ [x6_1]) x6_1 s0_0 t318 t319) else (none))) = some (r1, r2, r3) := H
        have A8 := Aside0.mk A80
        clear A80
        by_cases c9 : t317 = true
        · subst c9
          have H1 : (if x5_1.length < 140737488355328 then (spec_l07DrawLevels.l0 k1 (wrap64 (x1_1 - 1)) (x5_1 ++ [(97 - x6_1) % 256]) ((97 - x6_1) % 256) s0_0 t318 t319) else (none)) = some (r1, r2, r3) := by rw [if_pos rfl] at H; exact H
          clear H
          have H := H1
          clear H1
          by_cases c10 : x5_1.length < 140737488355328
          · rw [if_pos c10] at H
            have LMc10 := Aside0.mk c10
            clear c10
            obtain ⟨y320, hy320⟩ : ∃ y_ : List Int, y_ = (x5_1 ++ [(97 - x6_1) % 256]) := ⟨_, rfl⟩
            replace H : (spec_l07DrawLevels.l0 k1 (wrap64 (x1_1 - 1)) y320 ((97 - x6_1) % 256) s0_0 t318 t319) = some (r1, r2, r3) := by first | (rw [hy320]; with_reducible exact H) | (have H2_ := (Option.bind_some _ _).symm.trans H; rw [hy320]; with_reducible exact H2_) | (have H2_ := (Option.bind_some _ _).symm.trans H; with_reducible exact H2_) | with_reducible exact H | (rw [hy320]; exact H) | exact H
            have Ny320 := Aside0.mk hy320
            clear hy320
            have H' := Aside0.mk H
            clear H
            go_wp2_with (first | ((with_reducible refine gate_callee (f := 61) rfl ?_); refine goesL_ (some 17) rfl rfl Tryd.func61 (by kernel_rfl) rfl #[.pointer (some ⟨g, 0, none⟩), .int .i64 6] rfl (by (try simp only [List.map_toArray, List.map_cons, List.map_nil]); first | done | rfl | (simp only [List.length_drop, List.length_take]; rfl)) ?_; (with_reducible refine (spec_l00Src_one.calls g s0_0 x1001_1 x1002_1 6 true t318 t319 w0 _ ?side1 ?side2 A8.out).mono ?_); (case side1 => repeat (first | (with_reducible first | exact HI0.out | apply IsS75.alloc | apply IsS75.drewN | apply IsS75.drew | apply IsS75.set_1 | apply IsS75.set_2) | exact HI0.out)); (case side2 => repeat (first | (with_reducible first | exact HB.out | apply below_alloc | apply pw_below_drewN | apply below_drew1 | refine below_set ?_ (IsS75.ge HI0.out)) | exact HB.out)); rintro e w11 ⟨rfl, hi, hb, hk⟩; refine ⟨_, rfl, ?_⟩; have n0_ := Aside0.mk (Kd.R_mono (Kd.R_keep (IsS75.apart (show IsS75 w0 _ g s0_0 x1001_1 x1002_1 from by repeat (first | (with_reducible first | exact HI0.out | apply IsS75.alloc | apply IsS75.drewN | apply IsS75.drew | apply IsS75.set_1 | apply IsS75.set_2) | exact HI0.out)) (by (with_reducible repeat (first | apply Kd.R_alloc | apply Kd.R_drewN | apply Kd.R_drew)); exact HO_5.out) (by decide)) hk (fun _ h => h.2)) (fun _ h => h.1)); have n1_ := Aside0.mk (KeepBut.trans (by repeat (first | (with_reducible first | exact HK.out | apply KeepBut.set_ | apply keep_drewN | apply keep_drew | apply keep_alloc) | exact HK.out)) hk (.inl rfl)); have n2_ := Aside0.mk (hb); have n3_ := Aside0.mk (hi); clear HO_5; clear HK; clear HB; clear HI0; have HO_5 := n0_; have HK := n1_; have HB := n2_; have HI0 := n3_; clear n0_ n1_ n2_ n3_; (try clear hb); (try clear hb2); (try clear hk); (try clear hi)) | ((with_reducible refine gate_builtin (b := .append) (xs := #[.tmp 20, .tmp 22]) rfl ?_); at_builtin; refine Kd.R_append (Kd.int .u8) w.heap.size rfl (.tmp 20) (.tmp 22) 40 5 (.int .u8 0) 1 rfl Tryd.underlying40 info5 rfl (by decide) (by omega) u5 x5_1 ((97 - x6_1) % 256) [.int .u8 ((97 - x6_1) % 256)] (fun _ => True) (fun _ => False) rfl rfl ?aP (fun _ hk => hk.elim) ?aF ?aO (Below.refl _ _) ?aS ?aL ?_; (case aP => exact rfl); (case aF => exact (fun _ _ => trivial)); (case aO => exact (by (with_reducible repeat (first | apply Kd.R_alloc | apply Kd.R_drewN | apply Kd.R_drew)); exact HO_5.out)); (case aS => exact (keep_size (w := w) (g := g) (row := none) (by repeat (first | (with_reducible first | exact HK.out | apply KeepBut.set_ | apply keep_drewN | apply keep_drew | apply keep_alloc) | exact HK.out)))); (case aL => have := LMc10.out; omega); intro v321 w12 ho hb hg hat; rw [← Ny320.out] at ho; have n0_ := Aside0.mk (IsS75.grown (by repeat (first | (with_reducible first | exact HI0.out | apply IsS75.alloc | apply IsS75.drewN | apply IsS75.drew | apply IsS75.set_1 | apply IsS75.set_2) | exact HI0.out)) hg (IsS75.own_ne HI0.out HO_5.out (by decide))); have n1_ := Aside0.mk (below_weaken (by repeat (first | (with_reducible first | exact HB.out | apply below_alloc | apply pw_below_drewN | apply below_drew1 | refine below_set ?_ (IsS75.ge HI0.out)) | exact HB.out)) HL.out hb); have n2_ := Aside0.mk (KeepBut.trans (by repeat (first | (with_reducible first | exact HK.out | apply KeepBut.set_ | apply keep_drewN | apply keep_drew | apply keep_alloc) | exact HK.out)) (KeepBut.of_grown hg g) (Kd.R_base2 HO_5.out)); have n3_ := Aside0.mk (ho); clear HI0; clear HB; clear HK; clear HO_5; have HI0 := n0_; have HB := n1_; have HK := n2_; have HO322 := n3_; clear n0_ n1_ n2_ n3_; clear ho hb hg hat))
            go_roundg k1
            case measure => have := HK1.out; omega
            case rel => exact ⟨(wrap64 (x1_1 - 1)), (y320), ((97 - x6_1) % 256), (t318), (t319), (by first | rfl | (simp; done) | (simp [*]; done)), (by first | rfl | (simp; done) | (simp [*]; done)), H', ⟨by have := HK1.out; omega⟩, ⟨by (with_reducible repeat (first | apply Kd.R_alloc | apply Kd.R_drewN | apply Kd.R_drew)); exact HO322.out⟩, ⟨by repeat (first | (with_reducible first | exact HI0.out | apply IsS75.alloc | apply IsS75.drewN | apply IsS75.drew | apply IsS75.set_1 | apply IsS75.set_2) | exact HI0.out)⟩, ⟨by repeat (first | (with_reducible first | exact HK.out | apply KeepBut.set_ | apply keep_drewN | apply keep_drew | apply keep_alloc) | exact HK.out)⟩, ⟨by repeat (first | (with_reducible first | exact HB.out | apply below_alloc | apply pw_below_drewN | apply below_drew1 | refine below_set ?_ (IsS75.ge HI0.out)) | exact HB.out)⟩⟩
          · rw [if_neg c10] at H
            exact absurd H (by simp)
        · replace c9 := Bool.eq_false_iff.mpr c9
          subst c9
          have H1 : (if x5_1.length < 140737488355328 then (spec_l07DrawLevels.l0 k1 (wrap64 (x1_1 - 1)) (x5_1 ++ [x6_1]) x6_1 s0_0 t318 t319) else (none)) = some (r1, r2, r3) := by rw [if_neg (show ¬ (false = true) by decide)] at H; exact H
          clear H
          have H := H1
          clear H1
          by_cases c13 : x5_1.length < 140737488355328
          · rw [if_pos c13] at H
            have LMc13 := Aside0.mk c13
            clear c13
            obtain ⟨y323, hy323⟩ : ∃ y_ : List Int, y_ = (x5_1 ++ [x6_1]) := ⟨_, rfl⟩
            replace H : (spec_l07DrawLevels.l0 k1 (wrap64 (x1_1 - 1)) y323 x6_1 s0_0 t318 t319) = some (r1, r2, r3) := by first | (rw [hy323]; with_reducible exact H) | (have H2_ := (Option.bind_some _ _).symm.trans H; rw [hy323]; with_reducible exact H2_) | (have H2_ := (Option.bind_some _ _).symm.trans H; with_reducible exact H2_) | with_reducible exact H | (rw [hy323]; exact H) | exact H
            have Ny323 := Aside0.mk hy323
            clear hy323
            have H' := Aside0.mk H
            clear H
            go_wp2_with (first | ((with_reducible refine gate_callee (f := 61) rfl ?_); refine goesL_ (some 17) rfl rfl Tryd.func61 (by kernel_rfl) rfl #[.pointer (some ⟨g, 0, none⟩), .int .i64 6] rfl (by (try simp only [List.map_toArray, List.map_cons, List.map_nil]); first | done | rfl | (simp only [List.length_drop, List.length_take]; rfl)) ?_; (with_reducible refine (spec_l00Src_one.calls g s0_0 x1001_1 x1002_1 6 false t318 t319 w0 _ ?side1 ?side2 A8.out).mono ?_); (case side1 => repeat (first | (with_reducible first | exact HI0.out | apply IsS75.alloc | apply IsS75.drewN | apply IsS75.drew | apply IsS75.set_1 | apply IsS75.set_2) | exact HI0.out)); (case side2 => repeat (first | (with_reducible first | exact HB.out | apply below_alloc | apply pw_below_drewN | apply below_drew1 | refine below_set ?_ (IsS75.ge HI0.out)) | exact HB.out)); rintro e w14 ⟨rfl, hi, hb, hk⟩; refine ⟨_, rfl, ?_⟩; have n0_ := Aside0.mk (Kd.R_mono (Kd.R_keep (IsS75.apart (show IsS75 w0 _ g s0_0 x1001_1 x1002_1 from by repeat (first | (with_reducible first | exact HI0.out | apply IsS75.alloc | apply IsS75.drewN | apply IsS75.drew | apply IsS75.set_1 | apply IsS75.set_2) | exact HI0.out)) (by (with_reducible repeat (first | apply Kd.R_alloc | apply Kd.R_drewN | apply Kd.R_drew)); exact HO_5.out) (by decide)) hk (fun _ h => h.2)) (fun _ h => h.1)); have n1_ := Aside0.mk (KeepBut.trans (by repeat (first | (with_reducible first | exact HK.out | apply KeepBut.set_ | apply keep_drewN | apply keep_drew | apply keep_alloc) | exact HK.out)) hk (.inl rfl)); have n2_ := Aside0.mk (hb); have n3_ := Aside0.mk (hi); clear HO_5; clear HK; clear HB; clear HI0; have HO_5 := n0_; have HK := n1_; have HB := n2_; have HI0 := n3_; clear n0_ n1_ n2_ n3_; (try clear hb); (try clear hb2); (try clear hk); (try clear hi)) | ((with_reducible refine gate_builtin (b := .append) (xs := #[.tmp 20, .tmp 22]) rfl ?_); at_builtin; refine Kd.R_append (Kd.int .u8) w.heap.size rfl (.tmp 20) (.tmp 22) 40 5 (.int .u8 0) 1 rfl Tryd.underlying40 info5 rfl (by decide) (by omega) u5 x5_1 x6_1 [.int .u8 x6_1] (fun _ => True) (fun _ => False) rfl rfl ?aP (fun _ hk => hk.elim) ?aF ?aO (Below.refl _ _) ?aS ?aL ?_; (case aP => exact rfl); (case aF => exact (fun _ _ => trivial)); (case aO => exact (by (with_reducible repeat (first | apply Kd.R_alloc | apply Kd.R_drewN | apply Kd.R_drew)); exact HO_5.out)); (case aS => exact (keep_size (w := w) (g := g) (row := none) (by repeat (first | (with_reducible first | exact HK.out | apply KeepBut.set_ | apply keep_drewN | apply keep_drew | apply keep_alloc) | exact HK.out)))); (case aL => have := LMc13.out; omega); intro v324 w15 ho hb hg hat; rw [← Ny323.out] at ho; have n0_ := Aside0.mk (IsS75.grown (by repeat (first | (with_reducible first | exact HI0.out | apply IsS75.alloc | apply IsS75.drewN | apply IsS75.drew | apply IsS75.set_1 | apply IsS75.set_2) | exact HI0.out)) hg (IsS75.own_ne HI0.out HO_5.out (by decide))); have n1_ := Aside0.mk (below_weaken (by repeat (first | (with_reducible first | exact HB.out | apply below_alloc | apply pw_below_drewN | apply below_drew1 | refine below_set ?_ (IsS75.ge HI0.out)) | exact HB.out)) HL.out hb); have n2_ := Aside0.mk (KeepBut.trans (by repeat (first | (with_reducible first | exact HK.out | apply KeepBut.set_ | apply keep_drewN | apply keep_drew | apply keep_alloc) | exact HK.out)) (KeepBut.of_grown hg g) (Kd.R_base2 HO_5.out)); have n3_ := Aside0.mk (ho); clear HI0; clear HB; clear HK; clear HO_5; have HI0 := n0_; have HB := n1_; have HK := n2_; have HO325 := n3_; clear n0_ n1_ n2_ n3_; clear ho hb hg hat))
            go_roundg k1
            case measure => have := HK1.out; omega
            case rel => exact ⟨(wrap64 (x1_1 - 1)), (y323), (x6_1), (t318), (t319), (by first | rfl | (simp; done) | (simp [*]; done)), (by first | rfl | (simp; done) | (simp [*]; done)), H', ⟨by have := HK1.out; omega⟩, ⟨by (with_reducible repeat (first | apply Kd.R_alloc | apply Kd.R_drewN | apply Kd.R_drew)); exact HO325.out⟩, ⟨by repeat (first | (with_reducible first | exact HI0.out | apply IsS75.alloc | apply IsS75.drewN | apply IsS75.drew | apply IsS75.set_1 | apply IsS75.set_2) | exact HI0.out)⟩, ⟨by repeat (first | (with_reducible first | exact HK.out | apply KeepBut.set_ | apply keep_drewN | apply keep_drew | apply keep_alloc) | exact HK.out)⟩, ⟨by repeat (first | (with_reducible first | exact HB.out | apply below_alloc | apply pw_below_drewN | apply below_drew1 | refine below_set ?_ (IsS75.ge HI0.out)) | exact HB.out)⟩⟩
          · rw [if_neg c13] at H
            exact absurd H (by simp)
      · rw [if_neg c7] at H
        have c7b0 : decide (0 < x1_1) = false := decide_eq_false c7
        clear c7
        simp only [Option.some.injEq, Prod.mk.injEq] at H
        obtain ⟨rfl, rfl, rfl⟩ := H
        have hcv16 := own_string (P := Tryd.prog) Tryd.underlying40 Tryd.underlying5 Tryd.underlying9 (Kd.own_of_R HO_5.out)
        go_wp2
        go_ret
        exact ⟨by first | rfl | (simp [errW_none, errW_some] <;> rfl) | (simp [*, errW_none, errW_some] <;> rfl), by repeat (first | (with_reducible first | exact HI0.out | apply IsS75.alloc | apply IsS75.drewN | apply IsS75.drew | apply IsS75.set_1 | apply IsS75.set_2) | exact HI0.out), by repeat (first | (with_reducible first | exact HB.out | apply below_alloc | apply pw_below_drewN | apply below_drew1 | refine below_set ?_ (IsS75.ge HI0.out)) | exact HB.out), by repeat (first | (with_reducible first | exact HK.out | apply KeepBut.set_ | apply keep_drewN | apply keep_drew | apply keep_alloc) | exact HK.out)⟩

end Go.Proofs.YtjpjlobpglmoiaaDoor.A
/- The openings of the arguments' types, and what is left to prove of each law, about numbers and lists alone. Written by this session's row2.py. No conditions. -/
namespace Go.Proofs.YtjpjlobpglmoiaaDoor.A
open Go.RowKit Go.Proofs.YtjpjlobpglmoiaaDoorW.PrintWords Go.Proofs.YtjpjlobpglmoiaaDoorW.PrintLast Go.Proofs.YtjpjlobpglmoiaaDoor.O
set_option linter.unusedVariables false
def Wf_str (x : ByteArray) : Prop := x.size ≤ maxLen
def Wf_L9 (x : List ByteArray) : Prop := x.length ≤ maxLen ∧ ∀ y ∈ x, Wf_str y
def Wf_T24 (x : S24) : Prop := Wf_L9 x.f0 ∧ Wf_L9 x.f1
def Wf_u8 (x : Int) : Prop := (Lit.int .u8 x).wf = true
def Wf_L5 (x : List Int) : Prop := x.length ≤ maxLen ∧ ∀ y ∈ x, Wf_u8 y
def Wf_i64 (x : Int) : Prop := (Lit.int .i64 x).wf = true
theorem open_T24 (W : World) : Opens Tryd.prog W 24 k24 (fun x : S24 => Wf_T24 x) :=
  Opens.mono (Opens.struct (fun a => (⟨a.1, a.2⟩ : S24)) (fun _ => rfl) Tryd.underlying24 (by kernel_rfl) (OpensF.cons rfl (by kernel_rfl) (haveI : Inhabited (ByteArray) := ⟨(⟨#[]⟩ : ByteArray)⟩; Opens.slice Tryd.underlying22 (by kernel_rfl) (Opens.mono (Opens.string Tryd.underlying9) (fun _ h => h))) (OpensF.one rfl (by kernel_rfl) (haveI : Inhabited (ByteArray) := ⟨(⟨#[]⟩ : ByteArray)⟩; Opens.slice Tryd.underlying22 (by kernel_rfl) (Opens.mono (Opens.string Tryd.underlying9) (fun _ h => h)))))) (fun x h => h)
end Go.Proofs.YtjpjlobpglmoiaaDoor.A
/- The reference's search for a name in a scope. No conditions. -/
namespace Go.Proofs.YtjpjlobpglmoiaaDoor.A
open Go.RowKit Go.Proofs.YtjpjlobpglmoiaaDoorW.PrintWords Go.Proofs.YtjpjlobpglmoiaaDoorW.PrintLast Go.Proofs.YtjpjlobpglmoiaaDoorW.PrintMore
set_option linter.unusedVariables false
set_option linter.unusedSimpArgs false
/-- The index of a name from i on, or -1. -/
def findI : List ByteArray → ByteArray → Nat → Int
  | [], _, _ => -1
  | x :: l, s, i => if x.toList = s.toList then (i : Int) else findI l s (i + 1)
set_option maxHeartbeats 3200000 in
set_option maxRecDepth 100000 in
theorem findI.calls (g : Nat) (A0 A1 : Option Addr) (c0 c1 : Nat) (l0 l1 : List ByteArray) (s : ByteArray) (w : World) (hb : w.heap[g]? = some (.cells #[.slice A0 l0.length c0, .slice A1 l1.length c1] 27 (0, 0))) (hr0 : Kd.C Kd.string w A0 l0.length l0) :
    Calls Tryd.prog 79 #[.pointer (some ⟨g, 0, none⟩), .string s] w fun e w' => e = .returned (.int .i64 (findI l0 s 0)) ∧ Drawn0 w w' := by
  obtain ⟨R, hR⟩ : ∃ R, findI l0 s 0 = R := ⟨_, rfl⟩
  rw [hR]
  have HB := Aside0.mk hb
  have HR0 := Aside0.mk hr0
  have HF := Aside0.mk hR
  have hlen := Kd.C_max hr0
  clear hb hr0 hR
  go_enter Tryd.func79, Tryd.ntmps79
  go_wp2
  go_loopw [5] (fun v5 wr => ∃ k : Nat, k ≤ l0.length ∧ v5 = .int .i64 (k : Int) ∧ Aside0 (findI (l0.drop k) s k = R) ∧ Aside0 (Drawn0 w wr)) (fun v5 _ => l0.length - (intOf v5).toNat)
  case atStart => exact ⟨0, Nat.zero_le _, rfl, HF, ⟨⟨0, rfl⟩⟩⟩
  case round =>
    obtain ⟨k, hk, rfl, HA, HD⟩ := hrel
    have hbr := HB.out
    have z0 : wr.cell? ⟨g, 0, none⟩ = some (.slice A0 l0.length c0) := by obtain ⟨m, rfl⟩ := HD.out; exact (blk_cell hbr 0).trans rfl
    clear hbr
    by_cases hlt : k < l0.length
    · obtain ⟨ad, rfl, hx0⟩ := Kd.at_string HR0.out (k : Int) (by omega) (by omega)
      rw [Int.toNat_natCast] at hx0
      have hn : (rdOf ByteArray.empty l0 (k : Int)) = l0[k]'hlt := by simp [rdOf, hlt]
      obtain ⟨nm, hnm⟩ : ∃ nm, l0[k]'hlt = nm := ⟨_, rfl⟩
      rw [hn, hnm] at hx0
      have hD := HD.out
      replace hx0 : wr.cell? (ad.add k) = some (.string nm) := by obtain ⟨m, rfl⟩ := hD; exact hx0
      have i0 : (0 : Int) ≤ (k : Int) := by omega
      have i1 : (k : Int) < (l0.length : Int) := by omega
      have hA := HA.out
      rw [List.drop_eq_getElem_cons hlt, hnm] at hA
      simp only [findI] at hA
      clear hD hn hnm HA
      by_cases e : nm.toList = s.toList
      · rw [if_pos e] at hA
        have HA := Aside0.mk hA
        have eb : (nm.toList == s.toList) = true := beq_iff_eq.2 e
        clear hA e
        go_wp2
        go_ret
        exact ⟨by rw [← HA.out]; rfl, HD.out⟩
      · rw [if_neg e] at hA
        have HA := Aside0.mk hA
        have eb : (nm.toList == s.toList) = false := beq_eq_false_iff_ne.2 e
        clear hA e
        go_wp2
        exact ⟨⟨k + 1, by omega, by go_num, HA, HD⟩, by simp [intOf]; omega⟩
    · have hA := HA.out
      rw [List.drop_of_length_le (by omega)] at hA
      simp only [findI] at hA
      have HA := Aside0.mk hA
      clear hA
      go_wp2
      go_ret
      exact ⟨by rw [← HA.out]; rfl, HD.out⟩
end Go.Proofs.YtjpjlobpglmoiaaDoor.A
/- The reference's setting of a wave in a scope. No conditions. -/
namespace Go.Proofs.YtjpjlobpglmoiaaDoor.A
open Go.RowKit Go.Proofs.YtjpjlobpglmoiaaDoorW.PrintWords Go.Proofs.YtjpjlobpglmoiaaDoorW.PrintLast Go.Proofs.YtjpjlobpglmoiaaDoorW.PrintMore
set_option linter.unusedVariables false
set_option linter.unusedSimpArgs false
theorem drawn_trans {a b c : World} (h : Drawn0 a b) (k : Drawn0 b c) : Drawn0 a c := by obtain ⟨m, rfl⟩ := k; exact h.step m
/-- A scope in memory, with lists of its own. -/
structure SC (b g : Nat) (N V : List ByteArray) (w : World) : Prop where
  ex : ∃ v0 v1 : Value, w.heap[g]? = some (.cells #[v0, v1] 27 (0, 0)) ∧ Kd.R Kd.string 9 w b (fun k => some k = v0.ownBlock) v0 N ∧ Kd.R Kd.string 9 w b (fun k => some k = v1.ownBlock) v1 V ∧ (∀ k, v0.ownBlock = some k → v1.ownBlock ≠ some k)
  low : b ≤ g
/-- Blocks that are no texts' rows stay, but one. -/
structure KT (g : Nat) (w w' : World) : Prop where
  size : w.heap.size ≤ w'.heap.size
  block : ∀ i cells t, w.heap[i]? = some (.cells cells t (0, 0)) → t ≠ 9 → i ≠ g → w'.heap[i]? = w.heap[i]?
theorem KT.refl (g : Nat) (w : World) : KT g w w := ⟨Nat.le_refl _, fun _ _ _ _ _ _ => rfl⟩
theorem KT.trans {g : Nat} {a b c : World} (h : KT g a b) (k : KT g b c) : KT g a c := ⟨Nat.le_trans h.size k.size, fun i cells t hi ht hg => by
  have e := h.block i cells t hi ht hg
  exact (k.block i cells t (e.trans hi) ht hg).trans e⟩
theorem KT.below {g : Nat} {a b : World} (h : Below a.heap.size a b) : KT g a b := ⟨h.size, fun i cells t hi _ _ => h.block i (blk_lt hi)⟩
theorem KT.set {g : Nat} {a : World} (j : Nat) (u : Value) : KT g a (a.setCell ⟨g, j, none⟩ u) := ⟨by simp [World.setCell], fun i cells t hi ht hg => Below.heap_setCell a ⟨g, j, none⟩ u i hg⟩
theorem KT.grown {g : Nat} {a b : World} {v : Value} {base : Nat} {ok : Nat → Prop} {xs : List ByteArray} (hR : Kd.R Kd.string 9 a base ok v xs) (h : a.grownBy b v.ownBlock) : KT g a b := ⟨h.size, fun i cells t hi ht hg => h.block i (blk_lt hi) (fun e => by
  obtain ⟨c, hc⟩ := Kd.R_typed hR i e.symm
  rw [hi] at hc
  injection hc with hc
  injection hc with _ h2
  exact ht h2)⟩
theorem R_own_ne {w : World} {base : Nat} {ok : Nat → Prop} {v : Value} {xs : List ByteArray} {g : Nat} {cells : Array Value} {t : Nat} (hR : Kd.R Kd.string 9 w base ok v xs) (hg : w.heap[g]? = some (.cells cells t (0, 0))) (ht : t ≠ 9) : ∀ k, some k = v.ownBlock → k ≠ g := fun k e e2 => by
  subst e2
  obtain ⟨c, hc⟩ := Kd.R_typed hR k e.symm
  rw [hg] at hc
  injection hc with hc
  injection hc with _ h2
  exact ht h2
/-- Whatever keeps rows of texts and the scope's block keeps the scope. -/
theorem SC.keep {b g gs : Nat} {N V : List ByteArray} {w w' : World} {cells : Array Value} {t : Nat} (h : SC b g N V w) (hk : KeepBut w w' gs none) (hs : w.heap[gs]? = some (.cells cells t (0, 0))) (ht : t ≠ 9) (hg : g ≠ gs) : SC b g N V w' := by
  obtain ⟨v0, v1, hb, h0, h1, h2⟩ := h.ex
  exact ⟨⟨v0, v1, (hk.2 g (blk_lt hb) hg (by simp)).trans hb, Kd.R_step h0 (fun k e hlt => hk.2 k hlt (R_own_ne h0 hs ht k e) (by simp)), Kd.R_step h1 (fun k e hlt => hk.2 k hlt (R_own_ne h1 hs ht k e) (by simp)), h2⟩, h.low⟩
theorem SC.below {b g : Nat} {N V : List ByteArray} {w w' : World} (h : SC b g N V w) (hk : Below w.heap.size w w') : SC b g N V w' := by
  obtain ⟨v0, v1, hb, h0, h1, h2⟩ := h.ex
  exact ⟨⟨v0, v1, (hk.block g (blk_lt hb)).trans hb, Kd.R_below h0 hk, Kd.R_below h1 hk, h2⟩, h.low⟩
/-- The place of a name among those that are less. -/
def posI : List ByteArray → ByteArray → Nat
  | [], _ => 0
  | x :: l, s => if Op.bytesLess x.toList s.toList = true then posI l s + 1 else 0
def noB : ByteArray := ⟨#[110, 111]⟩
def okB : ByteArray := ⟨#[111, 107]⟩
def setF (N V : List ByteArray) (name wave : ByteArray) : List ByteArray × List ByteArray × ByteArray :=
  if waveB wave = false then (N, V, noB)
  else if 0 ≤ findI N name 0 then (N, V.set (findI N name 0).toNat wave, okB)
  else if nameB name = false ∨ 6 ≤ N.length then (N, V, noB)
  else (N.take (posI N name) ++ [name] ++ N.drop (posI N name), V.take (posI N name) ++ [wave] ++ V.drop (posI N name), okB)
theorem findI_lt : ∀ (l : List ByteArray) (s : ByteArray) (i : Nat), 0 ≤ findI l s i → findI l s i < i + l.length
  | [], s, i, h => by simp [findI] at h
  | x :: l, s, i, h => by
    simp only [findI] at h ⊢
    by_cases e : x.toList = s.toList
    · rw [if_pos e] at h ⊢; simp only [List.length_cons]; omega
    · rw [if_neg e] at h ⊢
      have := findI_lt l s (i + 1) h
      simp only [List.length_cons]; omega
theorem posI_le : ∀ (l : List ByteArray) (s : ByteArray), posI l s ≤ l.length
  | [], s => Nat.le_refl _
  | x :: l, s => by
    simp only [posI]
    have := posI_le l s
    split <;> simp only [List.length_cons] <;> omega
abbrev Rw := Value × List ByteArray
/-- Rows of texts of one's own, none of which is another one, beside a scope's block. -/
structure St (b : Nat) (w : World) (g : Nat) (cs : Array Value) (L : List Rw) (W : World) : Prop where
  bel : Below b w W
  lo : b ≤ w.heap.size ∧ KT g w W
  blk : W.heap[g]? = some (.cells cs 27 (0, 0))
  rows : ∀ p ∈ L, Kd.R Kd.string 9 W b (fun k => some k = p.1.ownBlock) p.1 p.2
  dis : L.Pairwise (fun p q => ∀ k, p.1.ownBlock = some k → q.1.ownBlock ≠ some k)
/-- Blocks that are none of these rows. -/
def okS (L : List Rw) (k : Nat) : Prop := ∀ p ∈ L, some k ≠ p.1.ownBlock
theorem St.base {b : Nat} {w : World} {g : Nat} {cs : Array Value} {L : List Rw} {W : World} (h : St b w g cs L W) : b ≤ W.heap.size := Nat.le_trans h.lo.1 h.bel.size
theorem St.perm {b : Nat} {w : World} {g : Nat} {cs : Array Value} {L L' : List Rw} {W : World} (h : St b w g cs L W) (hp : L.Perm L') : St b w g cs L' W :=
  ⟨h.bel, h.lo, h.blk, fun p hm => h.rows p (hp.mem_iff.2 hm), (hp.pairwise_iff (fun {x y} hxy k e1 e2 => hxy k e2 e1)).1 h.dis⟩
theorem St.fresh {b : Nat} {w : World} {g : Nat} {cs : Array Value} {L : List Rw} {W : World} (h : St b w g cs L W) : ∀ k, W.heap.size ≤ k → okS L k := fun k hk p hm e => by
  have := Kd.R_lt (h.rows p hm) k e.symm
  omega
theorem St.tail {b : Nat} {w : World} {g : Nat} {cs : Array Value} {p : Rw} {L : List Rw} {W : World} (h : St b w g cs (p :: L) W) : St b w g cs L W := ⟨h.bel, h.lo, h.blk, fun q hm => h.rows q (List.mem_cons_of_mem _ hm), (List.pairwise_cons.1 h.dis).2⟩
theorem St.head {b : Nat} {w : World} {g : Nat} {cs : Array Value} {v : Value} {xs : List ByteArray} {L : List Rw} {W : World} (h : St b w g cs ((v, xs) :: L) W) : Kd.R Kd.string 9 W b (okS L) v xs :=
  Kd.R_mono (h.rows _ (List.mem_cons_self ..)) (fun k e p hm e2 => (List.pairwise_cons.1 h.dis).1 p hm k e.symm e2.symm)
theorem St.below {b : Nat} {w : World} {g : Nat} {cs : Array Value} {L : List Rw} {W W' : World} (h : St b w g cs L W) (hb : Below W.heap.size W W') : St b w g cs L W' :=
  ⟨h.bel.trans (hb.mono (Nat.le_trans h.lo.1 h.bel.size)), ⟨h.lo.1, h.lo.2.trans (KT.below hb)⟩, (hb.block g (blk_lt h.blk)).trans h.blk, fun p hm => Kd.R_below (h.rows p hm) hb, h.dis⟩
theorem St.lit {b : Nat} {w : World} {g : Nat} {cs : Array Value} {L : List Rw} {W w1 : World} {v1 : Value} {ys : List ByteArray} (h : St b w g cs L W) (hR : Kd.R Kd.string 9 w1 b (okS L) v1 ys) (hB : Below b w w1) (hg : W.grownBy w1 none) : St b w g cs ((v1, ys) :: L) w1 :=
  ⟨hB, ⟨h.lo.1, h.lo.2.trans ⟨hg.size, fun i cells t hi _ _ => hg.block i (blk_lt hi) (by simp)⟩⟩, blk_grown h.blk hg (by simp), fun p hm => by
    rcases List.mem_cons.1 hm with rfl | hm
    · exact Kd.R_tight rfl hR
    · exact Kd.R_grown (h.rows p hm) hg (fun _ _ => by simp),
   List.pairwise_cons.2 ⟨fun p hm k e e2 => hR.1 k e p hm e2.symm, h.dis⟩⟩
theorem St.grow {b : Nat} {w : World} {g : Nat} {cs : Array Value} {L : List Rw} {W w1 : World} {v v1 : Value} {xs ys : List ByteArray} (h : St b w g cs ((v, xs) :: L) W) (hR : Kd.R Kd.string 9 w1 b (okS L) v1 ys) (hB : Below b w w1) (hg : W.grownBy w1 v.ownBlock) : St b w g cs ((v1, ys) :: L) w1 :=
  ⟨hB, ⟨h.lo.1, h.lo.2.trans (KT.grown (h.rows _ (List.mem_cons_self ..)) hg)⟩, blk_grown h.blk hg (fun e => R_own_ne (h.rows _ (List.mem_cons_self ..)) h.blk (by decide) g e rfl), fun p hm => by
    rcases List.mem_cons.1 hm with rfl | hm
    · exact Kd.R_tight rfl hR
    · exact Kd.R_grown (h.rows p (List.mem_cons_of_mem _ hm)) hg (fun k e e2 => (List.pairwise_cons.1 h.dis).1 p hm k e2.symm e.symm),
   List.pairwise_cons.2 ⟨fun p hm k e e2 => hR.1 k e p hm e2.symm, (List.pairwise_cons.1 h.dis).2⟩⟩
theorem St.two {b : Nat} {w : World} {g : Nat} {cs : Array Value} {v0 v1 : Value} {N V : List ByteArray} (hB : b ≤ w.heap.size) (hb : w.heap[g]? = some (.cells cs 27 (0, 0))) (h0 : Kd.R Kd.string 9 w b (fun k => some k = v0.ownBlock) v0 N) (h1 : Kd.R Kd.string 9 w b (fun k => some k = v1.ownBlock) v1 V) (hd : ∀ k, v0.ownBlock = some k → v1.ownBlock ≠ some k) : St b w g cs [(v0, N), (v1, V)] w :=
  ⟨⟨rfl, rfl, rfl, Nat.le_refl _, fun _ _ => rfl⟩, ⟨hB, KT.refl g w⟩, hb, fun p hm => by
    simp only [List.mem_cons, List.not_mem_nil, or_false] at hm
    rcases hm with rfl | rfl
    · exact h0
    · exact h1,
   List.pairwise_cons.2 ⟨fun p hm => by
    simp only [List.mem_cons, List.not_mem_nil, or_false] at hm
    subst hm
    exact hd, List.pairwise_cons.2 ⟨fun p hm => by simp at hm, List.Pairwise.nil⟩⟩⟩
theorem St.put {b : Nat} {w : World} {g : Nat} {cs : Array Value} {L : List Rw} {W : World} (h : St b w g cs L W) (hg : b ≤ g) (j : Nat) (u : Value) {cs' : Array Value} (hc : cs.setIfInBounds j u = cs') (hW : (W.setCell ⟨g, j, none⟩ u).heap[g]? = some (.cells cs' 27 (0, 0))) : St b w g cs' L (W.setCell ⟨g, j, none⟩ u) :=
  ⟨h.bel.setCell hg _, ⟨h.lo.1, h.lo.2.trans (KT.set j u)⟩, hW, fun p hm => Kd.R_step (h.rows p hm) (fun k e hk => Below.heap_setCell _ _ _ _ (R_own_ne (h.rows p hm) h.blk (by decide) k e)), h.dis⟩
set_option maxHeartbeats 3200000 in
set_option maxRecDepth 100000 in
theorem setF.calls (b g : Nat) (N V : List ByteArray) (name wave : ByteArray) (N' V' : List ByteArray) (r : ByteArray) (w : World) (hS : SC b g N V w) (hB : b ≤ w.heap.size) (hl : V.length = N.length) (hn : name.size ≤ 9223372036854775807) (hw : wave.size ≤ 9223372036854775807) (h : setF N V name wave = (N', V', r)) :
    Calls Tryd.prog 63 #[.pointer (some ⟨g, 0, none⟩), .string name, .string wave, .bool true] w fun e w' => e = .returned (.string r) ∧ SC b g N' V' w' ∧ Below b w w' ∧ KT g w w' := by
  obtain ⟨kn, hkn⟩ := name_is name hn
  obtain ⟨kw, hkw⟩ := wave_is wave hw
  have HS := Aside0.mk hS
  have HB := Aside0.mk hB
  clear hS hB hn hw
  obtain ⟨v0, v1, hb, h0, h1, h2⟩ := HS.out.ex
  obtain ⟨A0, c0, rfl, hc0, hC0⟩ := Kd.R_reads h0
  obtain ⟨A1, c1, rfl, hc1, hC1⟩ := Kd.R_reads h1
  have hlen := Kd.C_max hC0
  have HBK := Aside0.mk hb
  have HR0 := Aside0.mk h0
  have HR1 := Aside0.mk h1
  have HC0 := Aside0.mk hC0
  have HD := Aside0.mk h2
  clear hb h0 h1 h2 hC0 hC1
  unfold setF at h
  cases e1 : waveB wave with
  | false =>
    rw [if_pos e1] at h
    simp only [Prod.mk.injEq] at h
    obtain ⟨rfl, rfl, rfl⟩ := h
    rw [e1] at hkw
    have HW := Aside0.mk hkw
    clear e1 hkw hkn
    go_enter Tryd.func63, Tryd.ntmps63
    go_wp2_with (first
      | (go_at_call 49; refine (spec_l01Wave.calls kw wave false _ HW.out).mono ?_; rintro e wa ⟨rfl, hd⟩; have HDA := Aside0.mk (below_drawn (Below.refl w.heap.size w) hd); clear hd))
    go_ret
    exact ⟨rfl, HS.out.below HDA.out, HDA.out.mono HB.out, KT.below HDA.out⟩
  | true =>
    rw [e1] at h hkw
    simp only [Bool.true_eq_false, if_false] at h
    have HW := Aside0.mk hkw
    clear e1 hkw
    obtain ⟨K, hK⟩ : ∃ K, findI N name 0 = K := ⟨_, rfl⟩
    have hKlt := findI_lt N name 0
    rw [hK] at h hKlt
    have HK := Aside0.mk hK
    clear hK
    by_cases e2 : 0 ≤ K
    · rw [if_pos e2] at h
      simp only [Prod.mk.injEq] at h
      obtain ⟨rfl, rfl, rfl⟩ := h
      have hKl := hKlt e2
      have e2b : decide (0 ≤ K) = true := decide_eq_true e2
      have hKv : K < (V.length : Int) := by omega
      obtain ⟨g1, p1, ev1, -, -, -⟩ := Kd.R_form HR1.out (by omega)
      injection ev1 with ev1 ev2 ev3
      subst ev1
      subst ev3
      have HZ1 := Aside0.mk ((blk_cell HBK.out 1).trans rfl : w.cell? ⟨g, 1, none⟩ = some (.slice (some ⟨g1, 0, none⟩) V.length c1))
      have HF1 := Aside0.mk (Kd.R_celln ByteArray.empty HR1.out K e2 hKv)
      clear hkn ev2
      go_enter Tryd.func63, Tryd.ntmps63
      go_wp2_with (first
        | (go_at_call 49; refine (spec_l01Wave.calls kw wave true _ HW.out).mono ?_; rintro e wa ⟨rfl, hd⟩; have HDA := Aside0.mk hd; clear hd)
        | (go_at_call 79; go_loud ((with_reducible refine (findI.calls g A0 (some ⟨g1, 0, none⟩) c0 c1 N V name wa ?hb ?hr).mono ?_); (case hb => have h_ := HBK.out; obtain ⟨m_, rfl⟩ := HDA.out; exact h_); (case hr => obtain ⟨m_, rfl⟩ := HDA.out; exact Kd.C_drewN HC0.out m_); rintro e wb ⟨rfl, hd⟩; have HDB := Aside0.mk (drawn_trans HDA.out hd); clear hd; rw [HK.out]; have z1 : wb.cell? ⟨g, 1, none⟩ = some (.slice (some ⟨g1, 0, none⟩) V.length c1) := (by obtain ⟨m_, rfl⟩ := HDB.out; exact HZ1.out); have f1 : wb.frozen? ⟨g1, K.toNat, none⟩ = false := (by obtain ⟨m_, rfl⟩ := HDB.out; exact HF1.out.2); have f2 : wb.cell? ⟨g1, K.toNat, none⟩ = some (.string (rdOf ByteArray.empty V K)) := (by obtain ⟨m_, rfl⟩ := HDB.out; exact HF1.out.1))))
      go_ret
      have hg1 : g ≠ g1 := fun e => R_own_ne HR1.out HBK.out (by decide) g1 (by simp [Value.ownBlock]) e.symm
      have HBW := below_drawn (Below.refl w.heap.size w) HDB.out
      have hBb := HBW.mono HB.out
      have hs := (HS.out.below HBW)
      have hR1 := Kd.R_below HR1.out HBW
      have hR0 := Kd.R_below HR0.out HBW
      have hP := Kd.R_putg hR1 K wave
      refine ⟨rfl, ⟨⟨_, _, (blk_far ((HBW.block g (blk_lt HBK.out)).trans HBK.out) hg1 _), ?_, ?_, HD.out⟩, HS.out.low⟩, ?_, (KT.below HBW).trans (KT.grown (v := .slice (some ⟨g1, 0, none⟩) V.length c1) hR1 hP.2)⟩
      · exact Kd.R_step hR0 (fun k e hk => Below.heap_setCell _ _ _ _ (fun e2 => HD.out k e.symm (by rw [e2]; simp [Value.ownBlock])))
      · exact hP.1
      · exact hBb.setCell (Kd.R_base hR1 g1 (by simp [Value.ownBlock])) _
    · rw [if_neg e2] at h
      have e2b : decide (0 ≤ K) = false := decide_eq_false e2
      clear hKlt
      cases e3 : nameB name with
      | false =>
        rw [if_pos (.inl e3)] at h
        simp only [Prod.mk.injEq] at h
        obtain ⟨rfl, rfl, rfl⟩ := h
        rw [e3] at hkn
        have HN := Aside0.mk hkn
        clear hkn e3
        go_enter Tryd.func63, Tryd.ntmps63
        go_wp2_with (first
        | (go_at_call 49; refine (spec_l01Wave.calls kw wave true _ HW.out).mono ?_; rintro e wa ⟨rfl, hd⟩; have HDA := Aside0.mk hd; clear hd)
        | (go_at_call 79; (with_reducible refine (findI.calls g A0 A1 c0 c1 N V name wa ?hb ?hr).mono ?_); (case hb => have h_ := HBK.out; obtain ⟨m_, rfl⟩ := HDA.out; exact h_); (case hr => obtain ⟨m_, rfl⟩ := HDA.out; exact Kd.C_drewN HC0.out m_); rintro e wb ⟨rfl, hd⟩; have HDB := Aside0.mk (drawn_trans HDA.out hd); clear hd; rw [HK.out])
        | (go_at_call 48; refine (spec_IsName.calls kn name false _ HN.out).mono ?_; rintro e wc ⟨rfl, hd⟩; have HDC := Aside0.mk (drawn_trans HDB.out hd); clear hd; have z0 : wc.cell? ⟨g, 0, none⟩ = some (.slice A0 N.length c0) := (by have h_ := HBK.out; obtain ⟨m_, rfl⟩ := HDC.out; exact (blk_cell h_ 0).trans rfl)))
        go_ret
        have HBW := below_drawn (Below.refl w.heap.size w) HDC.out
        exact ⟨rfl, HS.out.below HBW, HBW.mono HB.out, KT.below HBW⟩
      | true =>
        rw [e3] at hkn h
        have HN := Aside0.mk hkn
        clear hkn e3
        by_cases e4 : 6 ≤ N.length
        · rw [if_pos (.inr e4)] at h
          simp only [Prod.mk.injEq] at h
          obtain ⟨rfl, rfl, rfl⟩ := h
          have e4b : decide ((6 : Int) ≤ (N.length : Int)) = true := decide_eq_true (by omega)
          have e4c : decide (6 ≤ N.length) = true := decide_eq_true e4
          go_enter Tryd.func63, Tryd.ntmps63
          go_wp2_with (first
        | (go_at_call 49; refine (spec_l01Wave.calls kw wave true _ HW.out).mono ?_; rintro e wa ⟨rfl, hd⟩; have HDA := Aside0.mk hd; clear hd)
        | (go_at_call 79; (with_reducible refine (findI.calls g A0 A1 c0 c1 N V name wa ?hb ?hr).mono ?_); (case hb => have h_ := HBK.out; obtain ⟨m_, rfl⟩ := HDA.out; exact h_); (case hr => obtain ⟨m_, rfl⟩ := HDA.out; exact Kd.C_drewN HC0.out m_); rintro e wb ⟨rfl, hd⟩; have HDB := Aside0.mk (drawn_trans HDA.out hd); clear hd; rw [HK.out])
        | (go_at_call 48; refine (spec_IsName.calls kn name true _ HN.out).mono ?_; rintro e wc ⟨rfl, hd⟩; have HDC := Aside0.mk (drawn_trans HDB.out hd); clear hd; have z0 : wc.cell? ⟨g, 0, none⟩ = some (.slice A0 N.length c0) := (by have h_ := HBK.out; obtain ⟨m_, rfl⟩ := HDC.out; exact (blk_cell h_ 0).trans rfl)))
          go_ret
          have HBW := below_drawn (Below.refl w.heap.size w) HDC.out
          exact ⟨rfl, HS.out.below HBW, HBW.mono HB.out, KT.below HBW⟩
        · rw [if_neg (fun z => z.elim (by simp) e4)] at h
          have e4b : decide ((6 : Int) ≤ (N.length : Int)) = false := decide_eq_false (by omega)
          have e4c : decide (6 ≤ N.length) = false := decide_eq_false e4
          obtain ⟨P, hP⟩ : ∃ P, posI N name = P := ⟨_, rfl⟩
          have hPl := posI_le N name
          rw [hP] at h hPl
          have HP := Aside0.mk hP
          have H := Aside0.mk h
          clear h hP
          go_enter Tryd.func63, Tryd.ntmps63
          go_wp2_with (first
        | (go_at_call 49; refine (spec_l01Wave.calls kw wave true _ HW.out).mono ?_; rintro e wa ⟨rfl, hd⟩; have HDA := Aside0.mk hd; clear hd)
        | (go_at_call 79; (with_reducible refine (findI.calls g A0 A1 c0 c1 N V name wa ?hb ?hr).mono ?_); (case hb => have h_ := HBK.out; obtain ⟨m_, rfl⟩ := HDA.out; exact h_); (case hr => obtain ⟨m_, rfl⟩ := HDA.out; exact Kd.C_drewN HC0.out m_); rintro e wb ⟨rfl, hd⟩; have HDB := Aside0.mk (drawn_trans HDA.out hd); clear hd; rw [HK.out])
        | (go_at_call 48; refine (spec_IsName.calls kn name true _ HN.out).mono ?_; rintro e wc ⟨rfl, hd⟩; have HDC := Aside0.mk (drawn_trans HDB.out hd); clear hd; have z0 : wc.cell? ⟨g, 0, none⟩ = some (.slice A0 N.length c0) := (by have h_ := HBK.out; obtain ⟨m_, rfl⟩ := HDC.out; exact (blk_cell h_ 0).trans rfl)))
          clear z0
          go_loopw [10] (fun v10 wr => ∃ k : Nat, k ≤ N.length ∧ v10 = .int .i64 (k : Int) ∧ Aside0 (k + posI (N.drop k) name = P) ∧ Aside0 (Drawn0 w wr)) (fun v10 _ => N.length - (intOf v10).toNat)
          case atStart => exact ⟨0, Nat.zero_le _, rfl, ⟨by rw [Nat.zero_add]; exact HP.out⟩, HDC⟩
          case round =>
            obtain ⟨k, hk, rfl, HA, HW2⟩ := hrel
            have z0 : wr.cell? ⟨g, 0, none⟩ = some (.slice A0 N.length c0) := by have h_ := HBK.out; obtain ⟨m_, rfl⟩ := HW2.out; exact (blk_cell h_ 0).trans rfl
            by_cases hlt : k < N.length
            · have hb1 : decide ((k : Int) < (N.length : Int)) = true := decide_eq_true (by omega)
              obtain ⟨ad, rfl, hx0⟩ := Kd.at_string HC0.out (k : Int) (by omega) (by omega)
              rw [Int.toNat_natCast] at hx0
              have hn : (rdOf ByteArray.empty N (k : Int)) = N[k]'hlt := by simp [rdOf, hlt]
              obtain ⟨nm, hnm⟩ : ∃ nm, N[k]'hlt = nm := ⟨_, rfl⟩
              rw [hn, hnm] at hx0
              replace hx0 : wr.cell? (ad.add k) = some (.string nm) := by obtain ⟨m, rfl⟩ := HW2.out; exact hx0
              have i0 : (0 : Int) ≤ (k : Int) := by omega
              have i1 : (k : Int) < (N.length : Int) := by omega
              have hA := HA.out
              rw [List.drop_eq_getElem_cons hlt, hnm] at hA
              simp only [posI] at hA
              clear hn hnm HA
              cases el : Op.bytesLess nm.toList name.toList with
              | true =>
                rw [el] at hA
                simp only [if_true] at hA
                have HA := Aside0.mk (show k + 1 + posI (N.drop (k + 1)) name = P by omega)
                clear hA
                go_wp2
                exact ⟨⟨k + 1, by omega, by go_num, HA, HW2⟩, by simp [intOf]; omega⟩
              | false =>
                rw [el] at hA
                simp only [Bool.false_eq_true, if_false, Nat.add_zero] at hA
                subst hA
                have HL := Aside0.mk hl
                have S0 := Aside0.mk ((St.two HB.out HBK.out HR0.out HR1.out HD.out).below (below_drawn (Below.refl w.heap.size w) HW2.out))
                obtain ⟨i09, hi09, _, hsz9, _⟩ := info_parts info9
                have k0 : (0 : Int) ≤ (k : Int) := by omega
                have k1 : (k : Int) ≤ (N.length : Int) := by omega
                have k2 : (k : Int) ≤ (V.length : Int) := by omega
                have hcut1 := cut_to (P := Tryd.prog) 22 9 .i64 Tryd.underlying22 hi09 (some ad) N.length c0 (k : Int) k0 k1 hc0
                have hcut2 := cut_to (P := Tryd.prog) 22 9 .i64 Tryd.underlying22 hi09 A1 V.length c1 (k : Int) k0 k2 hc1
                have hcut3 := cut_from (P := Tryd.prog) 22 9 .i64 Tryd.underlying22 hi09 1 hsz9 (some ad) N.length c0 (k : Int) k0 k1
                have hcut4 := cut_from (P := Tryd.prog) 22 9 .i64 Tryd.underlying22 hi09 1 hsz9 A1 V.length c1 (k : Int) k0 k2
                rw [Int.toNat_natCast] at hcut1 hcut2 hcut3 hcut4
                have KV := Aside0.mk (show k ≤ V.length by omega)
                have KN := Aside0.mk (show N.length < 6 by omega)
                have KM := Aside0.mk hk
                clear hl hi09 hsz9 e4 hPl
                obtain ⟨AN, hAN⟩ : ∃ AN, (if c0 = k then (some ad) else (some ad).map (·.add (k * 1))) = AN := ⟨_, rfl⟩
                obtain ⟨AV, hAV⟩ : ∃ AV, (if c1 = k then A1 else A1.map (·.add (k * 1))) = AV := ⟨_, rfl⟩
                rw [hAN] at hcut3
                rw [hAV] at hcut4
                have HAN := Aside0.mk hAN
                have HAV := Aside0.mk hAV
                have HC0' := Aside0.mk hc0
                have HC1' := Aside0.mk hc1
                clear hAN hAV hc0 hc1
                have z0 : wr.cell? ⟨g, 0, none⟩ = some (.slice (some ad) N.length c0) := (blk_cell S0.out.blk 0).trans rfl
                go_wp2_with (first
                  | ((with_reducible refine gate_dst (N := 63) rfl ?_); refine Kd.R_lit Kd.string b 9 ?hg (N := 63) ?hd (w0 := w) (xs := ([] : List ByteArray)) (inner := []) (ok := okS [(.slice (some ad) N.length c0, N), (.slice A1 V.length c1, V)]) (okp := fun _ => False) ?hr ?hp (fun _ hk => hk.elim) ?hf S0.out.bel S0.out.base (by simp) ?_; (case hd => rfl); (case hg => rfl); (case hr => first | (go_simp; done) | (go_simp; rfl)); (case hp => exact Reps.none _ _); (case hf => exact S0.out.fresh _ (Nat.le_refl _)); intro v63 w1 ho hb hg_ hnew_; have S1 := Aside0.mk (S0.out.lit ho hb hg_); clear ho hb hg_ hnew_; have z0 : w1.cell? ⟨g, 0, none⟩ = some (.slice (some ad) N.length c0) := (blk_cell S1.out.blk 0).trans rfl)
                  | ((with_reducible refine gate_builtin (b := .append) (xs := #[.tmp 63, .tmp 69]) rfl ?_); at_builtin; refine Kd.R_append_rows Kd.string (w0 := w) b rfl (.tmp 63) (.tmp 69) 22 9 (.string ⟨#[]⟩) 16 rfl Tryd.underlying22 info9 rfl (by decide) (by omega) v63 [] (N.take k) (some ad) k _ (okS [(.slice (some ad) N.length c0, N), (.slice A1 V.length c1, V)]) (fun _ => False) rfl rfl ?aO ?aR (fun _ _ h => h) (fun _ h => h.elim) ?aF ?aB ?aS ?aL ?_; (case aO => exact S1.out.head); (case aR => exact (show Kd.C Kd.string _ (some ad) k (N.take k) from by (have h_ := Kd.C_take (m := k) (Kd.R_reads' (S1.out.rows (.slice (some ad) N.length c0, N) (by simp))).2.2 KM.out; rw [List.length_take, Nat.min_eq_left KM.out] at h_; exact h_))); (case aF => exact S1.out.tail.fresh); (case aB => exact S1.out.bel); (case aS => exact S1.out.base); (case aL => have h1_ := KN.out; have h2_ := KM.out; have h3_ := KV.out; have h4_ := HL.out; (try simp only [List.length_nil, List.length_append, List.length_take, List.length_cons]); omega); intro v70 w2 ho hb hg_ hat_; have S2 := Aside0.mk (S1.out.grow ho hb hg_); clear ho hb hg_ hat_)
                  | ((with_reducible refine gate_builtin (b := .append) (xs := #[.tmp 70, .tmp 72]) rfl ?_); at_builtin; refine Kd.R_append Kd.string (w0 := w) b rfl (.tmp 70) (.tmp 72) 22 9 (.string ⟨#[]⟩) 16 rfl Tryd.underlying22 info9 rfl (by decide) (by omega) v70 ([] ++ N.take k) name [.string name] (okS [(.slice (some ad) N.length c0, N), (.slice A1 V.length c1, V)]) (fun _ => False) rfl rfl ?aP (fun _ hk => hk.elim) ?aF ?aO ?aB ?aS ?aL ?_; (case aP => exact rfl); (case aF => exact S2.out.tail.fresh); (case aO => exact S2.out.head); (case aB => exact S2.out.bel); (case aS => exact S2.out.base); (case aL => have h1_ := KN.out; have h2_ := KM.out; have h3_ := KV.out; have h4_ := HL.out; (try simp only [List.length_nil, List.length_append, List.length_take, List.length_cons]); omega); intro v73 w3 ho hb hg_ hat_; have S3 := Aside0.mk (S2.out.grow ho hb hg_); clear ho hb hg_ hat_; skip)
                  | ((with_reducible refine gate_dst (N := 74) rfl ?_); refine Kd.R_lit Kd.string b 9 ?hg (N := 74) ?hd (w0 := w) (xs := ([] : List ByteArray)) (inner := []) (ok := okS [(v73, ([] ++ N.take k ++ [name])), (.slice (some ad) N.length c0, N), (.slice A1 V.length c1, V)]) (okp := fun _ => False) ?hr ?hp (fun _ hk => hk.elim) ?hf S3.out.bel S3.out.base (by simp) ?_; (case hd => rfl); (case hg => rfl); (case hr => first | (go_simp; done) | (go_simp; rfl)); (case hp => exact Reps.none _ _); (case hf => exact S3.out.fresh _ (Nat.le_refl _)); intro v74 w4 ho hb hg_ hnew_; have S4 := Aside0.mk (S3.out.lit ho hb hg_); clear ho hb hg_ hnew_; have z1 : w4.cell? ⟨g, 1, none⟩ = some (.slice A1 V.length c1) := (blk_cell S4.out.blk 1).trans rfl)
                  | ((with_reducible refine gate_builtin (b := .append) (xs := #[.tmp 74, .tmp 80]) rfl ?_); at_builtin; refine Kd.R_append_rows Kd.string (w0 := w) b rfl (.tmp 74) (.tmp 80) 22 9 (.string ⟨#[]⟩) 16 rfl Tryd.underlying22 info9 rfl (by decide) (by omega) v74 [] (V.take k) A1 k _ (okS [(v73, ([] ++ N.take k ++ [name])), (.slice (some ad) N.length c0, N), (.slice A1 V.length c1, V)]) (fun _ => False) rfl rfl ?aO ?aR (fun _ _ h => h) (fun _ h => h.elim) ?aF ?aB ?aS ?aL ?_; (case aO => exact S4.out.head); (case aR => exact (show Kd.C Kd.string _ A1 k (V.take k) from by (have h_ := Kd.C_take (m := k) (Kd.R_reads' (S4.out.rows (.slice A1 V.length c1, V) (by simp))).2.2 KV.out; rw [List.length_take, Nat.min_eq_left KV.out] at h_; exact h_))); (case aF => exact S4.out.tail.fresh); (case aB => exact S4.out.bel); (case aS => exact S4.out.base); (case aL => have h1_ := KN.out; have h2_ := KM.out; have h3_ := KV.out; have h4_ := HL.out; (try simp only [List.length_nil, List.length_append, List.length_take, List.length_cons]); omega); intro v81 w5 ho hb hg_ hat_; have S5 := Aside0.mk (S4.out.grow ho hb hg_); clear ho hb hg_ hat_)
                  | ((with_reducible refine gate_builtin (b := .append) (xs := #[.tmp 81, .tmp 83]) rfl ?_); at_builtin; refine Kd.R_append Kd.string (w0 := w) b rfl (.tmp 81) (.tmp 83) 22 9 (.string ⟨#[]⟩) 16 rfl Tryd.underlying22 info9 rfl (by decide) (by omega) v81 ([] ++ V.take k) wave [.string wave] (okS [(v73, ([] ++ N.take k ++ [name])), (.slice (some ad) N.length c0, N), (.slice A1 V.length c1, V)]) (fun _ => False) rfl rfl ?aP (fun _ hk => hk.elim) ?aF ?aO ?aB ?aS ?aL ?_; (case aP => exact rfl); (case aF => exact S5.out.tail.fresh); (case aO => exact S5.out.head); (case aB => exact S5.out.bel); (case aS => exact S5.out.base); (case aL => have h1_ := KN.out; have h2_ := KM.out; have h3_ := KV.out; have h4_ := HL.out; (try simp only [List.length_nil, List.length_append, List.length_take, List.length_cons]); omega); intro v84 w6 ho hb hg_ hat_; have S6 := Aside0.mk (S5.out.grow ho hb hg_); clear ho hb hg_ hat_; have S6' := Aside0.mk (S6.out.perm (List.Perm.swap ..)); have z0 : w6.cell? ⟨g, 0, none⟩ = some (.slice (some ad) N.length c0) := (blk_cell S6.out.blk 0).trans rfl)
                  | ((with_reducible refine gate_builtin (b := .append) (xs := #[.tmp 86, .tmp 92]) rfl ?_); at_builtin; refine Kd.R_append_rows Kd.string (w0 := w) b rfl (.tmp 86) (.tmp 92) 22 9 (.string ⟨#[]⟩) 16 rfl Tryd.underlying22 info9 rfl (by decide) (by omega) v73 ([] ++ N.take k ++ [name]) (N.drop k) AN (N.length - k) _ (okS [(v84, ([] ++ V.take k ++ [wave])), (.slice (some ad) N.length c0, N), (.slice A1 V.length c1, V)]) (fun _ => False) rfl rfl ?aO ?aR (fun _ _ h => h) (fun _ h => h.elim) ?aF ?aB ?aS ?aL ?_; (case aO => exact S6'.out.head); (case aR => exact (show Kd.C Kd.string _ AN (N.length - k) (N.drop k) from by (have h_ := Kd.C_drop (m := k) (Kd.R_reads' (S6'.out.rows (.slice (some ad) N.length c0, N) (by simp))).2.2 KM.out HC0'.out; rw [List.length_drop] at h_; rw [← HAN.out]; exact h_))); (case aF => exact S6'.out.tail.fresh); (case aB => exact S6'.out.bel); (case aS => exact S6'.out.base); (case aL => have h1_ := KN.out; have h2_ := KM.out; have h3_ := KV.out; have h4_ := HL.out; (try simp only [List.length_nil, List.length_append, List.length_take, List.length_cons]); omega); intro v93 w7 ho hb hg_ hat_; have S7 := Aside0.mk (S6'.out.grow ho hb hg_); obtain ⟨A93, n93, c93, e93⟩ : ∃ A n c, v93 = .slice A n c := (by obtain ⟨A_, c_, e_, -, -⟩ := Kd.R_reads ho; exact ⟨A_, _, c_, e_⟩); clear ho hb hg_ hat_; subst e93; have z0 : w7.cell? ⟨g, 0, none⟩ = some (.slice (some ad) N.length c0) := (blk_cell S7.out.blk 0).trans rfl; have f0 := blk_frozen S7.out.blk 0; have z1 : (w7.setCell ⟨g, 0, none⟩ (.slice A93 n93 c93)).cell? ⟨g, 1, none⟩ = some (.slice A1 V.length c1) := (blk_cell (blk_put S7.out.blk 0 _ rfl) 1).trans rfl; have S8 := Aside0.mk ((S7.out.put HS.out.low 0 (.slice A93 n93 c93) rfl (blk_put S7.out.blk 0 _ rfl)).perm (List.Perm.swap ..)))
                  | ((with_reducible refine gate_builtin (b := .append) (xs := #[.tmp 97, .tmp 103]) rfl ?_); at_builtin; refine Kd.R_append_rows Kd.string (w0 := w) b rfl (.tmp 97) (.tmp 103) 22 9 (.string ⟨#[]⟩) 16 rfl Tryd.underlying22 info9 rfl (by decide) (by omega) v84 ([] ++ V.take k ++ [wave]) (V.drop k) AV (V.length - k) _ (okS [(.slice A93 n93 c93, ([] ++ N.take k ++ [name] ++ N.drop k)), (.slice (some ad) N.length c0, N), (.slice A1 V.length c1, V)]) (fun _ => False) rfl rfl ?aO ?aR (fun _ _ h => h) (fun _ h => h.elim) ?aF ?aB ?aS ?aL ?_; (case aO => exact S8.out.head); (case aR => exact (show Kd.C Kd.string _ AV (V.length - k) (V.drop k) from by (have h_ := Kd.C_drop (m := k) (Kd.R_reads' (S8.out.rows (.slice A1 V.length c1, V) (by simp))).2.2 KV.out HC1'.out; rw [List.length_drop] at h_; rw [← HAV.out]; exact h_))); (case aF => exact S8.out.tail.fresh); (case aB => exact S8.out.bel); (case aS => exact S8.out.base); (case aL => have h1_ := KN.out; have h2_ := KM.out; have h3_ := KV.out; have h4_ := HL.out; (try simp only [List.length_nil, List.length_append, List.length_take, List.length_cons]); omega); intro v104 w9 ho hb hg_ hat_; have S9 := Aside0.mk (S8.out.grow ho hb hg_); obtain ⟨A94, n94, c94, e94⟩ : ∃ A n c, v104 = .slice A n c := (by obtain ⟨A_, c_, e_, -, -⟩ := Kd.R_reads ho; exact ⟨A_, _, c_, e_⟩); clear ho hb hg_ hat_; subst e94; have z2 : w9.cell? ⟨g, 1, none⟩ = some (.slice A1 V.length c1) := (blk_cell S9.out.blk 1).trans rfl; have f1 := blk_frozen S9.out.blk 1))
                go_ret
                have SF := S9.out.put HS.out.low 1 (.slice A94 n94 c94) rfl (blk_put S9.out.blk 1 _ rfl)
                have hh := H.out
                simp only [Prod.mk.injEq] at hh
                obtain ⟨rfl, rfl, rfl⟩ := hh
                exact ⟨rfl, ⟨⟨.slice A93 n93 c93, .slice A94 n94 c94, SF.blk, SF.rows (.slice A93 n93 c93, _) (List.mem_cons_of_mem _ (List.mem_cons_self ..)), SF.rows (.slice A94 n94 c94, _) (List.mem_cons_self ..), fun k e1 e2 => (List.pairwise_cons.1 SF.dis).1 (.slice A93 n93 c93, _) (List.mem_cons_self ..) k e2 e1⟩, HS.out.low⟩, SF.bel, SF.lo.2⟩
            · have hb1 : decide ((k : Int) < (N.length : Int)) = false := decide_eq_false (by omega)
              have hA := HA.out
              rw [List.drop_of_length_le (by omega)] at hA
              simp only [posI, Nat.add_zero] at hA
              subst hA
              have HL := Aside0.mk hl
              have S0 := Aside0.mk ((St.two HB.out HBK.out HR0.out HR1.out HD.out).below (below_drawn (Below.refl w.heap.size w) HW2.out))
              obtain ⟨i09, hi09, _, hsz9, _⟩ := info_parts info9
              have k0 : (0 : Int) ≤ (k : Int) := by omega
              have k1 : (k : Int) ≤ (N.length : Int) := by omega
              have k2 : (k : Int) ≤ (V.length : Int) := by omega
              have hcut1 := cut_to (P := Tryd.prog) 22 9 .i64 Tryd.underlying22 hi09 A0 N.length c0 (k : Int) k0 k1 hc0
              have hcut2 := cut_to (P := Tryd.prog) 22 9 .i64 Tryd.underlying22 hi09 A1 V.length c1 (k : Int) k0 k2 hc1
              have hcut3 := cut_from (P := Tryd.prog) 22 9 .i64 Tryd.underlying22 hi09 1 hsz9 A0 N.length c0 (k : Int) k0 k1
              have hcut4 := cut_from (P := Tryd.prog) 22 9 .i64 Tryd.underlying22 hi09 1 hsz9 A1 V.length c1 (k : Int) k0 k2
              rw [Int.toNat_natCast] at hcut1 hcut2 hcut3 hcut4
              have KV := Aside0.mk (show k ≤ V.length by omega)
              have KN := Aside0.mk (show N.length < 6 by omega)
              have KM := Aside0.mk hk
              clear hl hi09 hsz9 e4 hPl
              obtain ⟨AN, hAN⟩ : ∃ AN, (if c0 = k then A0 else A0.map (·.add (k * 1))) = AN := ⟨_, rfl⟩
              obtain ⟨AV, hAV⟩ : ∃ AV, (if c1 = k then A1 else A1.map (·.add (k * 1))) = AV := ⟨_, rfl⟩
              rw [hAN] at hcut3
              rw [hAV] at hcut4
              have HAN := Aside0.mk hAN
              have HAV := Aside0.mk hAV
              have HC0' := Aside0.mk hc0
              have HC1' := Aside0.mk hc1
              clear hAN hAV hc0 hc1
              have z0 : wr.cell? ⟨g, 0, none⟩ = some (.slice A0 N.length c0) := (blk_cell S0.out.blk 0).trans rfl
              go_wp2_with (first
                | ((with_reducible refine gate_dst (N := 63) rfl ?_); refine Kd.R_lit Kd.string b 9 ?hg (N := 63) ?hd (w0 := w) (xs := ([] : List ByteArray)) (inner := []) (ok := okS [(.slice A0 N.length c0, N), (.slice A1 V.length c1, V)]) (okp := fun _ => False) ?hr ?hp (fun _ hk => hk.elim) ?hf S0.out.bel S0.out.base (by simp) ?_; (case hd => rfl); (case hg => rfl); (case hr => first | (go_simp; done) | (go_simp; rfl)); (case hp => exact Reps.none _ _); (case hf => exact S0.out.fresh _ (Nat.le_refl _)); intro v63 w1 ho hb hg_ hnew_; have S1 := Aside0.mk (S0.out.lit ho hb hg_); clear ho hb hg_ hnew_; have z0 : w1.cell? ⟨g, 0, none⟩ = some (.slice A0 N.length c0) := (blk_cell S1.out.blk 0).trans rfl)
                | ((with_reducible refine gate_builtin (b := .append) (xs := #[.tmp 63, .tmp 69]) rfl ?_); at_builtin; refine Kd.R_append_rows Kd.string (w0 := w) b rfl (.tmp 63) (.tmp 69) 22 9 (.string ⟨#[]⟩) 16 rfl Tryd.underlying22 info9 rfl (by decide) (by omega) v63 [] (N.take k) A0 k _ (okS [(.slice A0 N.length c0, N), (.slice A1 V.length c1, V)]) (fun _ => False) rfl rfl ?aO ?aR (fun _ _ h => h) (fun _ h => h.elim) ?aF ?aB ?aS ?aL ?_; (case aO => exact S1.out.head); (case aR => exact (show Kd.C Kd.string _ A0 k (N.take k) from by (have h_ := Kd.C_take (m := k) (Kd.R_reads' (S1.out.rows (.slice A0 N.length c0, N) (by simp))).2.2 KM.out; rw [List.length_take, Nat.min_eq_left KM.out] at h_; exact h_))); (case aF => exact S1.out.tail.fresh); (case aB => exact S1.out.bel); (case aS => exact S1.out.base); (case aL => have h1_ := KN.out; have h2_ := KM.out; have h3_ := KV.out; have h4_ := HL.out; (try simp only [List.length_nil, List.length_append, List.length_take, List.length_cons]); omega); intro v70 w2 ho hb hg_ hat_; have S2 := Aside0.mk (S1.out.grow ho hb hg_); clear ho hb hg_ hat_)
                | ((with_reducible refine gate_builtin (b := .append) (xs := #[.tmp 70, .tmp 72]) rfl ?_); at_builtin; refine Kd.R_append Kd.string (w0 := w) b rfl (.tmp 70) (.tmp 72) 22 9 (.string ⟨#[]⟩) 16 rfl Tryd.underlying22 info9 rfl (by decide) (by omega) v70 ([] ++ N.take k) name [.string name] (okS [(.slice A0 N.length c0, N), (.slice A1 V.length c1, V)]) (fun _ => False) rfl rfl ?aP (fun _ hk => hk.elim) ?aF ?aO ?aB ?aS ?aL ?_; (case aP => exact rfl); (case aF => exact S2.out.tail.fresh); (case aO => exact S2.out.head); (case aB => exact S2.out.bel); (case aS => exact S2.out.base); (case aL => have h1_ := KN.out; have h2_ := KM.out; have h3_ := KV.out; have h4_ := HL.out; (try simp only [List.length_nil, List.length_append, List.length_take, List.length_cons]); omega); intro v73 w3 ho hb hg_ hat_; have S3 := Aside0.mk (S2.out.grow ho hb hg_); clear ho hb hg_ hat_; skip)
                | ((with_reducible refine gate_dst (N := 74) rfl ?_); refine Kd.R_lit Kd.string b 9 ?hg (N := 74) ?hd (w0 := w) (xs := ([] : List ByteArray)) (inner := []) (ok := okS [(v73, ([] ++ N.take k ++ [name])), (.slice A0 N.length c0, N), (.slice A1 V.length c1, V)]) (okp := fun _ => False) ?hr ?hp (fun _ hk => hk.elim) ?hf S3.out.bel S3.out.base (by simp) ?_; (case hd => rfl); (case hg => rfl); (case hr => first | (go_simp; done) | (go_simp; rfl)); (case hp => exact Reps.none _ _); (case hf => exact S3.out.fresh _ (Nat.le_refl _)); intro v74 w4 ho hb hg_ hnew_; have S4 := Aside0.mk (S3.out.lit ho hb hg_); clear ho hb hg_ hnew_; have z1 : w4.cell? ⟨g, 1, none⟩ = some (.slice A1 V.length c1) := (blk_cell S4.out.blk 1).trans rfl)
                | ((with_reducible refine gate_builtin (b := .append) (xs := #[.tmp 74, .tmp 80]) rfl ?_); at_builtin; refine Kd.R_append_rows Kd.string (w0 := w) b rfl (.tmp 74) (.tmp 80) 22 9 (.string ⟨#[]⟩) 16 rfl Tryd.underlying22 info9 rfl (by decide) (by omega) v74 [] (V.take k) A1 k _ (okS [(v73, ([] ++ N.take k ++ [name])), (.slice A0 N.length c0, N), (.slice A1 V.length c1, V)]) (fun _ => False) rfl rfl ?aO ?aR (fun _ _ h => h) (fun _ h => h.elim) ?aF ?aB ?aS ?aL ?_; (case aO => exact S4.out.head); (case aR => exact (show Kd.C Kd.string _ A1 k (V.take k) from by (have h_ := Kd.C_take (m := k) (Kd.R_reads' (S4.out.rows (.slice A1 V.length c1, V) (by simp))).2.2 KV.out; rw [List.length_take, Nat.min_eq_left KV.out] at h_; exact h_))); (case aF => exact S4.out.tail.fresh); (case aB => exact S4.out.bel); (case aS => exact S4.out.base); (case aL => have h1_ := KN.out; have h2_ := KM.out; have h3_ := KV.out; have h4_ := HL.out; (try simp only [List.length_nil, List.length_append, List.length_take, List.length_cons]); omega); intro v81 w5 ho hb hg_ hat_; have S5 := Aside0.mk (S4.out.grow ho hb hg_); clear ho hb hg_ hat_)
                | ((with_reducible refine gate_builtin (b := .append) (xs := #[.tmp 81, .tmp 83]) rfl ?_); at_builtin; refine Kd.R_append Kd.string (w0 := w) b rfl (.tmp 81) (.tmp 83) 22 9 (.string ⟨#[]⟩) 16 rfl Tryd.underlying22 info9 rfl (by decide) (by omega) v81 ([] ++ V.take k) wave [.string wave] (okS [(v73, ([] ++ N.take k ++ [name])), (.slice A0 N.length c0, N), (.slice A1 V.length c1, V)]) (fun _ => False) rfl rfl ?aP (fun _ hk => hk.elim) ?aF ?aO ?aB ?aS ?aL ?_; (case aP => exact rfl); (case aF => exact S5.out.tail.fresh); (case aO => exact S5.out.head); (case aB => exact S5.out.bel); (case aS => exact S5.out.base); (case aL => have h1_ := KN.out; have h2_ := KM.out; have h3_ := KV.out; have h4_ := HL.out; (try simp only [List.length_nil, List.length_append, List.length_take, List.length_cons]); omega); intro v84 w6 ho hb hg_ hat_; have S6 := Aside0.mk (S5.out.grow ho hb hg_); clear ho hb hg_ hat_; have S6' := Aside0.mk (S6.out.perm (List.Perm.swap ..)); have z0 : w6.cell? ⟨g, 0, none⟩ = some (.slice A0 N.length c0) := (blk_cell S6.out.blk 0).trans rfl)
                | ((with_reducible refine gate_builtin (b := .append) (xs := #[.tmp 86, .tmp 92]) rfl ?_); at_builtin; refine Kd.R_append_rows Kd.string (w0 := w) b rfl (.tmp 86) (.tmp 92) 22 9 (.string ⟨#[]⟩) 16 rfl Tryd.underlying22 info9 rfl (by decide) (by omega) v73 ([] ++ N.take k ++ [name]) (N.drop k) AN (N.length - k) _ (okS [(v84, ([] ++ V.take k ++ [wave])), (.slice A0 N.length c0, N), (.slice A1 V.length c1, V)]) (fun _ => False) rfl rfl ?aO ?aR (fun _ _ h => h) (fun _ h => h.elim) ?aF ?aB ?aS ?aL ?_; (case aO => exact S6'.out.head); (case aR => exact (show Kd.C Kd.string _ AN (N.length - k) (N.drop k) from by (have h_ := Kd.C_drop (m := k) (Kd.R_reads' (S6'.out.rows (.slice A0 N.length c0, N) (by simp))).2.2 KM.out HC0'.out; rw [List.length_drop] at h_; rw [← HAN.out]; exact h_))); (case aF => exact S6'.out.tail.fresh); (case aB => exact S6'.out.bel); (case aS => exact S6'.out.base); (case aL => have h1_ := KN.out; have h2_ := KM.out; have h3_ := KV.out; have h4_ := HL.out; (try simp only [List.length_nil, List.length_append, List.length_take, List.length_cons]); omega); intro v93 w7 ho hb hg_ hat_; have S7 := Aside0.mk (S6'.out.grow ho hb hg_); obtain ⟨A93, n93, c93, e93⟩ : ∃ A n c, v93 = .slice A n c := (by obtain ⟨A_, c_, e_, -, -⟩ := Kd.R_reads ho; exact ⟨A_, _, c_, e_⟩); clear ho hb hg_ hat_; subst e93; have z0 : w7.cell? ⟨g, 0, none⟩ = some (.slice A0 N.length c0) := (blk_cell S7.out.blk 0).trans rfl; have f0 := blk_frozen S7.out.blk 0; have z1 : (w7.setCell ⟨g, 0, none⟩ (.slice A93 n93 c93)).cell? ⟨g, 1, none⟩ = some (.slice A1 V.length c1) := (blk_cell (blk_put S7.out.blk 0 _ rfl) 1).trans rfl; have S8 := Aside0.mk ((S7.out.put HS.out.low 0 (.slice A93 n93 c93) rfl (blk_put S7.out.blk 0 _ rfl)).perm (List.Perm.swap ..)))
                | ((with_reducible refine gate_builtin (b := .append) (xs := #[.tmp 97, .tmp 103]) rfl ?_); at_builtin; refine Kd.R_append_rows Kd.string (w0 := w) b rfl (.tmp 97) (.tmp 103) 22 9 (.string ⟨#[]⟩) 16 rfl Tryd.underlying22 info9 rfl (by decide) (by omega) v84 ([] ++ V.take k ++ [wave]) (V.drop k) AV (V.length - k) _ (okS [(.slice A93 n93 c93, ([] ++ N.take k ++ [name] ++ N.drop k)), (.slice A0 N.length c0, N), (.slice A1 V.length c1, V)]) (fun _ => False) rfl rfl ?aO ?aR (fun _ _ h => h) (fun _ h => h.elim) ?aF ?aB ?aS ?aL ?_; (case aO => exact S8.out.head); (case aR => exact (show Kd.C Kd.string _ AV (V.length - k) (V.drop k) from by (have h_ := Kd.C_drop (m := k) (Kd.R_reads' (S8.out.rows (.slice A1 V.length c1, V) (by simp))).2.2 KV.out HC1'.out; rw [List.length_drop] at h_; rw [← HAV.out]; exact h_))); (case aF => exact S8.out.tail.fresh); (case aB => exact S8.out.bel); (case aS => exact S8.out.base); (case aL => have h1_ := KN.out; have h2_ := KM.out; have h3_ := KV.out; have h4_ := HL.out; (try simp only [List.length_nil, List.length_append, List.length_take, List.length_cons]); omega); intro v104 w9 ho hb hg_ hat_; have S9 := Aside0.mk (S8.out.grow ho hb hg_); obtain ⟨A94, n94, c94, e94⟩ : ∃ A n c, v104 = .slice A n c := (by obtain ⟨A_, c_, e_, -, -⟩ := Kd.R_reads ho; exact ⟨A_, _, c_, e_⟩); clear ho hb hg_ hat_; subst e94; have z2 : w9.cell? ⟨g, 1, none⟩ = some (.slice A1 V.length c1) := (blk_cell S9.out.blk 1).trans rfl; have f1 := blk_frozen S9.out.blk 1))
              go_ret
              have SF := S9.out.put HS.out.low 1 (.slice A94 n94 c94) rfl (blk_put S9.out.blk 1 _ rfl)
              have hh := H.out
              simp only [Prod.mk.injEq] at hh
              obtain ⟨rfl, rfl, rfl⟩ := hh
              exact ⟨rfl, ⟨⟨.slice A93 n93 c93, .slice A94 n94 c94, SF.blk, SF.rows (.slice A93 n93 c93, _) (List.mem_cons_of_mem _ (List.mem_cons_self ..)), SF.rows (.slice A94 n94 c94, _) (List.mem_cons_self ..), fun k e1 e2 => (List.pairwise_cons.1 SF.dis).1 (.slice A93 n93 c93, _) (List.mem_cons_self ..) k e2 e1⟩, HS.out.low⟩, SF.bel, SF.lo.2⟩
end Go.Proofs.YtjpjlobpglmoiaaDoor.A
-- Printed by this session's oprint.py through the kit's printer.
namespace Go.Proofs.YtjpjlobpglmoiaaDoor.A
open Go.RowKit Go.Proofs.YtjpjlobpglmoiaaDoorW.PrintWords Go.Proofs.YtjpjlobpglmoiaaDoorW.PrintLast Go.Proofs.YtjpjlobpglmoiaaDoorW.PrintMore
attribute [local go_sem] max2_int min2_int max_two min_two max_three min_three max_four min_four   -- for this text's walks alone
set_option linter.unusedVariables false
set_option linter.unusedSimpArgs false

/-! ### spec_l11DrawOk: function 43 -/
-- given: proved by hand (drawok.tpl)
/-- What a drawn scope stands on: the source's state, the scope's box, the result's box. -/
structure DI (w0 w : World) (gs g gr : Nat) (l : List Int) (at_ seed : Int) (N V : List ByteArray) (W : World) : Prop where
  s : IsS75 w0 W gs l at_ seed
  sc : SC w.heap.size g N V W
  bel : Below w0.heap.size w0 W
  kb : KeepBut w W gs none
  res : W.heap[gr]? = some (.cells #[.slice none 0 0, .slice none 0 0] 27 (0, 0))
  gr : w.heap.size ≤ gr ∧ gr ≠ g
  gs : gs < w.heap.size
section
variable {w0 w : World} {gs g gr : Nat} {l : List Int} {at_ seed : Int} {N V : List ByteArray} {W : World}
theorem DI.ne (h : DI w0 w gs g gr l at_ seed N V W) : g ≠ gs := by have := h.sc.low; have := h.gs; omega
theorem DI.draw {W' : World} {at' seed' : Int} (h : DI w0 w gs g gr l at_ seed N V W) (hI : IsS75 w0 W' gs l at' seed') (hB : Below w0.heap.size w0 W') (hk : KeepBut W W' gs none) : DI w0 w gs g gr l at' seed' N V W' := by
  obtain ⟨A, c, hb, _, _⟩ := h.s
  exact ⟨hI, h.sc.keep hk hb (by decide) h.ne, hB, h.kb.trans hk (.inl rfl), hk.blk h.res (by have := h.gr; have := h.gs; omega) (by simp), h.gr, h.gs⟩
theorem DI.below {W' : World} (h : DI w0 w gs g gr l at_ seed N V W) (hb : Below W.heap.size W W') : DI w0 w gs g gr l at_ seed N V W' :=
  ⟨h.s.below hb, h.sc.below hb, below_step h.bel hb, h.kb.trans (KeepBut.of_below hb gs none) (.inl rfl), (hb.block gr (blk_lt h.res)).trans h.res, h.gr, h.gs⟩
theorem DI.put {W' : World} {N' V' : List ByteArray} (h : DI w0 w gs g gr l at_ seed N V W) (hS : SC w.heap.size g N' V' W') (hB : Below w.heap.size W W') (hk : KT g W W') : DI w0 w gs g gr l at_ seed N' V' W' := by
  obtain ⟨A, c, hb, h1, h2⟩ := h.s
  have e := (hk.block gs _ _ hb (by decide) (fun e => h.ne e.symm)).trans hb
  have hw : w0.heap.size ≤ w.heap.size := by have := h.gs; have h3 := h.bel; obtain ⟨_, _, hq, hr, _⟩ := h.s; omega
  exact ⟨⟨A, c, e, h1, h2⟩, hS, h.bel.trans (hB.mono hw), ⟨Nat.le_trans h.kb.1 hB.size, fun i hi hg hr => (hB.block i hi).trans (h.kb.2 i hi hg hr)⟩, (hk.block gr _ _ h.res (by decide) h.gr.2).trans h.res, h.gr, h.gs⟩
end
def names5 : List ByteArray := [⟨#[97]⟩, ⟨#[98]⟩, ⟨#[99, 108, 111, 99, 107]⟩, ⟨#[120]⟩, ⟨#[102, 97, 114]⟩]
def dokL : Nat → List Int → Int → Int → Int → Int → List ByteArray → List ByteArray → Option (List ByteArray × List ByteArray × Int × Int)
  | 0, _, _, _, _, _, _, _ => none
  | K + 1, l, size, k, at_, seed, N, V =>
    if 0 < k then
      (spec_l00Src_text.f l at_ seed names5).bind fun a => (spec_l07DrawLevels.f K l a.2.1 a.2.2 size).bind fun b => (spec_l00Src_one.f l b.2.1 b.2.2 3).bind fun c =>
      if V.length = N.length ∧ a.1.size ≤ 1000 then
        if c.1 = true then (spec_l01DrawGood.f K l c.2.1 c.2.2 30).bind fun d => if d.1.size ≤ 1000 then dokL K l size (wrap64 (k - 1)) d.2.1 d.2.2 (setF N V a.1 d.1).1 (setF N V a.1 d.1).2.1 else none
        else if b.1.size ≤ 1000 then dokL K l size (wrap64 (k - 1)) c.2.1 c.2.2 (setF N V a.1 b.1).1 (setF N V a.1 b.1).2.1 else none
      else none
    else some (N, V, at_, seed)
def spec_l11DrawOk.f (k : Nat) (l : List Int) (at_ seed : Int) : Option (List ByteArray × List ByteArray × Int × Int) := (spec_l00Src_pick.f l at_ seed 30).bind fun p => (spec_l00Src_pick.f l p.2.1 p.2.2 4).bind fun q => dokL k l p.1 q.1 q.2.1 q.2.2 [] []
theorem dokL.mono : ∀ k l size n at_ seed N V, LeO (dokL k l size n at_ seed N V) (dokL (k + 1) l size n at_ seed N V)
  | 0, _, _, _, _, _, _, _ => LeO.none _
  | k + 1, l, size, n, at_, seed, N, V => by
    rw [dokL, dokL]
    repeat' first
      | (with_reducible exact LeO.refl _)
      | (with_reducible exact LeO.none _)
      | (with_reducible exact dokL.mono _ _ _ _ _ _ _ _)
      | (with_reducible exact spec_l07DrawLevels.mono _ _ _ _ _)
      | (with_reducible exact spec_l01DrawGood.mono _ _ _ _ _)
      | (with_reducible refine LeO.ite ?_ ?_)
      | (with_reducible refine LeO.bind ?_ (fun _ => ?_))
theorem spec_l11DrawOk.mono : ∀ a0 a1 a2 k, LeO (spec_l11DrawOk.f k a0 a1 a2) (spec_l11DrawOk.f (k + 1) a0 a1 a2) := fun a0 a1 a2 k => LeO.bind (LeO.refl _) (fun _ => LeO.bind (LeO.refl _) (fun _ => dokL.mono _ _ _ _ _ _ _ _))
theorem reps_names5 {W : World} {base : Nat} (okp : Nat → Prop) : Reps (Kd.string.M W base okp) 1 names5 [.string ⟨#[97]⟩, .string ⟨#[98]⟩, .string ⟨#[99, 108, 111, 99, 107]⟩, .string ⟨#[120]⟩, .string ⟨#[102, 97, 114]⟩] := Reps.one rfl (Reps.one rfl (Reps.one rfl (Reps.one rfl (Reps.one rfl (Reps.none _ _)))))
theorem DI.start {w0 w w2 : World} {gs : Nat} {l : List Int} {at_ seed : Int} (hI : IsS75 w0 w gs l at_ seed) (hB : Below w0.heap.size w0 w) (hg : gs < w.heap.size) (b2 : Below w.heap.size w w2) (e : w2.heap[w.heap.size + 1]? = some (.cells #[.slice none 0 0, .slice none 0 0] 27 (0, 0))) (e0 : w2.heap[w.heap.size]? = some (.cells #[.slice none 0 0, .slice none 0 0] 27 (0, 0))) : DI w0 w gs (w.heap.size + 1) w.heap.size l at_ seed [] [] w2 :=
  ⟨hI.below b2, ⟨⟨.slice none 0 0, .slice none 0 0, e, Kd.R_nil _ _ _ _ _, Kd.R_nil _ _ _ _ _, fun k e => by simp [Value.ownBlock] at e⟩, Nat.le_succ _⟩, below_step hB b2, KeepBut.of_below b2 gs none, e0, ⟨Nat.le_refl _, by omega⟩, hg⟩
set_option maxHeartbeats 3200000 in
set_option maxRecDepth 100000 in
theorem spec_l11DrawOk.calls (k : Nat) (g : Nat) (s0_0 : List Int) (s0_1 : Int) (s0_2 : Int) (r1 r2 : List ByteArray) (r3 : Int) (r4 : Int) (w0 w : World) (hI : IsS75 w0 w g s0_0 s0_1 s0_2) (hB : Below w0.heap.size w0 w) (h : spec_l11DrawOk.f k s0_0 s0_1 s0_2 = some (r1, r2, r3, r4)) :
    Calls Tryd.prog 43 #[.pointer (some ⟨g, 0, none⟩)] w fun e w' => ∃ v0_ v1_ : Value, e = .returned (.agg #[v0_, v1_]) ∧ Kd.R Kd.string 9 w' w.heap.size (fun k_ => some k_ ≠ (v1_ : Value).ownBlock) v0_ r1 ∧ Kd.R Kd.string 9 w' w.heap.size (fun k_ => some k_ ≠ (v0_ : Value).ownBlock) v1_ r2 ∧ IsS75 w0 w' g s0_0 r3 r4 ∧ Below w0.heap.size w0 w' ∧ KeepBut w w' g none := by
  have hu27 := Tryd.underlying27
  replace h := Option.bind_eq_some_iff.1 h
  obtain ⟨⟨size, a1, s1⟩, h1, h⟩ := h
  replace h := Option.bind_eq_some_iff.1 h
  obtain ⟨⟨n, a2, s2⟩, h2, h⟩ := h
  have H := Aside0.mk (show dokL k s0_0 size n a2 s2 [] [] = some (r1, r2, r3, r4) from h)
  have H1 := Aside0.mk h1
  have H2 := Aside0.mk h2
  have HI := Aside0.mk hI
  have HB := Aside0.mk hB
  have hgs := hI.lt
  have HG := Aside0.mk hgs
  clear h h1 h2 hI hB hgs
  have e_ := blk_new (w.alloc (.cells #[.slice none 0 0, .slice none 0 0] 27)) (.cells #[.slice none 0 0, .slice none 0 0] 27)
  rw [World.size_alloc] at e_
  have D0 := Aside0.mk (DI.start (l := s0_0) HI.out HB.out HG.out (below_alloc (below_alloc (Below.refl w.heap.size w) _) _) e_ (blk_alloc (blk_new w _) _))
  clear e_
  clear HI HB HG
  go_enter Tryd.func43, Tryd.ntmps43
  go_wp2_with (first
    | (go_at_call 41; (with_reducible refine (spec_l00Src_pick.calls g s0_0 s0_1 s0_2 30 size a1 s1 w0 _ ?hI ?hB H1.out).mono ?_); (case hI => exact D0.out.s); (case hB => exact D0.out.bel); rintro e wa ⟨rfl, hI, hB, hK⟩; have D1 := Aside0.mk (D0.out.draw hI hB hK); clear hI hB hK)
    | (go_at_call 41; (with_reducible refine (spec_l00Src_pick.calls g s0_0 a1 s1 4 n a2 s2 w0 _ ?hI ?hB H2.out).mono ?_); (case hI => exact D1.out.s); (case hB => exact D1.out.bel); rintro e wb ⟨rfl, hI, hB, hK⟩; have D2 := Aside0.mk (D1.out.draw hI hB hK); clear hI hB hK))
  clear D0 D1 H1 H2
  go_loopg [5] k (fun kq v5 wr => ∃ (n a s : Int) (N V : List ByteArray), v5 = .int .i64 n ∧ Aside0 (dokL kq s0_0 size n a s N V = some (r1, r2, r3, r4)) ∧ Aside0 (DI w0 w g (w.heap.size + 1) w.heap.size s0_0 a s N V wr))
  case atStart => exact ⟨n, a2, s2, [], [], rfl, H, D2⟩
  case round =>
    clear H D2
    obtain ⟨n, a, s, N, V, rfl, HA, HD⟩ := hrel
    cases gk with
    | zero => exact absurd HA.out (by simp [dokL])
    | succ k1 =>
      have hA := HA.out
      clear HA
      rw [dokL] at hA
      by_cases hn : 0 < n
      · rw [if_pos hn] at hA
        have hnb := decide_eq_true hn
        replace hA := Option.bind_eq_some_iff.1 hA
        obtain ⟨⟨nm, a1, s1⟩, h1, hA⟩ := hA
        replace hA := Option.bind_eq_some_iff.1 hA
        obtain ⟨⟨lv, a2, s2⟩, h2, hA⟩ := hA
        replace hA := Option.bind_eq_some_iff.1 hA
        obtain ⟨⟨on, a3, s3⟩, h3, hA⟩ := hA
        dsimp only at h2 h3 hA
        have H1 := Aside0.mk h1
        have H2 := Aside0.mk h2
        have H3 := Aside0.mk h3
        by_cases hl : V.length = N.length ∧ nm.size ≤ 1000
        · rw [if_pos hl] at hA
          have HL := Aside0.mk hl
          clear h1 h2 h3 hn hl
          cases on with
          | true =>
            simp only [if_true] at hA
            replace hA := Option.bind_eq_some_iff.1 hA
            obtain ⟨⟨gd, a4, s4⟩, h4, hA⟩ := hA
            dsimp only at h4 hA
            have H4 := Aside0.mk h4
            by_cases hz : gd.size ≤ 1000
            · rw [if_pos hz] at hA
              have HZ := Aside0.mk hz
              obtain ⟨⟨N', V', R'⟩, hset⟩ : ∃ x, setF N V nm gd = x := ⟨_, rfl⟩
              rw [hset] at hA
              have HS := Aside0.mk hset
              have HA := Aside0.mk hA
              clear h4 hz hA hset
              go_wp2_with (first
                | ((with_reducible refine gate_dst (N := 18) rfl ?_); refine Kd.R_lit Kd.string wr.heap.size 9 ?hg (N := 18) ?hd (w0 := wr) (xs := names5) (inner := [.string ⟨#[97]⟩, .string ⟨#[98]⟩, .string ⟨#[99, 108, 111, 99, 107]⟩, .string ⟨#[120]⟩, .string ⟨#[102, 97, 114]⟩]) (ok := fun _ => True) (okp := fun _ => True) ?hr ?hp (fun _ hk => hk) trivial (Below.refl _ _) (Nat.le_refl _) (by decide) ?_; (case hd => rfl); (case hg => rfl); (case hr => first | (go_simp; done) | (go_simp; rfl)); (case hp => exact reps_names5 _); intro v18 wl ho hb hg_ hnew_; obtain ⟨b18, p18, e18, hb18, -, -⟩ := Kd.R_form ho (by decide); subst e18; have C18 := Aside0.mk (Kd.R_reads' ho).2; have B18 := Aside0.mk (show ∀ ad, (some (⟨b18, 0, none⟩ : Addr)) = some ad → 0 < names5.length → ad.block ≠ g from (fun ad e_ _ => by (injection e_ with e_; subst e_; have h_ := HD.out.s.lt; show b18 ≠ g; omega))); have DL := Aside0.mk (HD.out.below hb); clear ho hb hg_ hnew_ hb18)
                | (go_at_call 58; (with_reducible refine (spec_l00Src_text.calls g s0_0 a s (some ⟨b18, 0, none⟩) p18 names5 nm a1 s1 w0 wl ?hI ?hB ?hC ?hc ?hf H1.out).mono ?_); (case hI => exact DL.out.s); (case hB => exact DL.out.bel); (case hC => exact C18.out.2); (case hc => exact C18.out.1); (case hf => exact B18.out); rintro e w1 ⟨rfl, hI, hB, hK⟩; have D1 := Aside0.mk (DL.out.draw hI hB hK); clear hI hB hK)
                | (go_at_call 62; (with_reducible refine (spec_l07DrawLevels.calls k1 g s0_0 a1 s1 size lv a2 s2 w0 w1 ?hI ?hB H2.out).mono ?_); (case hI => exact D1.out.s); (case hB => exact D1.out.bel); rintro e w2 ⟨rfl, hI, hB, hK⟩; have D2 := Aside0.mk (D1.out.draw hI hB hK); clear hI hB hK)
                | (go_at_call 61; (with_reducible refine (spec_l00Src_one.calls g s0_0 a2 s2 3 true a3 s3 w0 w2 ?hI ?hB H3.out).mono ?_); (case hI => exact D2.out.s); (case hB => exact D2.out.bel); rintro e w3 ⟨rfl, hI, hB, hK⟩; have D3 := Aside0.mk (D2.out.draw hI hB hK); clear hI hB hK)
                | (go_at_call 60; (with_reducible refine (spec_l01DrawGood.calls k1 g s0_0 a3 s3 30 gd a4 s4 w0 w3 ?hI ?hB H4.out).mono ?_); (case hI => exact D3.out.s); (case hB => exact D3.out.bel); rintro e w4 ⟨rfl, hI, hB, hK⟩; have D4 := Aside0.mk (D3.out.draw hI hB hK); clear hI hB hK)
                | (go_at_call 63; (with_reducible refine (setF.calls w.heap.size (w.heap.size + 1) N V nm gd N' V' R' w4 ?hS ?hB ?hl ?hn ?hw HS.out).mono ?_); (case hS => exact D4.out.sc); (case hB => exact D4.out.kb.1); (case hl => exact HL.out.1); (case hn => have := HL.out.2; omega); (case hw => have := HZ.out; omega); rintro e w5 ⟨rfl, hS, hB, hK⟩; have D5 := Aside0.mk (D4.out.put hS hB hK); clear hS hB hK))
              go_roundg k1
              case measure => omega
              case rel => exact ⟨_, _, _, _, _, rfl, HA, D5⟩
            · rw [if_neg hz] at hA; cases hA
          | false =>
            simp only [Bool.false_eq_true, if_false] at hA
            by_cases hz : lv.size ≤ 1000
            · rw [if_pos hz] at hA
              have HZ := Aside0.mk hz
              obtain ⟨⟨N', V', R'⟩, hset⟩ : ∃ x, setF N V nm lv = x := ⟨_, rfl⟩
              rw [hset] at hA
              have HS := Aside0.mk hset
              have HA := Aside0.mk hA
              clear hz hA hset
              go_wp2_with (first
                | ((with_reducible refine gate_dst (N := 18) rfl ?_); refine Kd.R_lit Kd.string wr.heap.size 9 ?hg (N := 18) ?hd (w0 := wr) (xs := names5) (inner := [.string ⟨#[97]⟩, .string ⟨#[98]⟩, .string ⟨#[99, 108, 111, 99, 107]⟩, .string ⟨#[120]⟩, .string ⟨#[102, 97, 114]⟩]) (ok := fun _ => True) (okp := fun _ => True) ?hr ?hp (fun _ hk => hk) trivial (Below.refl _ _) (Nat.le_refl _) (by decide) ?_; (case hd => rfl); (case hg => rfl); (case hr => first | (go_simp; done) | (go_simp; rfl)); (case hp => exact reps_names5 _); intro v18 wl ho hb hg_ hnew_; obtain ⟨b18, p18, e18, hb18, -, -⟩ := Kd.R_form ho (by decide); subst e18; have C18 := Aside0.mk (Kd.R_reads' ho).2; have B18 := Aside0.mk (show ∀ ad, (some (⟨b18, 0, none⟩ : Addr)) = some ad → 0 < names5.length → ad.block ≠ g from (fun ad e_ _ => by (injection e_ with e_; subst e_; have h_ := HD.out.s.lt; show b18 ≠ g; omega))); have DL := Aside0.mk (HD.out.below hb); clear ho hb hg_ hnew_ hb18)
                | (go_at_call 58; (with_reducible refine (spec_l00Src_text.calls g s0_0 a s (some ⟨b18, 0, none⟩) p18 names5 nm a1 s1 w0 wl ?hI ?hB ?hC ?hc ?hf H1.out).mono ?_); (case hI => exact DL.out.s); (case hB => exact DL.out.bel); (case hC => exact C18.out.2); (case hc => exact C18.out.1); (case hf => exact B18.out); rintro e w1 ⟨rfl, hI, hB, hK⟩; have D1 := Aside0.mk (DL.out.draw hI hB hK); clear hI hB hK)
                | (go_at_call 62; (with_reducible refine (spec_l07DrawLevels.calls k1 g s0_0 a1 s1 size lv a2 s2 w0 w1 ?hI ?hB H2.out).mono ?_); (case hI => exact D1.out.s); (case hB => exact D1.out.bel); rintro e w2 ⟨rfl, hI, hB, hK⟩; have D2 := Aside0.mk (D1.out.draw hI hB hK); clear hI hB hK)
                | (go_at_call 61; (with_reducible refine (spec_l00Src_one.calls g s0_0 a2 s2 3 false a3 s3 w0 w2 ?hI ?hB H3.out).mono ?_); (case hI => exact D2.out.s); (case hB => exact D2.out.bel); rintro e w3 ⟨rfl, hI, hB, hK⟩; have D3 := Aside0.mk (D2.out.draw hI hB hK); clear hI hB hK)
                | (go_at_call 63; (with_reducible refine (setF.calls w.heap.size (w.heap.size + 1) N V nm lv N' V' R' w3 ?hS ?hB ?hl ?hn ?hw HS.out).mono ?_); (case hS => exact D3.out.sc); (case hB => exact D3.out.kb.1); (case hl => exact HL.out.1); (case hn => have := HL.out.2; omega); (case hw => have := HZ.out; omega); rintro e w5 ⟨rfl, hS, hB, hK⟩; have D5 := Aside0.mk (D3.out.put hS hB hK); clear hS hB hK))
              go_roundg k1
              case measure => omega
              case rel => exact ⟨_, _, _, _, _, rfl, HA, D5⟩
            · rw [if_neg hz] at hA; cases hA
        · rw [if_neg hl] at hA; cases hA
      · rw [if_neg hn] at hA
        have hnb := decide_eq_false hn
        simp only [Option.some.injEq, Prod.mk.injEq] at hA
        obtain ⟨rfl, rfl, rfl, rfl⟩ := hA
        obtain ⟨v0, v1, hb, hr0, hr1, hd⟩ := HD.out.sc.ex
        obtain ⟨A0, c0, rfl, -, -⟩ := Kd.R_reads hr0
        obtain ⟨A1, c1, rfl, -, -⟩ := Kd.R_reads hr1
        have z0 := (blk_cell hb 0).trans rfl
        have z1 := (blk_cell hb 1).trans rfl
        have y0 := (blk_cell HD.out.res 0).trans rfl
        have y1 := (blk_cell HD.out.res 1).trans rfl
        have f0 := blk_frozen HD.out.res 0
        have f1 := blk_frozen HD.out.res 1
        have HR0 := Aside0.mk hr0
        have HR1 := Aside0.mk hr1
        have HX := Aside0.mk hd
        clear hn hb hr0 hr1 hd
        go_wp2
        refine bodyPost_ret (results_cell_row rfl _ _ w.heap.size 27 #[.slice A0 N.length c0, .slice A1 V.length c1] (0, 0) _ rfl (blk_put (cs := #[.slice A0 N.length c0, .slice none 0 0]) (blk_put (cs := #[.slice none 0 0, .slice none 0 0]) HD.out.res 0 _ rfl) 1 _ rfl) hu27 rfl (by kernel_rfl)) rfl ?_
        have hg := HD.out.gs
        have hg0 := HD.out.s.ge
        have q : ∀ k, k ≠ w.heap.size → ((wr.setCell ⟨w.heap.size, 0, none⟩ (.slice A0 N.length c0)).setCell ⟨w.heap.size, 1, none⟩ (.slice A1 V.length c1)).heap[k]? = wr.heap[k]? := fun k hk => (Below.heap_setCell _ _ _ _ hk).trans (Below.heap_setCell _ _ _ _ hk)
        have hB := (HD.out.bel.setCell (p := ⟨w.heap.size, 0, none⟩) (by show w0.heap.size ≤ w.heap.size; omega) (.slice A0 N.length c0)).setCell (p := ⟨w.heap.size, 1, none⟩) (by show w0.heap.size ≤ w.heap.size; omega) (.slice A1 V.length c1)
        have hsz : wr.heap.size ≤ ((wr.setCell ⟨w.heap.size, 0, none⟩ (.slice A0 N.length c0)).setCell ⟨w.heap.size, 1, none⟩ (.slice A1 V.length c1)).heap.size := by simp [World.setCell]
        exact ⟨_, _, rfl, Kd.R_mono (Kd.R_step HR0.out (fun k e _ => q k (R_own_ne HR0.out HD.out.res (by decide) k e))) (fun k e e2 => HX.out k e.symm e2.symm), Kd.R_mono (Kd.R_step HR1.out (fun k e _ => q k (R_own_ne HR1.out HD.out.res (by decide) k e))) (fun k e e2 => HX.out k e2.symm e.symm), (HD.out.s.far (p := ⟨w.heap.size, 0, none⟩) (by show g ≠ w.heap.size; omega) _).far (p := ⟨w.heap.size, 1, none⟩) (by show g ≠ w.heap.size; omega) _, hB, ⟨Nat.le_trans HD.out.kb.1 hsz, fun i hi hg hr => (q i (by omega)).trans (HD.out.kb.2 i hi hg hr)⟩⟩

end Go.Proofs.YtjpjlobpglmoiaaDoor.A
-- Printed by this session's oprint.py through the kit's printer.
namespace Go.Proofs.YtjpjlobpglmoiaaDoor.A
open Go.RowKit Go.Proofs.YtjpjlobpglmoiaaDoorW.PrintWords Go.Proofs.YtjpjlobpglmoiaaDoorW.PrintLast Go.Proofs.YtjpjlobpglmoiaaDoorW.PrintMore
attribute [local go_sem] max2_int min2_int max_two min_two max_three min_three max_four min_four   -- for this text's walks alone
set_option linter.unusedVariables false
set_option linter.unusedSimpArgs false

/-! ### spec_B10Scope: function 25 -/
def spec_B10Scope.f (k : Nat) (l0 : List Int) : Option (List ByteArray × List ByteArray) := (spec_l00From.f l0).bind fun bt327 => ((spec_l11DrawOk.f k bt327.1 bt327.2.1 bt327.2.2).bind fun bt331 => (some (bt331.1, bt331.2.1)))
theorem spec_B10Scope.mono : ∀ a0 k, LeO (spec_B10Scope.f k a0) (spec_B10Scope.f (k + 1) a0) := by
  intro a0 k
  unfold spec_B10Scope.f
  repeat' first
      | (with_reducible exact spec_l11DrawOk.mono _ _ _ _)
      | (with_reducible exact LeO.refl _)
      | (with_reducible exact LeO.none _)
      | (with_reducible refine LeO.ite ?_ ?_)
      | (with_reducible refine LeO.bind ?_ (fun _ => ?_))
      | exact spec_l11DrawOk.mono _ _ _ _
      | exact LeO.none _
      | refine LeO.ite ?_ ?_
      | refine LeO.bind ?_ (fun _ => ?_)
set_option maxHeartbeats 8000000 in
set_option maxRecDepth 100000 in
theorem spec_B10Scope.calls (k : Nat) (A0 : Option Addr) (c0 : Nat) (l0 : List Int) (r1 : List ByteArray) (r2 : List ByteArray) (w : World) (hr0 : Kd.C (Kd.int .u8) w A0 l0.length l0) (hc0 : l0.length ≤ c0) (h : spec_B10Scope.f k l0 = some (r1, r2)) :
    Calls Tryd.prog 25 #[.slice A0 l0.length c0] w fun e w' => ∃ v0_ v1_ : Value, e = .returned (.agg #[v0_, v1_]) ∧ Kd.R Kd.string 9 w' w.heap.size (fun k_ => some k_ ≠ (v1_ : Value).ownBlock) v0_ r1 ∧ Kd.R Kd.string 9 w' w.heap.size (fun k_ => some k_ ≠ (v0_ : Value).ownBlock) v1_ r2 ∧ Below w.heap.size w w' := by
  have hu27 := Tryd.underlying27
  have HR0 := Aside0.mk hr0
  have HC0 := Aside0.mk hc0
  clear hr0 hc0
  have HB := Aside0.mk (Below.refl w.heap.size w)
  have H : ((spec_l00From.f l0).bind fun bt327 => ((spec_l11DrawOk.f k bt327.1 bt327.2.1 bt327.2.2).bind fun bt331 => (some (bt331.1, bt331.2.1)))) = some (r1, r2) := h
  clear h
  replace H := Option.bind_eq_some_iff.mp H
  obtain ⟨⟨t327, t328, t329⟩, A20, H⟩ := H
  replace H : ((spec_l11DrawOk.f k t327 t328 t329).bind fun bt331 => (some (bt331.1, bt331.2.1))) = some (r1, r2) := H
  have A2 := Aside0.mk A20
  clear A20
  replace H := Option.bind_eq_some_iff.mp H
  obtain ⟨⟨t331, t334, t337, t338⟩, A30, H⟩ := H
  replace H : (some (t331, t334)) = some (r1, r2) := H
  have A3 := Aside0.mk A30
  clear A30
  simp only [Option.some.injEq, Prod.mk.injEq] at H
  obtain ⟨rfl, rfl⟩ := H
  go_enter Tryd.func25, Tryd.ntmps25
  go_wp2_with (first | ((with_reducible refine gate_dst (N := 2) rfl ?_); refine box_event ?hg (N := 2) ?hd (cs := #[.slice none 0 0, .slice none 0 0]) (t := 27) ?hr ?_; (case hd => rfl); (case hg => rfl); (case hr => first | (go_simp; done) | (go_simp; rfl)); intro gb326 hg w4 hbox hb; have n0_ := Aside0.mk (below_step (by repeat (first | (with_reducible first | exact HB.out | apply below_alloc | apply pw_below_drewN | apply below_drew1) | exact HB.out)) hb); have n1_ := Aside0.mk (hbox); have n2_ := Aside0.mk ((by rw [hg]; exact (below_size (by repeat (first | (with_reducible first | exact HB.out | apply below_alloc | apply pw_below_drewN | apply below_drew1) | exact HB.out))) : w.heap.size ≤ gb326)); have n3_ := Aside0.mk ((by rw [hg]; exact (below_size (by repeat (first | (with_reducible first | exact HB.out | apply below_alloc | apply pw_below_drewN | apply below_drew1) | exact HB.out))) : w.heap.size ≤ gb326)); clear HB; have HB := n0_; have BK326 := n1_; have GW326 := n2_; have GE326 := n3_; clear n0_ n1_ n2_ n3_; clear hb hbox hg) | ((with_reducible refine gate_callee (f := 40) rfl ?_); refine goesL_ (some 5) rfl rfl Tryd.func40 (by kernel_rfl) rfl #[.slice A0 l0.length c0] rfl (by (try simp only [List.map_toArray, List.map_cons, List.map_nil]); first | done | rfl | (simp only [List.length_drop, List.length_take]; rfl)) ?_; (with_reducible refine (spec_l00From.calls _ _ l0 t327 t328 t329 w _ ?side1 ?side2 ?side3 A2.out).mono ?_); (case side1 => repeat (first | (with_reducible first | exact HB.out | apply below_alloc | apply pw_below_drewN | apply below_drew1 | refine below_set ?_ GE326.out) | exact HB.out)); (case side2 => exact HR0.out); (case side3 => exact HC0.out); rintro e w5 ⟨g330, rfl, hi, hb, hb2⟩; refine ⟨_, rfl, ?_⟩; have n0_ := Aside0.mk (blk_below (g := gb326) (o := .cells #[.slice none 0 0, .slice none 0 0] 27 (0, 0)) (by (with_reducible repeat (first | refine blk_drewN ?_ _ | refine blk_drew ?_ | refine blk_alloc ?_ _)); exact BK326.out) hb2); have n1_ := Aside0.mk (hb); have n2_ := Aside0.mk (hi); have n3_ := Aside0.mk (IsS75.ne_blk hi (blk_below (g := gb326) (o := .cells #[.slice none 0 0, .slice none 0 0] 27 (0, 0)) (by (with_reducible repeat (first | refine blk_drewN ?_ _ | refine blk_drew ?_ | refine blk_alloc ?_ _)); exact BK326.out) hb2) (by decide)); have n4_ := Aside0.mk (Ne.symm (IsS75.ne_blk hi (blk_below (g := gb326) (o := .cells #[.slice none 0 0, .slice none 0 0] 27 (0, 0)) (by (with_reducible repeat (first | refine blk_drewN ?_ _ | refine blk_drew ?_ | refine blk_alloc ?_ _)); exact BK326.out) hb2) (by decide))); clear BK326; clear HB; have BK326 := n0_; have HB := n1_; have HI330 := n2_; have NB330_326 := n3_; have NB326_330 := n4_; clear n0_ n1_ n2_ n3_ n4_; (try clear hb); (try clear hb2); (try clear hk); (try clear hi)) | ((with_reducible refine gate_callee (f := 43) rfl ?_); refine goesL_ (some 7) rfl rfl Tryd.func43 (by kernel_rfl) rfl #[.pointer (some ⟨g330, 0, none⟩)] rfl (by (try simp only [List.map_toArray, List.map_cons, List.map_nil]); first | done | rfl | (simp only [List.length_drop, List.length_take]; rfl)) ?_; (with_reducible refine (spec_l11DrawOk.calls k g330 t327 t328 t329 t331 t334 t337 t338 w _ ?side1 ?side2 A3.out).mono ?_); (case side1 => repeat (first | (with_reducible first | exact HI330.out | apply IsS75.alloc | apply IsS75.drewN | apply IsS75.drew | apply IsS75.set_1 | apply IsS75.set_2 | refine IsS75.far ?_ NB330_326.out _) | exact HI330.out)); (case side2 => repeat (first | (with_reducible first | exact HB.out | apply below_alloc | apply pw_below_drewN | apply below_drew1 | refine below_set ?_ (IsS75.ge HI330.out) | refine below_set ?_ GE326.out) | exact HB.out)); rintro e w6 ⟨v332, v335, rfl, ho0, ho1, hi, hb, hk⟩; refine ⟨_, rfl, ?_⟩; have n0_ := Aside0.mk (KeepBut.blk hk (g' := gb326) (o := .cells #[.slice none 0 0, .slice none 0 0] 27 (0, 0)) (by (with_reducible repeat (first | refine blk_drewN ?_ _ | refine blk_drew ?_ | refine blk_alloc ?_ _)); exact BK326.out) NB326_330.out (by simp)); have n1_ := Aside0.mk (Kd.R_lower ho0 (below_size (by repeat (first | (with_reducible first | exact HB.out | apply below_alloc | apply pw_below_drewN | apply below_drew1 | refine below_set ?_ (IsS75.ge HI330.out) | refine below_set ?_ GE326.out) | exact HB.out)))); have n2_ := Aside0.mk (Kd.R_lower ho1 (below_size (by repeat (first | (with_reducible first | exact HB.out | apply below_alloc | apply pw_below_drewN | apply below_drew1 | refine below_set ?_ (IsS75.ge HI330.out) | refine below_set ?_ GE326.out) | exact HB.out)))); have n3_ := Aside0.mk (hb); have n4_ := Aside0.mk (hi); clear BK326; clear HB; clear HI330; have BK326 := n0_; have HO333 := n1_; have HO336 := n2_; have HB := n3_; have HI330 := n4_; clear n0_ n1_ n2_ n3_ n4_; (try clear hb); (try clear hb2); (try clear hk); (try clear hi); (try clear ho0); (try clear ho1); obtain ⟨Ao7, co7, eo7⟩ := Kd.R_slice HO333.out; subst eo7; have hnb8 := NB326_330.out; have hnc8 := NB330_326.out; have hcz9_0 : w6.cell? ⟨gb326, 0, none⟩ = some (.slice none 0 0) := (blk_cell BK326.out 0).trans rfl; have hcz9_1 : w6.cell? ⟨gb326, 1, none⟩ = some (.slice none 0 0) := (blk_cell BK326.out 1).trans rfl; have hfz9_0 := blk_frozen BK326.out 0; have hfz9_1 := blk_frozen BK326.out 1; obtain ⟨Ao10, co10, eo10⟩ := Kd.R_slice HO336.out; subst eo10))
  refine bodyPost_ret (results_cell_row rfl _ _ gb326 27 #[.slice Ao7 t331.length co7, .slice Ao10 t334.length co10] (0, 0) _ rfl (by (with_reducible repeat (first | refine blk_drewN ?_ _ | refine blk_drew ?_ | refine blk_alloc ?_ _)); refine blk_put (cs := #[.slice Ao7 t331.length co7, .slice none 0 0]) ?_ 1 _ rfl; (with_reducible repeat (first | refine blk_drewN ?_ _ | refine blk_drew ?_ | refine blk_alloc ?_ _)); refine blk_put (cs := #[.slice none 0 0, .slice none 0 0]) ?_ 0 _ rfl; (with_reducible repeat (first | refine blk_drewN ?_ _ | refine blk_drew ?_ | refine blk_alloc ?_ _)); exact BK326.out) Tryd.underlying27 rfl (by kernel_rfl)) rfl ?_
  exact ⟨_, _, by first | rfl | (simp [errW_none, errW_some] <;> rfl) | (simp [*, errW_none, errW_some] <;> rfl), by (with_reducible repeat (first | apply Kd.R_alloc | apply Kd.R_drewN | apply Kd.R_drew)); exact Kd.R_mono (Kd.R_far (p := ⟨gb326, 1, none⟩) (Kd.R_far (p := ⟨gb326, 0, none⟩) (Kd.R_types HO333.out BK326.out (by decide)) (fun _ hk => hk.2) (.slice Ao7 t331.length co7)) (fun _ hk => hk.2) (.slice Ao10 t334.length co10)) (fun _ hk => hk.1), by (with_reducible repeat (first | apply Kd.R_alloc | apply Kd.R_drewN | apply Kd.R_drew)); exact Kd.R_mono (Kd.R_far (p := ⟨gb326, 1, none⟩) (Kd.R_far (p := ⟨gb326, 0, none⟩) (Kd.R_types HO336.out BK326.out (by decide)) (fun _ hk => hk.2) (.slice Ao7 t331.length co7)) (fun _ hk => hk.2) (.slice Ao10 t334.length co10)) (fun _ hk => hk.1), by repeat (first | (with_reducible first | exact HB.out | apply below_alloc | apply pw_below_drewN | apply below_drew1 | refine below_set ?_ (IsS75.ge HI330.out) | refine below_set ?_ GE326.out) | exact HB.out)⟩

end Go.Proofs.YtjpjlobpglmoiaaDoor.A
/- The reference's drawing of a name, walked. No conditions. -/
namespace Go.Proofs.YtjpjlobpglmoiaaDoor.A
open Go.RowKit Go.Proofs.YtjpjlobpglmoiaaDoorW.PrintWords Go.Proofs.YtjpjlobpglmoiaaDoorW.PrintLast Go.Proofs.YtjpjlobpglmoiaaDoorW.PrintMore
set_option linter.unusedVariables false
set_option linter.unusedSimpArgs false
/-- What a drawn line stands on: the source's state, the scope's box. -/
structure LI (w0 : World) (gs g : Nat) (l : List Int) (at_ seed : Int) (A0 A1 : Option Addr) (c0 c1 : Nat) (N V : List ByteArray) (W : World) : Prop where
  s : IsS75 w0 W gs l at_ seed
  bel : Below w0.heap.size w0 W
  blk : W.heap[g]? = some (.cells #[.slice A0 N.length c0, .slice A1 V.length c1] 27 (0, 0))
  C : Kd.C Kd.string w0 A0 N.length N
  hc : N.length ≤ c0
section
variable {w0 : World} {gs g : Nat} {l : List Int} {at_ seed : Int} {A0 A1 : Option Addr} {c0 c1 : Nat} {N V : List ByteArray} {W : World}
theorem LI.ne (h : LI w0 gs g l at_ seed A0 A1 c0 c1 N V W) : g ≠ gs := fun e => h.s.ne_blk h.blk (by decide) e.symm
theorem LI.draw {W' : World} {at' seed' : Int} (h : LI w0 gs g l at_ seed A0 A1 c0 c1 N V W) (hI : IsS75 w0 W' gs l at' seed') (hB : Below w0.heap.size w0 W') (hk : KeepBut W W' gs none) : LI w0 gs g l at' seed' A0 A1 c0 c1 N V W' :=
  ⟨hI, hB, hk.blk h.blk h.ne (by simp), h.C, h.hc⟩
theorem LI.below {W' : World} (h : LI w0 gs g l at_ seed A0 A1 c0 c1 N V W) (hb : Below W.heap.size W W') : LI w0 gs g l at_ seed A0 A1 c0 c1 N V W' :=
  ⟨h.s.below hb, below_step h.bel hb, (hb.block g (blk_lt h.blk)).trans h.blk, h.C, h.hc⟩
theorem LI.grown {W' : World} (h : LI w0 gs g l at_ seed A0 A1 c0 c1 N V W) (hB : Below w0.heap.size w0 W') (hg : W.grownBy W' none) : LI w0 gs g l at_ seed A0 A1 c0 c1 N V W' :=
  ⟨h.s.grown hg (by simp), hB, blk_grown h.blk hg (by simp), h.C, h.hc⟩
theorem LI.names (h : LI w0 gs g l at_ seed A0 A1 c0 c1 N V W) : Kd.C Kd.string W A0 N.length N := Kd.C_below h.C h.bel
theorem LI.far (h : LI w0 gs g l at_ seed A0 A1 c0 c1 N V W) : ∀ ad, A0 = some ad → 0 < N.length → ad.block ≠ gs := fun ad e hp e2 => by
  subst e
  have h1 := Kd.C_lt h.C hp (by decide)
  have h2 := h.s.ge
  omega
end
def names4 : List ByteArray := [⟨#[97]⟩, ⟨#[98]⟩, ⟨#[110, 105, 120]⟩, ⟨#[]⟩]
theorem reps_names4 {W : World} {base : Nat} (okp : Nat → Prop) : Reps (Kd.string.M W base okp) 1 names4 [.string ⟨#[97]⟩, .string ⟨#[98]⟩, .string ⟨#[110, 105, 120]⟩, .string ⟨#[]⟩] := Reps.one rfl (Reps.one rfl (Reps.one rfl (Reps.one rfl (Reps.none _ _))))
def nameF (l : List Int) (at_ seed : Int) (N : List ByteArray) : Option (ByteArray × Int × Int) :=
  if 0 < N.length then (spec_l00Src_one.f l at_ seed 8).bind fun o => if o.1 = true then spec_l00Src_text.f l o.2.1 o.2.2 names4 else spec_l00Src_text.f l o.2.1 o.2.2 N
  else spec_l00Src_text.f l at_ seed names4
set_option maxHeartbeats 3200000 in
set_option maxRecDepth 100000 in
theorem nameF.calls (gs g : Nat) (l : List Int) (at_ seed : Int) (A0 A1 : Option Addr) (c0 c1 : Nat) (N V : List ByteArray) (r : ByteArray) (a' s' : Int) (w0 w : World) (hL : LI w0 gs g l at_ seed A0 A1 c0 c1 N V w) (h : nameF l at_ seed N = some (r, a', s')) :
    Calls Tryd.prog 57 #[.pointer (some ⟨gs, 0, none⟩), .pointer (some ⟨g, 0, none⟩)] w fun e w' => e = .returned (.string r) ∧ LI w0 gs g l a' s' A0 A1 c0 c1 N V w' ∧ KeepBut w w' gs none := by
  have HL := Aside0.mk hL
  have z0 : w.cell? ⟨g, 0, none⟩ = some (.slice A0 N.length c0) := (blk_cell hL.blk 0).trans rfl
  have KB := Aside0.mk (KeepBut.refl w gs none)
  clear hL
  unfold nameF at h
  by_cases hn : 0 < N.length
  · rw [if_pos hn] at h
    have hnb : decide ((0 : Int) < (N.length : Int)) = true := decide_eq_true (by omega)
    have hnc : decide (0 < N.length) = true := decide_eq_true hn
    replace h := Option.bind_eq_some_iff.1 h
    obtain ⟨⟨o, a1, s1⟩, h1, h⟩ := h
    dsimp only at h
    have H1 := Aside0.mk h1
    clear h1 hn
    cases o with
    | true =>
      rw [if_pos rfl] at h
      have H2 := Aside0.mk h
      clear h
      go_enter Tryd.func57, Tryd.ntmps57
      go_wp2_with (first
        | (go_at_call 61; (with_reducible refine (spec_l00Src_one.calls gs l at_ seed 8 true a1 s1 w0 _ ?hI ?hB H1.out).mono ?_); (case hI => exact HL.out.s); (case hB => exact HL.out.bel); rintro e WL1 ⟨rfl, hI, hB, hK⟩; have L1 := Aside0.mk (HL.out.draw hI hB hK); have KB := Aside0.mk (KB.out.trans hK (.inl rfl)); clear hI hB hK; have zL1 : WL1.cell? ⟨g, 0, none⟩ = some (.slice A0 N.length c0) := (blk_cell L1.out.blk 0).trans rfl)
        | ((with_reducible refine gate_dst (N := 23) rfl ?_); refine Kd.R_lit Kd.string w0.heap.size 9 ?hg (N := 23) ?hd (w0 := w0) (xs := names4) (inner := [.string ⟨#[97]⟩, .string ⟨#[98]⟩, .string ⟨#[110, 105, 120]⟩, .string ⟨#[]⟩]) (ok := fun k_ => k_ ≠ gs) (okp := fun _ => False) ?hr ?hp (fun _ hk => hk.elim) ?hf L1.out.bel L1.out.bel.size (by decide) ?_; (case hd => rfl); (case hg => rfl); (case hr => first | (go_simp; done) | (go_simp; rfl)); (case hp => exact reps_names4 _); (case hf => have h_ := L1.out.s.lt; omega); intro vL2 WL2 ho hb hg_ hnew_; obtain ⟨bL2, pL2, e_, -, -, -⟩ := Kd.R_form ho (by decide); subst e_; have CL2 := Aside0.mk (Kd.R_reads' ho).2; have FL2 := Aside0.mk (show ∀ ad, (some (⟨bL2, 0, none⟩ : Addr)) = some ad → 0 < names4.length → ad.block ≠ gs from (fun ad e_ _ => by (injection e_ with e_; subst e_; exact ho.1 bL2 (by simp [Value.ownBlock])))); have hbl_ := (L1.out.grown hb hg_); have L2 := Aside0.mk hbl_; have KB := Aside0.mk (KB.out.trans (KeepBut.of_grown hg_ gs) (.inl rfl)); clear ho hb hg_ hnew_ hbl_)
        | (go_at_call 58; (with_reducible refine (spec_l00Src_text.calls gs l a1 s1 (some ⟨bL2, 0, none⟩) pL2 names4 r a' s' w0 _ ?hI ?hB ?hC ?hc ?hf H2.out).mono ?_); (case hI => exact L2.out.s); (case hB => exact L2.out.bel); (case hC => exact CL2.out.2); (case hc => exact CL2.out.1); (case hf => exact FL2.out); rintro e WL3 ⟨rfl, hI, hB, hK⟩; have L3 := Aside0.mk (L2.out.draw hI hB hK); have KB := Aside0.mk (KB.out.trans hK (.inl rfl)); clear hI hB hK; have zL3 : WL3.cell? ⟨g, 0, none⟩ = some (.slice A0 N.length c0) := (blk_cell L3.out.blk 0).trans rfl))
      go_ret
      exact ⟨rfl, L3.out, KB.out⟩
    | false =>
      rw [if_neg (by decide)] at h
      have H2 := Aside0.mk h
      clear h
      go_enter Tryd.func57, Tryd.ntmps57
      go_wp2_with (first
        | (go_at_call 61; (with_reducible refine (spec_l00Src_one.calls gs l at_ seed 8 false a1 s1 w0 _ ?hI ?hB H1.out).mono ?_); (case hI => exact HL.out.s); (case hB => exact HL.out.bel); rintro e WL1 ⟨rfl, hI, hB, hK⟩; have L1 := Aside0.mk (HL.out.draw hI hB hK); have KB := Aside0.mk (KB.out.trans hK (.inl rfl)); clear hI hB hK; have zL1 : WL1.cell? ⟨g, 0, none⟩ = some (.slice A0 N.length c0) := (blk_cell L1.out.blk 0).trans rfl)
        | (go_at_call 58; (with_reducible refine (spec_l00Src_text.calls gs l a1 s1 A0 c0 N r a' s' w0 _ ?hI ?hB ?hC ?hc ?hf H2.out).mono ?_); (case hI => exact L1.out.s); (case hB => exact L1.out.bel); (case hC => exact L1.out.names); (case hc => exact L1.out.hc); (case hf => exact L1.out.far); rintro e WL2 ⟨rfl, hI, hB, hK⟩; have L2 := Aside0.mk (L1.out.draw hI hB hK); have KB := Aside0.mk (KB.out.trans hK (.inl rfl)); clear hI hB hK; have zL2 : WL2.cell? ⟨g, 0, none⟩ = some (.slice A0 N.length c0) := (blk_cell L2.out.blk 0).trans rfl))
      go_ret
      exact ⟨rfl, L2.out, KB.out⟩
  · rw [if_neg hn] at h
    have hnb : decide ((0 : Int) < (N.length : Int)) = false := decide_eq_false (by omega)
    have hnc : decide (0 < N.length) = false := decide_eq_false hn
    have H2 := Aside0.mk h
    clear h hn
    go_enter Tryd.func57, Tryd.ntmps57
    go_wp2_with (first
      | ((with_reducible refine gate_dst (N := 23) rfl ?_); refine Kd.R_lit Kd.string w0.heap.size 9 ?hg (N := 23) ?hd (w0 := w0) (xs := names4) (inner := [.string ⟨#[97]⟩, .string ⟨#[98]⟩, .string ⟨#[110, 105, 120]⟩, .string ⟨#[]⟩]) (ok := fun k_ => k_ ≠ gs) (okp := fun _ => False) ?hr ?hp (fun _ hk => hk.elim) ?hf HL.out.bel HL.out.bel.size (by decide) ?_; (case hd => rfl); (case hg => rfl); (case hr => first | (go_simp; done) | (go_simp; rfl)); (case hp => exact reps_names4 _); (case hf => have h_ := HL.out.s.lt; omega); intro vL2 WL2 ho hb hg_ hnew_; obtain ⟨bL2, pL2, e_, -, -, -⟩ := Kd.R_form ho (by decide); subst e_; have CL2 := Aside0.mk (Kd.R_reads' ho).2; have FL2 := Aside0.mk (show ∀ ad, (some (⟨bL2, 0, none⟩ : Addr)) = some ad → 0 < names4.length → ad.block ≠ gs from (fun ad e_ _ => by (injection e_ with e_; subst e_; exact ho.1 bL2 (by simp [Value.ownBlock])))); have hbl_ := (HL.out.grown hb hg_); have L2 := Aside0.mk hbl_; have KB := Aside0.mk (KB.out.trans (KeepBut.of_grown hg_ gs) (.inl rfl)); clear ho hb hg_ hnew_ hbl_)
      | (go_at_call 58; (with_reducible refine (spec_l00Src_text.calls gs l at_ seed (some ⟨bL2, 0, none⟩) pL2 names4 r a' s' w0 _ ?hI ?hB ?hC ?hc ?hf H2.out).mono ?_); (case hI => exact L2.out.s); (case hB => exact L2.out.bel); (case hC => exact CL2.out.2); (case hc => exact CL2.out.1); (case hf => exact FL2.out); rintro e WL3 ⟨rfl, hI, hB, hK⟩; have L3 := Aside0.mk (L2.out.draw hI hB hK); have KB := Aside0.mk (KB.out.trans hK (.inl rfl)); clear hI hB hK; have zL3 : WL3.cell? ⟨g, 0, none⟩ = some (.slice A0 N.length c0) := (blk_cell L3.out.blk 0).trans rfl))
    go_ret
    exact ⟨rfl, L3.out, KB.out⟩
end Go.Proofs.YtjpjlobpglmoiaaDoor.A
/- Setting a wave keeps a scope valid. No conditions. -/
namespace Go.Proofs.YtjpjlobpglmoiaaDoor.Pure
set_option linter.unusedVariables false
set_option linter.unusedSimpArgs false
open Go.RowKit Go.Proofs.YtjpjlobpglmoiaaDoor.A Go.Proofs.YtjpjlobpglmoiaaDoorW.PrintWords Go.Proofs.YtjpjlobpglmoiaaDoorW.PrintLast Go.Proofs.YtjpjlobpglmoiaaDoorW.PrintMore
theorem less_total : ∀ (a b : List UInt8), Op.bytesLess a b = false → a ≠ b → Op.bytesLess b a = true
  | [], [], _, h => absurd rfl h
  | [], _ :: _, h, _ => by simp [Op.bytesLess] at h
  | _ :: _, [], _, _ => by simp [Op.bytesLess]
  | x :: a, y :: b, h, h2 => by
    simp only [Op.bytesLess] at h ⊢
    by_cases c : y < x
    · simp [c]
    · by_cases e : x = y
      · subst e
        simp at h ⊢
        exact less_total a b h (fun e => h2 (by rw [e]))
      · have : x < y := by
          have h1 : ¬ y.toNat < x.toNat := c
          have h3 : x.toNat ≠ y.toNat := fun z => e (UInt8.toNat_inj.1 z)
          show x.toNat < y.toNat
          omega
        simp [this] at h
theorem findI_no : ∀ (l : List ByteArray) (s : ByteArray) (i : Nat), ¬ 0 ≤ findI l s i → ∀ x ∈ l, x.toList ≠ s.toList
  | [], s, i, h => fun x hx => by simp at hx
  | y :: l, s, i, h => fun x hx => by
    simp only [findI] at h
    by_cases e : y.toList = s.toList
    · rw [if_pos e] at h; exact absurd (by omega) h
    · rw [if_neg e] at h
      rcases List.mem_cons.1 hx with rfl | hx
      · exact e
      · exact findI_no l s (i + 1) h x hx
theorem posI_lt : ∀ (l : List ByteArray) (s : ByteArray) (i : Nat) (h : i < l.length), i < posI l s → Op.bytesLess (l[i]'h).toList s.toList = true
  | [], s, i, h, _ => by simp at h
  | x :: l, s, i, h, hp => by
    simp only [posI] at hp
    by_cases c : Op.bytesLess x.toList s.toList = true
    · rw [if_pos c] at hp
      cases i with
      | zero => exact c
      | succ i =>
        rw [List.getElem_cons_succ]
        exact posI_lt l s i (by simpa using h) (by omega)
    · rw [if_neg c] at hp; omega
theorem posI_at : ∀ (l : List ByteArray) (s : ByteArray) (h : posI l s < l.length), Op.bytesLess (l[posI l s]'h).toList s.toList = false
  | [], s, h => by simp at h
  | x :: l, s, h => by
    by_cases c : Op.bytesLess x.toList s.toList = true
    · have e : posI (x :: l) s = posI l s + 1 := by simp only [posI]; rw [if_pos c]
      simp only [e, List.getElem_cons_succ]
      exact posI_at l s _
    · have e : posI (x :: l) s = 0 := by simp only [posI]; rw [if_neg c]
      simp only [e, List.getElem_cons_zero]
      simpa using c
/-- What a valid scope is, in single statements. -/
structure VS (N V : List ByteArray) : Prop where
  six : N.length ≤ 6
  len : V.length = N.length
  nm : ∀ x ∈ N, nameB x = true
  wv : ∀ x ∈ V, waveB x = true
  up : ∀ (i : Nat) (h : i + 1 < N.length), Op.bytesLess (N[i]'(by omega)).toList (N[i + 1]'h).toList = true
theorem getD_at {l : List ByteArray} {i : Nat} (h : i < l.length) : l.getD i ByteArray.empty = l[i] := by simp [h]
theorem VS.scope {N V : List ByteArray} (h : VS N V) : scopeB N V = true := by
  unfold scopeB
  rw [decide_eq_true ⟨h.six, h.len⟩, Bool.true_and, List.all_eq_true]
  intro i hi
  have hi := List.mem_range.1 hi
  unfold atB
  rw [getD_at hi, getD_at (show i < V.length by have := h.len; omega), h.nm _ (List.getElem_mem _), h.wv _ (List.getElem_mem _), Bool.true_and, Bool.and_true]
  cases i with
  | zero => rfl
  | succ i =>
    rw [Nat.add_sub_cancel, getD_at (show i < N.length by omega), h.up i hi, Bool.or_true]
theorem VS.nil : VS [] [] := ⟨by decide, rfl, fun x hx => by simp at hx, fun x hx => by simp at hx, fun i h => by simp at h⟩
theorem VS.set {N V : List ByteArray} (h : VS N V) (name wave : ByteArray) : VS (setF N V name wave).1 (setF N V name wave).2.1 := by
  unfold setF
  by_cases c1 : waveB wave = false
  · rw [if_pos c1]; exact h
  rw [if_neg c1]
  have w1 : waveB wave = true := by simpa using c1
  by_cases c2 : 0 ≤ findI N name 0
  · rw [if_pos c2]
    refine ⟨h.six, by simpa using h.len, h.nm, fun x hx => ?_, h.up⟩
    rcases List.mem_or_eq_of_mem_set hx with hx | rfl
    · exact h.wv x hx
    · exact w1
  rw [if_neg c2]
  by_cases c3 : nameB name = false ∨ 6 ≤ N.length
  · rw [if_pos c3]; exact h
  rw [if_neg c3]
  have n1 : nameB name = true := by
    cases e : nameB name
    · exact absurd (.inl e) c3
    · rfl
  have n6 : N.length < 6 := by
    rcases Nat.lt_or_ge N.length 6 with q | q
    · exact q
    · exact absurd (.inr q) c3
  have hp := posI_le N name
  have hlt := posI_lt N name
  have hat := posI_at N name
  have hno := findI_no N name 0 c2
  obtain ⟨p, hpp⟩ : ∃ p, posI N name = p := ⟨_, rfl⟩
  simp only [hpp] at hp hlt hat ⊢
  have hl := h.len
  refine ⟨by simp; omega, by simp; omega, fun x hx => ?_, fun x hx => ?_, fun i hi => ?_⟩
  · simp only [List.mem_append, List.mem_singleton] at hx
    rcases hx with (hx | rfl) | hx
    · exact h.nm x (List.mem_of_mem_take hx)
    · exact n1
    · exact h.nm x (List.mem_of_mem_drop hx)
  · simp only [List.mem_append, List.mem_singleton] at hx
    rcases hx with (hx | rfl) | hx
    · exact h.wv x (List.mem_of_mem_take hx)
    · exact w1
    · exact h.wv x (List.mem_of_mem_drop hx)
  · have hL : (N.take p ++ [name] ++ N.drop p).length = N.length + 1 := by simp; omega
    have get : ∀ (j : Nat) (hj : j < (N.take p ++ [name] ++ N.drop p).length), (N.take p ++ [name] ++ N.drop p)[j]? = if j < p then N[j]? else if j = p then some name else N[j - 1]? := by
      intro j hj
      rw [List.append_assoc, List.getElem?_append, List.length_take, Nat.min_eq_left hp]
      by_cases q : j < p
      · rw [if_pos q, if_pos q, List.getElem?_take, if_pos q]
      · rw [if_neg q, if_neg q]
        by_cases q2 : j = p
        · rw [if_pos q2, q2, Nat.sub_self]; rfl
        · rw [if_neg q2, List.getElem?_append, if_neg (by simp; omega), List.getElem?_drop]
          congr 1
          simp; omega
    have at_ : ∀ (j : Nat) (hj : j < (N.take p ++ [name] ++ N.drop p).length) (y : ByteArray), (if j < p then N[j]? else if j = p then some name else N[j - 1]?) = some y → (N.take p ++ [name] ++ N.drop p)[j] = y := by
      intro j hj y hy
      have := get j hj
      rw [hy, List.getElem?_eq_getElem hj] at this
      exact Option.some.inj this
    rw [hL] at hi
    by_cases q1 : i + 1 < p
    · rw [at_ i (by omega) (N[i]'(by omega)) (by rw [if_pos (by omega), List.getElem?_eq_getElem]), at_ (i + 1) (by omega) (N[i + 1]'(by omega)) (by rw [if_pos q1, List.getElem?_eq_getElem])]
      exact h.up i (by omega)
    · by_cases q2 : i + 1 = p
      · rw [at_ i (by omega) (N[i]'(by omega)) (by rw [if_pos (by omega), List.getElem?_eq_getElem]), at_ (i + 1) (by omega) name (by rw [if_neg q1, if_pos q2])]
        exact hlt i (by omega) (by omega)
      · by_cases q3 : i = p
        · rw [at_ i (by omega) name (by rw [if_neg (by omega), if_pos q3]), at_ (i + 1) (by omega) (N[p]'(by omega)) (by rw [if_neg (by omega), if_neg (by omega), List.getElem?_eq_getElem (by omega)]; simp [q3])]
          exact less_total _ _ (hat (by omega)) (hno _ (List.getElem_mem _))
        · rw [at_ i (by omega) (N[i - 1]'(by omega)) (by rw [if_neg (by omega), if_neg q3, List.getElem?_eq_getElem]), at_ (i + 1) (by omega) (N[i]'(by omega)) (by rw [if_neg (by omega), if_neg (by omega), List.getElem?_eq_getElem (by omega)]; simp)]
          have hu := h.up (i - 1) (by omega)
          have e : i - 1 + 1 = i := by omega
          simp only [e] at hu
          exact hu
end Go.Proofs.YtjpjlobpglmoiaaDoor.Pure
/- Lists of texts: sizes, copies, equality. No conditions. -/
namespace Go.Proofs.YtjpjlobpglmoiaaDoor.Pure
set_option linter.unusedVariables false
set_option linter.unusedSimpArgs false
open Go.RowKit Go.Proofs.YtjpjlobpglmoiaaDoor.A Go.Proofs.YtjpjlobpglmoiaaDoorW.PrintWords Go.Proofs.YtjpjlobpglmoiaaDoorW.PrintLast Go.Proofs.YtjpjlobpglmoiaaDoorW.PrintMore
theorem w64' {x : Int} (h0 : -9223372036854775808 ≤ x) (h1 : x < 9223372036854775808) : wrap64 x = x := by unfold wrap64; omega
theorem ev_const {α : Type} {g : Nat → Option α} {r : α} (h : ∀ k, g k = some r) : Ev g r := ⟨0, fun k _ => h k⟩
abbrev BA := ByteArray
theorem rds (p : List BA) (x : BA) (l : List BA) (i : Int) (h : i = p.length) : rdOf ByteArray.empty (p ++ x :: l) i = x := by subst h; simp [rdOf]
theorem to_loop : ∀ (l p : List BA) (k : Nat) (q r : List BA) (i : Int), i = p.length → q.length = p.length → r.length = l.length → l.length < k → (p ++ l).length ≤ 2000000 →
    laws_toStringS.l0 k (p ++ l) (q ++ r) i = some (q ++ l)
  | [], p, k, q, r, i, hi, hq, hr, hk, hl => by
    obtain ⟨k, rfl⟩ : ∃ m, k = m + 1 := ⟨k - 1, by omega⟩
    have : r = [] := List.eq_nil_of_length_eq_zero hr
    subst this
    simp only [laws_toStringS.l0]; rw [if_neg (by simp [hi])]
  | x :: l, p, k, q, r, i, hi, hq, hr, hk, hl => by
    obtain ⟨k, rfl⟩ : ∃ m, k = m + 1 := ⟨k - 1, by omega⟩
    simp only [List.length_append, List.length_cons] at hl hk hr
    cases r with
    | nil => simp at hr
    | cons y r =>
    simp only [List.length_cons] at hr
    simp only [laws_toStringS.l0]
    have e : (q ++ y :: r).set (i : Int).toNat x = q ++ x :: r := by
      have : i.toNat = q.length := by omega
      rw [this]; simp
    rw [if_pos (by simp [hi]; omega), if_pos (by omega), if_pos (by simp; omega), rds p x l i hi, e, w64' (x := i + 1) (by omega) (by omega)]
    have h := to_loop l (p ++ [x]) k (q ++ [x]) r (i + 1) (by simp [hi]) (by simp [hq]) (by omega) (by omega) (by simp; omega)
    simp only [List.append_assoc, List.singleton_append] at h
    exact h
theorem ev_to (l : List BA) (hl : l.length ≤ 1048576) : Ev (fun k => laws_toStringS.f k l) l := by
  refine ⟨l.length + 1, fun k hk => ?_⟩
  show laws_toStringS.f k l = some l
  unfold laws_toStringS.f
  rw [if_pos (by omega), if_pos (by simp; omega)]
  have := to_loop l [] k [] (List.replicate ((l.length : Int) : Int).toNat (⟨#[]⟩ : ByteArray)) 0 rfl rfl (by simp) (by omega) (by simp; omega)
  simp only [List.nil_append] at this
  exact this
theorem eqs_loop : ∀ (l p : List BA) (k : Nat) (i : Int), i = p.length → l.length < k → (p ++ l).length ≤ 2000000 → laws_eqStringS.l0 k (p ++ l) (p ++ l) i = some true
  | [], p, k, i, hi, hk, hl => by
    obtain ⟨k, rfl⟩ : ∃ m, k = m + 1 := ⟨k - 1, by omega⟩
    simp only [laws_eqStringS.l0]; rw [if_neg (by simp [hi])]
  | x :: l, p, k, i, hi, hk, hl => by
    obtain ⟨k, rfl⟩ : ∃ m, k = m + 1 := ⟨k - 1, by omega⟩
    simp only [List.length_append, List.length_cons] at hl hk
    simp only [laws_eqStringS.l0]
    rw [if_pos (by simp [hi]; omega), if_pos (by omega), if_pos (by simp [hi]; omega), if_pos trivial, w64' (x := i + 1) (by omega) (by omega)]
    have h := eqs_loop l (p ++ [x]) k (i + 1) (by simp [hi]) (by omega) (by simp; omega)
    simpa using h
theorem ev_eqs (l : List BA) (hl : l.length ≤ 1048576) : Ev (fun k => laws_eqStringS.f k l l) true := by
  refine ⟨l.length + 1, fun k hk => ?_⟩
  show laws_eqStringS.f k l l = some true
  unfold laws_eqStringS.f; rw [if_pos rfl]
  have := eqs_loop l [] k 0 rfl (by omega) (by simpa using (by omega : l.length ≤ 2000000))
  simpa using this
/-- The bytes of a list of texts. -/
def bulk : List BA → Nat
  | [] => 0
  | x :: l => x.size + bulk l
theorem bulk_mem {l : List BA} {x : BA} (h : x ∈ l) : x.size ≤ bulk l := by
  induction l with
  | nil => cases h
  | cons y l ih =>
    unfold bulk
    rcases List.mem_cons.1 h with rfl | h
    · omega
    · have := ih h; omega
theorem ev_szl : ∀ (l p : List BA) (i a : Int), i = p.length → (p ++ l).length ≤ 2000000 → 0 ≤ a → a ≤ 1048576 → (∀ x ∈ l, x.size ≤ maxLen) → ∃ r, Ev (fun k => laws_szStringS.l0 k (p ++ l) a i) r ∧ (r < 0 ∨ 0 ≤ r ∧ r + bulk l = a)
  | [], p, i, a, hi, hl, h0, h1, hs => ⟨a, Ev.step (f := fun _ => some a) (fun k => by simp only [laws_szStringS.l0]; rw [if_neg (by simp [hi])]) (Ev.now _), .inr ⟨h0, by unfold bulk; omega⟩⟩
  | x :: l, p, i, a, hi, hl, h0, h1, hs => by
    have hx := hs x (by simp)
    have hm : maxLen = 9223372036854775807 := rfl
    simp only [List.length_append, List.length_cons] at hl
    have e : ∀ k, laws_szStringS.l0 (k + 1) (p ++ x :: l) a i = if a - (x.size : Int) < 0 then some (-1) else laws_szStringS.l0 k (p ++ x :: l) (a - (x.size : Int)) (i + 1) := by
      intro k
      simp only [laws_szStringS.l0]
      rw [if_pos (by simp [hi]; omega), if_pos (by omega), rds p x l i hi, w64' (x := i + 1) (by omega) (by omega), w64' (x := a - (x.size : Int)) (by omega) (by omega)]
    by_cases c : a - (x.size : Int) < 0
    · exact ⟨-1, Ev.step (f := fun _ => some (-1)) (fun k => by rw [e, if_pos c]) (Ev.now _), .inl (by decide)⟩
    · obtain ⟨r, hr, hrr⟩ := ev_szl l (p ++ [x]) (i + 1) (a - (x.size : Int)) (by simp [hi]) (by simp; omega) (by omega) (by omega) (fun y hy => hs y (by simp [hy]))
      simp only [List.append_assoc, List.singleton_append] at hr
      refine ⟨r, Ev.step (f := fun k => laws_szStringS.l0 k (p ++ x :: l) (a - (x.size : Int)) (i + 1)) (fun k => by rw [e, if_neg c]) hr, ?_⟩
      rcases hrr with h | ⟨h, h2⟩
      · exact .inl h
      · exact .inr ⟨h, by unfold bulk; omega⟩
theorem ev_sz (l : List BA) (a : Int) (h0 : 0 ≤ a) (h1 : a ≤ 1048576) (hl : l.length ≤ maxLen) (hs : ∀ x ∈ l, x.size ≤ maxLen) : ∃ r, Ev (fun k => laws_szStringS.f k l a) r ∧ (r < 0 ∨ 0 ≤ r ∧ r + bulk l + l.length = a) := by
  have hm : maxLen = 9223372036854775807 := rfl
  unfold laws_szStringS.f
  rw [w64' (x := a - (l.length : Int)) (by omega) (by omega)]
  by_cases c : a - (l.length : Int) < 0
  · simp only [if_pos c]
    exact ⟨-1, Ev.now _, .inl (by decide)⟩
  · simp only [if_neg c]
    obtain ⟨r, hr, hrr⟩ := ev_szl l [] 0 (a - (l.length : Int)) rfl (by simp; omega) (by omega) (by omega) hs
    simp only [List.nil_append] at hr
    refine ⟨r, hr, ?_⟩
    rcases hrr with h | ⟨h, h2⟩
    · exact .inl h
    · exact .inr ⟨h, by omega⟩
end Go.Proofs.YtjpjlobpglmoiaaDoor.Pure
/- What the reference draws: bytes, numbers. No conditions. -/
namespace Go.Proofs.YtjpjlobpglmoiaaDoor.Pure
set_option linter.unusedVariables false
set_option linter.unusedSimpArgs false
open Go.RowKit Go.Proofs.YtjpjlobpglmoiaaDoor.A Go.Proofs.YtjpjlobpglmoiaaDoorW.PrintWords Go.Proofs.YtjpjlobpglmoiaaDoorW.PrintLast Go.Proofs.YtjpjlobpglmoiaaDoorW.PrintMore
def U8 (l : List Int) : Prop := ∀ x ∈ l, (Lit.int .u8 x).wf = true
theorem u8_rd {l : List Int} (h : U8 l) (i : Int) : 0 ≤ rd l i ∧ rd l i ≤ 255 := by
  unfold rd
  rw [List.getD_eq_getElem?_getD]
  rcases hq : l[i.toNat]? with _ | x
  · simp
  · have hm := h x (List.mem_of_getElem? hq)
    simp only [Lit.wf, Bool.and_eq_true, decide_eq_true_eq] at hm
    have e1 : IntKind.u8.min = 0 := rfl
    have e2 : IntKind.u8.max = 255 := rfl
    simp only [Option.getD_some]; omega
theorem b10At_eq {l : List Int} (h : U8 l) (k n : Int) (hk : 0 ≤ k ∧ k ≤ 1000000) (hn : 1 ≤ n) : ∃ x, laws_b10At.f l k n = some x ∧ 0 ≤ x ∧ x < n := by
  unfold laws_b10At.f
  by_cases h1 : n ≤ 1
  · exact ⟨0, by rw [if_pos h1], by omega, by omega⟩
  · rw [if_neg h1]
    by_cases h2 : k < (l.length : Int)
    · have hr := u8_rd h k
      rw [if_pos h2, if_pos hk.1, if_neg (by omega), w64' (by omega) (by omega), Int.tmod_eq_emod_of_nonneg hr.1]
      exact ⟨_, rfl, Int.emod_nonneg _ (by omega), Int.emod_lt_of_pos _ (by omega)⟩
    · rw [if_neg h2, if_neg (by omega), w64' (x := k * 37) (by omega) (by omega), w64' (by omega) (by omega), Int.tmod_eq_emod_of_nonneg (by omega)]
      exact ⟨_, rfl, Int.emod_nonneg _ (by omega), Int.emod_lt_of_pos _ (by omega)⟩
theorem long_eq (l0 l1 : List Int) : ∃ t, laws_b10Long.f l0 l1 = some t ∧ (t = false → l0.length ≤ 1048576 ∧ l1.length ≤ 1048576) := by
  unfold laws_b10Long.f
  by_cases c : (l0.length : Int) > 1048576
  · exact ⟨true, if_pos c, fun z => by cases z⟩
  · rw [if_neg c]
    refine ⟨_, rfl, fun z => ?_⟩
    have := of_decide_eq_false z
    omega
theorem w64 {x : Int} (h1 : -9223372036854775808 ≤ x) (h2 : x ≤ 9223372036854775807) : wrap64 x = x := by unfold wrap64; omega
theorem wu64 (n : Int) : IntKind.u64.wrap n = n % 18446744073709551616 := by simp [IntKind.wrap, IntKind.bits, IntKind.signed]
theorem and255 (x : Int) (h0 : 0 ≤ x) (h1 : x < 16777216) : bits .and .u64 x 255 = x % 256 :=
  bits_mask .u64 24 (by decide) (fun n a b => by rw [wu64]; simp at b; omega) 8 (by decide) x h0 (by simpa using h1)
theorem tmod_pos (x n : Int) (h0 : 0 ≤ x) : Int.tmod x n = x % n := Int.tmod_eq_emod_of_nonneg h0

theorem next_eq {l : List Int} (h : U8 l) (at_ seed : Int) (h0 : 0 ≤ at_) (h1 : at_ ≤ 100000) : ∃ v s, spec_l00Src_next.f l at_ seed = some (v, at_ + 1, s) ∧ 0 ≤ v ∧ v ≤ 255 := by
  unfold spec_l00Src_next.f
  have hr := u8_rd h at_
  have hw : wrap64 (at_ + 1) = at_ + 1 := w64 (by omega) (by omega)
  have hb : ∀ e : Int, 0 ≤ wrap64 (bits .and .u64 ((IntKind.u64.wrap e) / 1099511627776) 255) ∧ wrap64 (bits .and .u64 ((IntKind.u64.wrap e) / 1099511627776) 255) ≤ 255 := by
    intro e
    rw [wu64, and255 _ (by omega) (by omega), w64 (by omega) (by omega)]; omega
  rw [hw]
  by_cases c1 : at_ < (l.length : Int)
  · rw [if_pos c1, if_pos h0]
    split
    · exact ⟨_, _, rfl, by rw [w64 (by omega) (by omega)]; omega, by rw [w64 (by omega) (by omega)]; omega⟩
    · exact ⟨_, _, rfl, (hb _).1, (hb _).2⟩
  · rw [if_neg c1]
    split
    · exact ⟨_, _, rfl, by omega, by omega⟩
    · exact ⟨_, _, rfl, (hb _).1, (hb _).2⟩

theorem pick_small {l : List Int} (h : U8 l) (at_ seed n : Int) (h0 : 0 ≤ at_) (h1 : at_ ≤ 100000) (hn : 2 ≤ n) (hn' : n ≤ 200) : ∃ v s, spec_l00Src_pick.f l at_ seed n = some (v, at_ + 1, s) ∧ 0 ≤ v ∧ v < n := by
  obtain ⟨v, s, e, v0, v1⟩ := next_eq h at_ seed h0 h1
  refine ⟨v % n, s, ?_, Int.emod_nonneg _ (by omega), Int.emod_lt_of_pos _ (by omega)⟩
  unfold spec_l00Src_pick.f
  rw [if_neg (by omega), e]
  simp only [Option.bind_some]
  rw [if_neg (by omega), if_neg (by omega), tmod_pos _ _ v0]
theorem one_small {l : List Int} (h : U8 l) (at_ seed n : Int) (h0 : 0 ≤ at_) (h1 : at_ ≤ 100000) (hn : 2 ≤ n) (hn' : n ≤ 200) : ∃ v s, spec_l00Src_one.f l at_ seed n = some (v, at_ + 1, s) := by
  obtain ⟨v, s, e, -, -⟩ := pick_small h at_ seed n h0 h1 hn hn'
  refine ⟨v == 0, s, ?_⟩
  unfold spec_l00Src_one.f
  rw [e]; rfl
theorem pick_any {l : List Int} (h : U8 l) (at_ seed n : Int) (h0 : 0 ≤ at_) (h1 : at_ ≤ 100000) (hn : 1 ≤ n) (hn' : n ≤ 200) : ∃ v a s, spec_l00Src_pick.f l at_ seed n = some (v, a, s) ∧ 0 ≤ v ∧ v < n ∧ at_ ≤ a ∧ a ≤ at_ + 1 := by
  by_cases c : n = 1
  · subst c
    refine ⟨0, at_, seed, ?_, by omega, by omega, by omega, by omega⟩
    unfold spec_l00Src_pick.f; rw [if_pos (by omega)]
  · obtain ⟨v, s, e, v0, v1⟩ := pick_small h at_ seed n h0 h1 (by omega) hn'
    exact ⟨v, at_ + 1, s, e, v0, v1, by omega, by omega⟩
theorem one_any {l : List Int} (h : U8 l) (at_ seed n : Int) (h0 : 0 ≤ at_) (h1 : at_ ≤ 100000) (hn : 1 ≤ n) (hn' : n ≤ 200) : ∃ v a s, spec_l00Src_one.f l at_ seed n = some (v, a, s) ∧ at_ ≤ a ∧ a ≤ at_ + 1 := by
  obtain ⟨v, a, s, e, -, -, a0, a1⟩ := pick_any h at_ seed n h0 h1 hn hn'
  refine ⟨v == 0, a, s, ?_, a0, a1⟩
  unfold spec_l00Src_one.f
  rw [e]; rfl
end Go.Proofs.YtjpjlobpglmoiaaDoor.Pure
/- What the reference draws: levels and waves, and where the source stands behind them. No conditions. -/
namespace Go.Proofs.YtjpjlobpglmoiaaDoor.Pure
set_option linter.unusedVariables false
set_option linter.unusedSimpArgs false
open Go.RowKit Go.Proofs.YtjpjlobpglmoiaaDoor.A Go.Proofs.YtjpjlobpglmoiaaDoorW.PrintWords Go.Proofs.YtjpjlobpglmoiaaDoorW.PrintLast Go.Proofs.YtjpjlobpglmoiaaDoorW.PrintMore
theorem ev_levels {l : List Int} (h : U8 l) : ∀ (d : Nat) (acc : List Int) (lev at_ seed : Int), (lev = 48 ∨ lev = 49) → (∀ x ∈ acc, x = 48 ∨ x = 49) → 0 ≤ at_ → at_ + d ≤ 100000 → acc.length + d ≤ 1000 →
    ∃ xs p q, xs.length = acc.length + d ∧ (at_ ≤ p ∧ p ≤ at_ + d) ∧ (∀ x ∈ xs, x = 48 ∨ x = 49) ∧ Ev (fun k => spec_l07DrawLevels.l0 k (d : Int) acc lev l at_ seed) (strOfNums xs, p, q)
  | 0, acc, lev, at_, seed, hl, ha, h0, h1, h2 => by
    refine ⟨acc, at_, seed, by omega, by omega, ha, Ev.step (f := fun _ => some (strOfNums acc, at_, seed)) (fun k => ?_) (Ev.now _)⟩
    simp only [spec_l07DrawLevels.l0]
    rw [if_neg (by omega)]
  | d + 1, acc, lev, at_, seed, hl, ha, h0, h1, h2 => by
    obtain ⟨v, s, e⟩ := one_small h at_ seed 6 h0 (by omega) (by omega) (by omega)
    have hacc : ∀ y : Int, (y = 48 ∨ y = 49) → ∀ x ∈ acc ++ [y], x = 48 ∨ x = 49 := by
      intro y hy x hx
      rcases List.mem_append.1 hx with h_ | h_
      · exact ha x h_
      · rw [List.mem_singleton.1 h_]; exact hy
    have hw : wrap64 (((d + 1 : Nat) : Int) - 1) = (d : Int) := by rw [w64 (by omega) (by omega)]; omega
    have step : ∀ y : Int, (y = 48 ∨ y = 49) → (∀ k, spec_l07DrawLevels.l0 (k + 1) ((d + 1 : Nat) : Int) acc lev l at_ seed = spec_l07DrawLevels.l0 k (d : Int) (acc ++ [y]) y l (at_ + 1) s) →
        ∃ xs p q, xs.length = acc.length + (d + 1) ∧ (at_ ≤ p ∧ p ≤ at_ + (d + 1 : Nat)) ∧ (∀ x ∈ xs, x = 48 ∨ x = 49) ∧ Ev (fun k => spec_l07DrawLevels.l0 k ((d + 1 : Nat) : Int) acc lev l at_ seed) (strOfNums xs, p, q) := by
      intro y hy hk
      obtain ⟨xs, p, q, x1, x0, x2, x3⟩ := ev_levels h d (acc ++ [y]) y (at_ + 1) s hy (hacc y hy) (by omega) (by omega) (by rw [List.length_append]; simp; omega)
      exact ⟨xs, p, q, by rw [x1, List.length_append]; simp; omega, by omega, x2, Ev.step hk x3⟩
    cases v
    · refine step lev hl (fun k => ?_)
      simp only [spec_l07DrawLevels.l0]
      rw [if_pos (by omega), e]
      simp only [Option.bind_some, Bool.false_eq_true, if_false]
      rw [if_pos (by omega), hw]
    · refine step ((97 - lev) % 256) (by rcases hl with rfl | rfl <;> simp) (fun k => ?_)
      simp only [spec_l07DrawLevels.l0]
      rw [if_pos (by omega), e]
      simp only [Option.bind_some, if_true]
      rw [if_pos (by omega), hw]
theorem ev_drawLevels {l : List Int} (h : U8 l) (at_ seed : Int) (n : Nat) (h0 : 0 ≤ at_ ∧ at_ ≤ 80000) (hn : n ≤ 400) : ∃ (xs : List Int) (p q : Int), xs.length = n ∧ (at_ ≤ p ∧ p ≤ at_ + n + 1) ∧ (∀ x ∈ xs, x = 48 ∨ x = 49) ∧ Ev (fun k => spec_l07DrawLevels.f k l at_ seed (n : Int)) (strOfNums xs, p, q) := by
  obtain ⟨v, s, e, v0, v1⟩ := pick_small h at_ seed 2 h0.1 (by omega) (by omega) (by omega)
  have hlev : (wrap64 (48 + v)) % 256 = 48 ∨ (wrap64 (48 + v)) % 256 = 49 := by
    rw [w64 (by omega) (by omega)]; omega
  obtain ⟨xs, p, q, x1, x0, x2, x3⟩ := ev_levels h n [] ((wrap64 (48 + v)) % 256) (at_ + 1) s hlev (fun x hx => by simp at hx) (by omega) (by omega) (by simp; omega)
  refine ⟨xs, p, q, by simpa using x1, by omega, x2, ?_⟩
  unfold spec_l07DrawLevels.f
  simp only [e, Option.bind_some]
  exact x3
theorem ev_good {l : List Int} (h : U8 l) (some_ : Int) (hs : 1 ≤ some_ ∧ some_ ≤ 5) : ∀ (d : Nat) (acc : List Int) (lev at_ seed : Int), (lev = 48 ∨ lev = 49) → (∀ x ∈ acc, x = 48 ∨ x = 49) → 0 ≤ at_ → at_ + 2 * d ≤ 90000 → acc.length + d ≤ 1000 →
    ∃ xs p q, xs.length = acc.length + d ∧ (at_ ≤ p ∧ p ≤ at_ + 2 * d) ∧ (∀ x ∈ xs, x = 48 ∨ x = 49) ∧ Ev (fun k => spec_l01DrawGood.l0 k acc lev some_ (d : Int) l at_ seed) (strOfNums xs, p, q)
  | 0, acc, lev, at_, seed, hl, ha, h0, h1, h2 => by
    refine ⟨acc, at_, seed, by omega, by omega, ha, Ev.step (f := fun _ => some (strOfNums acc, at_, seed)) (fun k => ?_) (Ev.now _)⟩
    simp only [spec_l01DrawGood.l0]
    rw [if_neg (by omega)]
  | d + 1, acc, lev, at_, seed, hl, ha, h0, h1, h2 => by
    obtain ⟨v, a, s, e, a0, a1⟩ := one_any h at_ seed some_ h0 (by omega) hs.1 (by omega)
    have hacc : ∀ y : Int, (y = 48 ∨ y = 49) → ∀ x ∈ acc ++ [y], x = 48 ∨ x = 49 := by
      intro y hy x hx
      rcases List.mem_append.1 hx with h_ | h_
      · exact ha x h_
      · rw [List.mem_singleton.1 h_]; exact hy
    have hw : wrap64 (((d + 1 : Nat) : Int) - 1) = (d : Int) := by rw [w64 (by omega) (by omega)]; omega
    have step : ∀ (y a' s' : Int), (y = 48 ∨ y = 49) → at_ ≤ a' → a' ≤ at_ + 2 → (∀ k, spec_l01DrawGood.l0 (k + 1) acc lev some_ ((d + 1 : Nat) : Int) l at_ seed = spec_l01DrawGood.l0 k (acc ++ [y]) y some_ (d : Int) l a' s') →
        ∃ xs p q, xs.length = acc.length + (d + 1) ∧ (at_ ≤ p ∧ p ≤ at_ + 2 * (d + 1 : Nat)) ∧ (∀ x ∈ xs, x = 48 ∨ x = 49) ∧ Ev (fun k => spec_l01DrawGood.l0 k acc lev some_ ((d + 1 : Nat) : Int) l at_ seed) (strOfNums xs, p, q) := by
      intro y a' s' hy q0 q1 hk
      obtain ⟨xs, p, q, x1, x0, x2, x3⟩ := ev_good h some_ hs d (acc ++ [y]) y a' s' hy (hacc y hy) (by omega) (by omega) (by rw [List.length_append]; simp; omega)
      exact ⟨xs, p, q, by rw [x1, List.length_append]; simp; omega, by omega, x2, Ev.step hk x3⟩
    cases v
    · refine step lev a s hl (by omega) (by omega) (fun k => ?_)
      simp only [spec_l01DrawGood.l0]
      rw [if_pos (by omega), e]
      simp only [Option.bind_some, Bool.false_eq_true, if_false]
      rw [if_pos (by omega), hw]
    · obtain ⟨v2, s2, e2, z0, z1⟩ := pick_small h a s 2 (by omega) (by omega) (by omega) (by omega)
      have hlev : (wrap64 (48 + v2)) % 256 = 48 ∨ (wrap64 (48 + v2)) % 256 = 49 := by
        rw [w64 (by omega) (by omega)]; omega
      refine step ((wrap64 (48 + v2)) % 256) (a + 1) s2 hlev (by omega) (by omega) (fun k => ?_)
      simp only [spec_l01DrawGood.l0]
      rw [if_pos (by omega), e]
      simp only [Option.bind_some, if_true]
      rw [e2]
      simp only [Option.bind_some]
      rw [if_pos (by omega), hw]
theorem ev_drawGood {l : List Int} (h : U8 l) (at_ seed most : Int) (h0 : 0 ≤ at_ ∧ at_ ≤ 80000) (hm : 1 ≤ most ∧ most ≤ 100) : ∃ (xs : List Int) (p q : Int), (xs.length : Int) ≤ most ∧ (at_ ≤ p ∧ p ≤ at_ + 2 * most + 3) ∧ (∀ x ∈ xs, x = 48 ∨ x = 49) ∧ Ev (fun k => spec_l01DrawGood.f k l at_ seed most) (strOfNums xs, p, q) := by
  obtain ⟨v, s, e, v0, v1⟩ := pick_small h at_ seed 2 h0.1 (by omega) (by omega) (by omega)
  obtain ⟨v2, s2, e2, z0, z1⟩ := pick_small h (at_ + 1) s 5 (by omega) (by omega) (by omega) (by omega)
  obtain ⟨v3, s3, e3, y0, y1⟩ := pick_small h (at_ + 1 + 1) s2 (most + 1) (by omega) (by omega) (by omega) (by omega)
  have hlev : (wrap64 (48 + v)) % 256 = 48 ∨ (wrap64 (48 + v)) % 256 = 49 := by
    rw [w64 (by omega) (by omega)]; omega
  obtain ⟨n, rfl⟩ := Int.eq_ofNat_of_zero_le y0
  obtain ⟨xs, p, q, x1, x0, x2, x3⟩ := ev_good h (1 + v2) (by omega) n [] ((wrap64 (48 + v)) % 256) (at_ + 1 + 1 + 1) s3 hlev (fun x hx => by simp at hx) (by omega) (by omega) (by simp; omega)
  refine ⟨xs, p, q, by rw [x1]; simp; omega, by omega, x2, ?_⟩
  unfold spec_l01DrawGood.f
  simp only [e, e2, Option.bind_some]
  rw [w64 (x := most + 1) (by omega) (by omega), w64 (x := 1 + v2) (by omega) (by omega)]
  simp only [e3, Option.bind_some]
  exact x3
theorem text_any {l : List Int} (h : U8 l) (at_ seed : Int) (L : List ByteArray) (h0 : 0 ≤ at_ ∧ at_ ≤ 80000) (hL : 1 ≤ L.length) (hL' : L.length ≤ 200) : ∃ x a s, spec_l00Src_text.f l at_ seed L = some (x, a, s) ∧ x ∈ L ∧ at_ ≤ a ∧ a ≤ at_ + 1 := by
  obtain ⟨v, a, s, e, v0, v1, a0, a1⟩ := pick_any h at_ seed (L.length : Int) h0.1 (by omega) (by omega) (by omega)
  have hlt : v.toNat < L.length := by omega
  refine ⟨rdOf ByteArray.empty L v, a, s, ?_, ?_, a0, a1⟩
  · unfold spec_l00Src_text.f
    rw [e]
    simp only [Option.bind_some]
    rw [if_pos v0, if_pos v1]
  · simp only [rdOf, List.getD_eq_getElem?_getD, List.getElem?_eq_getElem hlt, Option.getD_some]
    exact List.getElem_mem hlt
end Go.Proofs.YtjpjlobpglmoiaaDoor.Pure
/- The reference draws valid scopes. No conditions. -/
namespace Go.Proofs.YtjpjlobpglmoiaaDoor.Pure
set_option linter.unusedVariables false
set_option linter.unusedSimpArgs false
open Go.RowKit Go.Proofs.YtjpjlobpglmoiaaDoor.A Go.Proofs.YtjpjlobpglmoiaaDoorW.PrintWords Go.Proofs.YtjpjlobpglmoiaaDoorW.PrintLast Go.Proofs.YtjpjlobpglmoiaaDoorW.PrintMore
theorem strn_size (l : List Int) : (strOfNums l).size = l.length := by
  simp [strOfNums, ByteArray.size]
theorem names5_small {x : ByteArray} (h : x ∈ names5) : x.size ≤ 1000 := by
  simp only [names5, List.mem_cons, List.not_mem_nil, or_false] at h
  rcases h with rfl | rfl | rfl | rfl | rfl <;> decide
theorem ev_dok {l : List Int} (h : U8 l) (n : Nat) (hn : n < 30) : ∀ (d : Nat) (at_ seed : Int) (N V : List ByteArray), VS N V → 0 ≤ at_ → at_ + 200 * d ≤ 60000 → ∃ N' V' p q, VS N' V' ∧ Ev (fun k => dokL k l (n : Int) (d : Int) at_ seed N V) (N', V', p, q)
  | 0, at_, seed, N, V, hv, h0, h1 => ⟨N, V, at_, seed, hv, Ev.step (f := fun _ => some (N, V, at_, seed)) (fun k => by rw [dokL, if_neg (by omega)]) (Ev.now _)⟩
  | d + 1, at_, seed, N, V, hv, h0, h1 => by
    obtain ⟨x, a, s, e, hx, a0, a1⟩ := text_any h at_ seed names5 (by omega) (by decide) (by decide)
    obtain ⟨xs, p, q, x1, x0, x2, x3⟩ := ev_drawLevels h a s n (by omega) (by omega)
    obtain ⟨b, p2, s2, e2, b0, b1⟩ := one_any h p q 3 (by omega) (by omega) (by omega) (by omega)
    have hz : (strOfNums xs).size ≤ 1000 := by rw [strn_size]; omega
    have hw : wrap64 (((d + 1 : Nat) : Int) - 1) = (d : Int) := by rw [w64 (by omega) (by omega)]; omega
    have hc : V.length = N.length ∧ x.size ≤ 1000 := ⟨hv.len, names5_small hx⟩
    have first : ∀ k, dokL (k + 1) l (n : Int) ((d + 1 : Nat) : Int) at_ seed N V = (spec_l07DrawLevels.f k l a s (n : Int)).bind fun b => (spec_l00Src_one.f l b.2.1 b.2.2 3).bind fun c =>
        if V.length = N.length ∧ x.size ≤ 1000 then
          if c.1 = true then (spec_l01DrawGood.f k l c.2.1 c.2.2 30).bind fun g => if g.1.size ≤ 1000 then dokL k l (n : Int) (d : Int) g.2.1 g.2.2 (setF N V x g.1).1 (setF N V x g.1).2.1 else none
          else if b.1.size ≤ 1000 then dokL k l (n : Int) (d : Int) c.2.1 c.2.2 (setF N V x b.1).1 (setF N V x b.1).2.1 else none
        else none := by
      intro k
      rw [dokL, if_pos (by omega), e, hw]
      rfl
    cases b
    · obtain ⟨N', V', p', q', hv', he⟩ := ev_dok h n hn d p2 s2 _ _ (hv.set x (strOfNums xs)) (by omega) (by omega)
      refine ⟨N', V', p', q', hv', Ev.step first (Ev.bind x3 ?_)⟩
      dsimp only
      rw [e2]
      simp only [Option.bind_some, if_pos hc, if_pos hz, Bool.false_eq_true, if_false]
      exact he
    · obtain ⟨ys, p3, q3, y1, y0, y2, y3⟩ := ev_drawGood h p2 s2 30 (by omega) (by omega)
      have hz2 : (strOfNums ys).size ≤ 1000 := by rw [strn_size]; omega
      obtain ⟨N', V', p', q', hv', he⟩ := ev_dok h n hn d p3 q3 _ _ (hv.set x (strOfNums ys)) (by omega) (by omega)
      refine ⟨N', V', p', q', hv', Ev.step first (Ev.bind x3 ?_)⟩
      dsimp only
      rw [e2]
      simp only [Option.bind_some, if_pos hc, if_true]
      refine Ev.bind y3 ?_
      simp only [if_pos hz2]
      exact he
theorem b10Scope {l : List Int} (h : U8 l) : ∃ N V, VS N V ∧ Ev (fun k => spec_B10Scope.f k l) (N, V) := by
  obtain ⟨n, s, e, v0, v1⟩ := pick_small h 0 0 30 (by omega) (by omega) (by omega) (by omega)
  obtain ⟨m, s2, e2, z0, z1⟩ := pick_small h (0 + 1) s 4 (by omega) (by omega) (by omega) (by omega)
  obtain ⟨n, rfl⟩ := Int.eq_ofNat_of_zero_le v0
  obtain ⟨m, rfl⟩ := Int.eq_ofNat_of_zero_le z0
  obtain ⟨N, V, p, q, hv, he⟩ := ev_dok h n (by omega) m (0 + 1 + 1) s2 [] [] VS.nil (by omega) (by omega)
  refine ⟨N, V, hv, ?_⟩
  unfold spec_B10Scope.f spec_l00From.f
  simp only [Option.bind_some]
  refine Ev.bind (a := (N, V, p, q)) ?_ (Ev.now _)
  unfold spec_l11DrawOk.f
  simp only [e, e2, Option.bind_some]
  exact he
end Go.Proofs.YtjpjlobpglmoiaaDoor.Pure
