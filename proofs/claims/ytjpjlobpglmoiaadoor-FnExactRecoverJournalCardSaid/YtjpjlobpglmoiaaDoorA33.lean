-- Printed by this session's oprint.py through the kit's printer.
import Derived.Test.YtjpjlobpglmoiaaDoorA0
import Derived.Test.YtjpjlobpglmoiaaDoorA51
import Derived.Test.YtjpjlobpglmoiaaDoorA52
namespace Go.Proofs.YtjpjlobpglmoiaaDoor.A
open Go.RowKit Go.Proofs.YtjpjlobpglmoiaaDoorW.PrintWords Go.Proofs.YtjpjlobpglmoiaaDoorW.PrintLast Go.Proofs.YtjpjlobpglmoiaaDoorW.PrintMore
attribute [local go_sem] max2_int min2_int max_two min_two max_three min_three max_four min_four   -- for this text's walks alone
set_option linter.unusedVariables false
set_option linter.unusedSimpArgs false

/-! ### impl_journalLine: function 33 -/
def impl_journalLine.f (k : Nat) (a0 : Int) (a1 : ByteArray) : Option (ByteArray × Int) := (impl_CheckOf.f k a0 a1).bind fun bt181 => ((impl_Decimal.f bt181.1).bind fun t183 => (if t183.size + 1 ≤ 9223372036854775807 then (if (t183 ++ (⟨#[32]⟩ : ByteArray)).size + a1.size ≤ 9223372036854775807 then (if ((t183 ++ (⟨#[32]⟩ : ByteArray)) ++ a1).size + 1 ≤ 9223372036854775807 then (some (((t183 ++ (⟨#[32]⟩ : ByteArray)) ++ a1) ++ (⟨#[10]⟩ : ByteArray), bt181.1)) else (none)) else (none)) else (none)))
theorem impl_journalLine.mono : ∀ a0 a1 k, LeO (impl_journalLine.f k a0 a1) (impl_journalLine.f (k + 1) a0 a1) := by
  intro a0 a1 k
  unfold impl_journalLine.f
  repeat' first
      | (with_reducible exact impl_CheckOf.mono _ _ _)
      | (with_reducible exact LeO.refl _)
      | (with_reducible exact LeO.none _)
      | (with_reducible refine LeO.ite ?_ ?_)
      | (with_reducible refine LeO.bind ?_ (fun _ => ?_))
      | exact impl_CheckOf.mono _ _ _
      | exact LeO.none _
      | refine LeO.ite ?_ ?_
      | refine LeO.bind ?_ (fun _ => ?_)
set_option maxHeartbeats 8000000 in
set_option maxRecDepth 100000 in
theorem impl_journalLine.calls (k : Nat) (a0 : Int) (a1 : ByteArray) (r1 : ByteArray) (r2 : Int) (w : World) (hT0 : TabOk w) (h : impl_journalLine.f k a0 a1 = some (r1, r2)) :
    Calls Tryd.prog 33 #[.int .i64 a0, .string a1] w fun e w' => e = .returned (.tuple #[.string r1, .int .i64 r2]) ∧ Below w.heap.size w w' := by
  have HT0 := Aside0.mk hT0
  clear hT0
  have HB := Aside0.mk (Below.refl w.heap.size w)
  have H : ((impl_CheckOf.f k a0 a1).bind fun bt181 => ((impl_Decimal.f bt181.1).bind fun t183 => (if t183.size + 1 ≤ 9223372036854775807 then (if (t183 ++ (⟨#[32]⟩ : ByteArray)).size + a1.size ≤ 9223372036854775807 then (if ((t183 ++ (⟨#[32]⟩ : ByteArray)) ++ a1).size + 1 ≤ 9223372036854775807 then (some (((t183 ++ (⟨#[32]⟩ : ByteArray)) ++ a1) ++ (⟨#[10]⟩ : ByteArray), bt181.1)) else (none)) else (none)) else (none)))) = some (r1, r2) := h
  clear h
  replace H := Option.bind_eq_some_iff.mp H
  obtain ⟨⟨t181, t182⟩, A30, H⟩ := H
  replace H : ((impl_Decimal.f t181).bind fun t183 => (if t183.size + 1 ≤ 9223372036854775807 then (if (t183 ++ (⟨#[32]⟩ : ByteArray)).size + a1.size ≤ 9223372036854775807 then (if ((t183 ++ (⟨#[32]⟩ : ByteArray)) ++ a1).size + 1 ≤ 9223372036854775807 then (some (((t183 ++ (⟨#[32]⟩ : ByteArray)) ++ a1) ++ (⟨#[10]⟩ : ByteArray), t181)) else (none)) else (none)) else (none))) = some (r1, r2) := H
  have A3 := Aside0.mk A30
  clear A30
  replace H := Option.bind_eq_some_iff.mp H
  obtain ⟨t183, A40, H⟩ := H
  replace H : (if t183.size + 1 ≤ 9223372036854775807 then (if (t183 ++ (⟨#[32]⟩ : ByteArray)).size + a1.size ≤ 9223372036854775807 then (if ((t183 ++ (⟨#[32]⟩ : ByteArray)) ++ a1).size + 1 ≤ 9223372036854775807 then (some (((t183 ++ (⟨#[32]⟩ : ByteArray)) ++ a1) ++ (⟨#[10]⟩ : ByteArray), t181)) else (none)) else (none)) else (none)) = some (r1, r2) := H
  have A4 := Aside0.mk A40
  clear A40
  by_cases c5 : t183.size + 1 ≤ 9223372036854775807
  · rw [if_pos c5] at H
    have c5b0 := eq_true c5
    have c5b1 : decide (t183.size + 1 ≤ 9223372036854775807) = true := decide_eq_true c5
    try have c5b2 : (9223372036854775807 < t183.size + 1) = False := eq_false (Nat.not_lt.2 c5)
    by_cases c6 : (t183 ++ (⟨#[32]⟩ : ByteArray)).size + a1.size ≤ 9223372036854775807
    · rw [if_pos c6] at H
      have c6b0 := eq_true c6
      have c6b1 : decide ((t183 ++ (⟨#[32]⟩ : ByteArray)).size + a1.size ≤ 9223372036854775807) = true := decide_eq_true c6
      have c6s := c6; (try simp only [ByteArray.size_append, show ∀ b_ : UInt8, (⟨#[b_]⟩ : ByteArray).size = 1 from fun _ => rfl] at c6s); have c6s0 := eq_true c6s; have c6s1 := decide_eq_true c6s; (try have c6s2 := eq_false (Nat.not_lt.2 c6s))
      try have c6b2 : (9223372036854775807 < (t183 ++ (⟨#[32]⟩ : ByteArray)).size + a1.size) = False := eq_false (Nat.not_lt.2 c6)
      by_cases c7 : ((t183 ++ (⟨#[32]⟩ : ByteArray)) ++ a1).size + 1 ≤ 9223372036854775807
      · rw [if_pos c7] at H
        have c7b0 := eq_true c7
        have c7b1 : decide (((t183 ++ (⟨#[32]⟩ : ByteArray)) ++ a1).size + 1 ≤ 9223372036854775807) = true := decide_eq_true c7
        have c7s := c7; (try simp only [ByteArray.size_append, show ∀ b_ : UInt8, (⟨#[b_]⟩ : ByteArray).size = 1 from fun _ => rfl] at c7s); have c7s0 := eq_true c7s; have c7s1 := decide_eq_true c7s; (try have c7s2 := eq_false (Nat.not_lt.2 c7s))
        try have c7b2 : (9223372036854775807 < ((t183 ++ (⟨#[32]⟩ : ByteArray)) ++ a1).size + 1) = False := eq_false (Nat.not_lt.2 c7)
        simp only [Option.some.injEq, Prod.mk.injEq] at H
        obtain ⟨rfl, rfl⟩ := H
        go_enter Tryd.func33, Tryd.ntmps33
        go_wp2_with (first | ((with_reducible refine gate_callee (f := 51) rfl ?_); refine goesL_ (some 11) rfl rfl Tryd.func51 (by kernel_rfl) rfl #[.int .i64 a0, .string a1] rfl (by (try simp only [List.map_toArray, List.map_cons, List.map_nil]); first | done | rfl | (simp only [List.length_drop, List.length_take]; rfl)) ?_; (with_reducible refine (impl_CheckOf.calls k a0 a1 t181 t182 _ A3.out).mono ?_); rintro e w' ⟨rfl, ⟨nd, rfl⟩⟩; refine ⟨_, rfl, ?_⟩) | ((with_reducible refine gate_callee (f := 52) rfl ?_); refine goesL_ (some 15) rfl rfl Tryd.func52 (by kernel_rfl) rfl #[.int .i64 t181] rfl (by (try simp only [List.map_toArray, List.map_cons, List.map_nil]); first | done | rfl | (simp only [List.length_drop, List.length_take]; rfl)) ?_; (with_reducible refine (impl_Decimal.calls t181 t183 _ (by first | exact HT0.out | exact TabOk.below HT0.out (by repeat (first | (with_reducible first | exact HB.out | apply below_alloc | apply pw_below_drewN | apply below_drew1) | exact HB.out))) A4.out).mono ?_); rintro e w8 ⟨rfl, hb⟩; refine ⟨_, rfl, ?_⟩; have n0_ := Aside0.mk (below_step (by repeat (first | (with_reducible first | exact HB.out | apply below_alloc | apply pw_below_drewN | apply below_drew1) | exact HB.out)) hb); clear HB; have HB := n0_; clear n0_; (try clear hb); (try clear hb2); (try clear hk); (try clear hi)))
        go_ret2
        exact ⟨by first | rfl | (simp [errW_none, errW_some] <;> rfl) | (simp [*, errW_none, errW_some] <;> rfl), by repeat (first | (with_reducible first | exact HB.out | apply below_alloc | apply pw_below_drewN | apply below_drew1) | exact HB.out)⟩
      · rw [if_neg c7] at H
        exact absurd H (by simp)
    · rw [if_neg c6] at H
      exact absurd H (by simp)
  · rw [if_neg c5] at H
    exact absurd H (by simp)

end Go.Proofs.YtjpjlobpglmoiaaDoor.A
