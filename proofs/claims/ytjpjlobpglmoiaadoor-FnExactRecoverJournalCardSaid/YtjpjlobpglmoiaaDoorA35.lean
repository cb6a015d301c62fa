-- Printed by this session's oprint.py through the kit's printer.
import Derived.Test.YtjpjlobpglmoiaaDoorA0
import Derived.Test.YtjpjlobpglmoiaaDoorA54
namespace Go.Proofs.YtjpjlobpglmoiaaDoor.A
open Go.RowKit Go.Proofs.YtjpjlobpglmoiaaDoorW.PrintWords Go.Proofs.YtjpjlobpglmoiaaDoorW.PrintLast Go.Proofs.YtjpjlobpglmoiaaDoorW.PrintMore
attribute [local go_sem] max2_int min2_int max_two min_two max_three min_three max_four min_four   -- for this text's walks alone
set_option linter.unusedVariables false
set_option linter.unusedSimpArgs false

/-! ### spec_l11Lines: function 35 -/
-- given: proved by hand (lines.tpl)
def spec_l11Lines.f (k : Nat) (t : ByteArray) : Option (List ByteArray × ByteArray) := (spec_l01Cut.f k t 10).bind fun p => if 0 < p.length ∧ p.length ≤ 1048577 then some (p.take (p.length - 1), rdOf ByteArray.empty p ((p.length - 1 : Nat) : Int)) else none
theorem spec_l11Lines.mono : ∀ a0 k, LeO (spec_l11Lines.f k a0) (spec_l11Lines.f (k + 1) a0) := fun a0 k => LeO.bind (spec_l01Cut.mono a0 10 k) (fun _ => LeO.refl _)
set_option maxHeartbeats 1600000 in
set_option maxRecDepth 100000 in
theorem spec_l11Lines.calls (k : Nat) (a0 : ByteArray) (r1 : List ByteArray) (r2 : ByteArray) (w : World) (h : spec_l11Lines.f k a0 = some (r1, r2)) :
    Calls Tryd.prog 35 #[.string a0] w fun e w' => ∃ v0_ : Value, e = .returned (.tuple #[v0_, .string r2]) ∧ Kd.R Kd.string 9 w' w.heap.size (fun _ => True) v0_ r1 ∧ Below w.heap.size w w' := by
  unfold spec_l11Lines.f at h
  cases hc : spec_l01Cut.f k a0 10 with
  | none => rw [hc] at h; exact absurd h (by simp)
  | some p =>
    rw [hc] at h
    simp only [Option.bind_some] at h
    by_cases c : 0 < p.length ∧ p.length ≤ 1048577
    · rw [if_pos c] at h
      have h := Option.some.inj h
      obtain ⟨m, hm⟩ : ∃ m, p.length = m + 1 := ⟨p.length - 1, by omega⟩
      rw [hm, Nat.add_sub_cancel, Prod.mk.injEq] at h
      obtain ⟨rfl, rfl⟩ := h
      have HC := Aside0.mk hc
      have HM := Aside0.mk hm
      have hm1 : (m : Int) ≤ 1048576 := by omega
      clear hc c hm
      go_enter Tryd.func35, Tryd.ntmps35
      go_wp2_with (first | (go_at_call 54; refine (spec_l01Cut.calls k a0 10 p _ HC.out).mono ?_; rintro e w1 ⟨v, rfl, ho, hb⟩; obtain ⟨A, cc, rfl, hcc, hrd⟩ := Kd.R_reads ho; rw [HM.out] at ho hcc hrd ⊢; obtain ⟨ad, rfl, hx⟩ := Kd.at_string hrd (m : Int) (by omega) (by omega); rw [Int.toNat_natCast] at hx; have HO := Aside0.mk ho; have HB := Aside0.mk hb; clear ho hb hrd))
      have w1_ : wrap64 (((m + 1 : Nat) : Int) - 1) = (m : Int) := by unfold wrap64; omega
      go_quiet (fail)
      go_wp2
      go_ret2
      exact ⟨_, rfl, by (with_reducible repeat (first | apply Kd.R_alloc | apply Kd.R_drewN | apply Kd.R_drew)); exact Kd.R_take HO.out (by have := HM.out; omega), pw_below_drewN HB.out _⟩
    · rw [if_neg c] at h
      exact absurd h (by simp)

end Go.Proofs.YtjpjlobpglmoiaaDoor.A
