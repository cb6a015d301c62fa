-- Printed by this session's oprint.py through the kit's printer.
import Derived.Test.YtjpjlobpglmoiaaDoorA0
import Derived.Test.YtjpjlobpglmoiaaDoorShelf
namespace Go.Proofs.YtjpjlobpglmoiaaDoor.A
open Go.RowKit Go.Proofs.YtjpjlobpglmoiaaDoorW.PrintWords Go.Proofs.YtjpjlobpglmoiaaDoorW.PrintLast Go.Proofs.YtjpjlobpglmoiaaDoorW.PrintMore
attribute [local go_sem] max2_int min2_int max_two min_two max_three min_three max_four min_four   -- for this text's walks alone
set_option linter.unusedVariables false
set_option linter.unusedSimpArgs false

/-! ### strings_Repeat: function 47 -/
-- given: proved by hand (repeat.tpl)
def strings_Repeat.f (s : ByteArray) (n : Int) : Option ByteArray := if 0 ≤ n ∧ n ≤ 1048576 ∧ s.size ≤ 1048576 then some ⟨(Lib.repeatL s.data.toList n.toNat).toArray⟩ else none
theorem strings_Repeat.calls (a0 : ByteArray) (a1 : Int) (r : ByteArray) (w : World) (h : strings_Repeat.f a0 a1 = some r) :
    Calls Tryd.prog 47 #[.string a0, .int .i64 a1] w fun e w' => e = .returned (.string r) ∧ Below w.heap.size w w' := by
  unfold strings_Repeat.f at h
  by_cases c : 0 ≤ a1 ∧ a1 ≤ 1048576 ∧ a0.size ≤ 1048576
  · rw [if_pos c] at h
    obtain rfl := Option.some.inj h
    obtain ⟨n, rfl⟩ : ∃ n : Nat, a1 = n := ⟨a1.toNat, by omega⟩
    rw [Int.toNat_natCast]
    have hm : a0.size * n ≤ 1048576 * 1048576 := Nat.mul_le_mul c.2.2 (by omega)
    exact (Tryd.strings_Repeat a0 n w (by omega) (by omega)).mono fun e w' hh => hh
  · rw [if_neg c] at h
    exact absurd h (by simp)

end Go.Proofs.YtjpjlobpglmoiaaDoor.A
