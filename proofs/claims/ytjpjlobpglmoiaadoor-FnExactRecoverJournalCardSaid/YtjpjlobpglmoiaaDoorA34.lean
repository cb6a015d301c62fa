-- Printed by this session's oprint.py through the kit's printer.
import Derived.Test.YtjpjlobpglmoiaaDoorA0
import Derived.Test.YtjpjlobpglmoiaaDoorShelf
namespace Go.Proofs.YtjpjlobpglmoiaaDoor.A
open Go.RowKit Go.Proofs.YtjpjlobpglmoiaaDoorW.PrintWords Go.Proofs.YtjpjlobpglmoiaaDoorW.PrintLast Go.Proofs.YtjpjlobpglmoiaaDoorW.PrintMore
attribute [local go_sem] max2_int min2_int max_two min_two max_three min_three max_four min_four   -- for this text's walks alone
set_option linter.unusedVariables false
set_option linter.unusedSimpArgs false

/-! ### strings_Contains: function 34 -/
-- given: proved by hand (contains.tpl)
def strings_Contains.f (s c : ByteArray) : Option Bool := if c.size = 1 then some (decide (0 ≤ Lib.indexByte s.data.toList (c.data.toList.headD 0))) else none
theorem one_byte {c : ByteArray} (h : c.size = 1) : c = ⟨#[c.data.toList.headD 0]⟩ := by
  obtain ⟨⟨l⟩⟩ := c
  match l, h with
  | [x], _ => rfl
theorem strings_Contains.calls (a0 : ByteArray) (a1 : ByteArray) (r : Bool) (w : World) (h : strings_Contains.f a0 a1 = some r) :
    Calls Tryd.prog 34 #[.string a0, .string a1] w fun e w' => e = .returned (.bool r) ∧ Drawn0 w w' := by
  unfold strings_Contains.f at h
  by_cases c : a1.size = 1
  · rw [if_pos c] at h
    obtain rfl := Option.some.inj h
    have := Tryd.strings_Contains_one a0 (a1.data.toList.headD 0) w
    rw [← one_byte c] at this
    exact this.mono fun e w' hh => ⟨hh.1, by rw [hh.2]; exact Drawn0.refl _⟩
  · rw [if_neg c] at h
    exact absurd h (by simp)

end Go.Proofs.YtjpjlobpglmoiaaDoor.A
