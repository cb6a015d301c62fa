-- Printed by this session's oprint.py through the kit's printer.
import Derived.Test.YtjpjlobpglmoiaaDoorA0
import Derived.Test.YtjpjlobpglmoiaaDoorA34
import Derived.Test.YtjpjlobpglmoiaaDoorShelf
import Derived.Shelf.Strings.Cut
namespace Go.Proofs.YtjpjlobpglmoiaaDoor.A
open Go.RowKit Go.Proofs.YtjpjlobpglmoiaaDoorW.PrintWords Go.Proofs.YtjpjlobpglmoiaaDoorW.PrintLast Go.Proofs.YtjpjlobpglmoiaaDoorW.PrintMore
attribute [local go_sem] max2_int min2_int max_two min_two max_three min_three max_four min_four   -- for this text's walks alone
set_option linter.unusedVariables false
set_option linter.unusedSimpArgs false

/-! ### strings_Cut: function 38 -/
-- given: proved by hand (cut.tpl)
/-- Where the byte c (a text of one byte) is in s, or -1. -/
def cutI (s c : ByteArray) : Int := Lib.indexByte s.data.toList (c.data.toList.headD 0)
def cutR (s c : ByteArray) : ByteArray × ByteArray × Bool := if 0 ≤ cutI s c then (s.extract 0 (cutI s c).toNat, s.extract ((cutI s c).toNat + 1) s.size, true) else (s, ⟨#[]⟩, false)
def strings_Cut.f (s c : ByteArray) : Option (ByteArray × ByteArray × Bool) := if c.size = 1 ∧ s.size ≤ 1048576 then some (cutR s c) else none
theorem cutI_lt : ∀ (l : List UInt8) (c : UInt8), Lib.indexByte l c < l.length
  | [], c => by simp [Lib.indexByte]
  | b :: l, c => by
    have ih := cutI_lt l c
    unfold Lib.indexByte
    rw [List.length_cons]
    split
    · omega
    · split <;> omega
set_option maxHeartbeats 1600000 in
set_option maxRecDepth 100000 in
theorem strings_Cut.in_ (s sep : ByteArray) (w : World) (h1 : sep.size = 1) (hs : s.size ≤ 1048576) :
    Calls Tryd.prog 55 #[.string s, .string sep] w fun e w' => e = .returned (.tuple #[.string (cutR s sep).1, .string (cutR s sep).2.1, .bool (cutR s sep).2.2]) ∧ Drawn0 w w' := by
  have hI : Calls Tryd.prog 78 #[.string s, .string sep] w fun e w' => e = .returned (.int .i64 (cutI s sep)) ∧ w' = w := by
    have h := Any.stringslite_Index_one { Tryd.lays144 with } s (sep.data.toList.headD 0) w
    rw [← one_byte h1] at h
    exact h
  have hlt : cutI s sep < s.size := by have := cutI_lt s.data.toList (sep.data.toList.headD 0); have hl : s.data.toList.length = s.size := by simp
                                       rw [hl] at this; exact this
  have hge : -1 ≤ cutI s sep := Lib.indexByte_ge _ _
  unfold cutR
  obtain ⟨ix, hix⟩ : ∃ ix, cutI s sep = ix := ⟨_, rfl⟩
  rw [hix] at hI hlt hge ⊢
  have HI := Aside0.mk hI
  clear hI hix
  by_cases c : 0 ≤ ix
  · obtain ⟨i, rfl⟩ : ∃ i : Nat, ix = i := ⟨ix.toNat, by omega⟩
    rw [if_pos c, Int.toNat_natCast]
    have c1 : (0 : Int) ≤ ↑i := by omega
    have c2 : (↑i : Int) ≤ ↑s.size := by omega
    have c3 : (0 : Int) ≤ ↑i + 1 := by omega
    have c4 : (↑i + 1 : Int) ≤ ↑s.size := by omega
    have c5 : IntKind.i64.wrap ((i : Int) + 1) = (i : Int) + 1 := by rw [i64_w]; unfold wrap64; omega
    have mixed := Tryd.lays144.mixed
    go_enter Tryd.func55, Tryd.ntmps55
    go_wp2_with (first | (go_at_call 78; refine HI.out.mono ?_; rintro e w1 ⟨rfl, rfl⟩))
    go_region_o
    go_wp2
    go_ret3
    exact ⟨rfl, ⟨1, rfl⟩⟩
  · rw [if_neg c]
    obtain rfl : ix = -1 := by omega
    go_enter Tryd.func55, Tryd.ntmps55
    go_wp2_with (first | (go_at_call 78; refine HI.out.mono ?_; rintro e w1 ⟨rfl, rfl⟩))
    go_ret3
    exact ⟨rfl, Drawn0.refl _⟩
set_option maxHeartbeats 1600000 in
set_option maxRecDepth 100000 in
theorem strings_Cut.calls (a0 a1 : ByteArray) (r1 r2 : ByteArray) (r3 : Bool) (w : World) (h : strings_Cut.f a0 a1 = some (r1, r2, r3)) :
    Calls Tryd.prog 38 #[.string a0, .string a1] w fun e w' => e = .returned (.tuple #[.string r1, .string r2, .bool r3]) ∧ Drawn0 w w' := by
  unfold strings_Cut.f at h
  by_cases c : a1.size = 1 ∧ a0.size ≤ 1048576
  · rw [if_pos c] at h
    have h := Option.some.inj h
    have H := Aside0.mk (strings_Cut.in_ a0 a1 w c.1 c.2)
    rw [h] at H
    clear h c
    go_enter Tryd.func38, Tryd.ntmps38
    go_wp2_with (first | (go_at_call 55; refine H.out.mono ?_; rintro e w1 ⟨rfl, hd⟩; have HD := Aside0.mk hd; clear hd))
    go_ret3
    exact ⟨rfl, HD.out⟩
  · rw [if_neg c] at h
    exact absurd h (by simp)

end Go.Proofs.YtjpjlobpglmoiaaDoor.A
