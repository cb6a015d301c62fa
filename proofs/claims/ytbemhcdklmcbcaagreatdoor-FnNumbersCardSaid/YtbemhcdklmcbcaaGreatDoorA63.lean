-- Printed by this session's oprint.py through the kit's printer.
import Derived.Test.YtbemhcdklmcbcaaGreatDoorQ22
import Derived.Test.YtbemhcdklmcbcaaGreatDoorQ23
namespace Go.Proofs.YtbemhcdklmcbcaaGreatDoor.A
open Go.RowKit Go.Proofs.YtbemhcdklmcbcaaGreatDoorW.PrintWords Go.Proofs.YtbemhcdklmcbcaaGreatDoorW.PrintLast Go.Proofs.YtbemhcdklmcbcaaGreatDoorW.PrintMore
attribute [local go_sem] max2_int min2_int max_two min_two max_three min_three max_four min_four   -- for this text's walks alone
set_option linter.unusedVariables false
set_option linter.unusedSimpArgs false

/-! ### impl_divideDigits: function 63 -/
mutual
def impl_divideDigits.l0 : Nat → List Int → List Int → Int → Int → Option (List Int × List Int)
 | 0, _, _, _, _ => none
 | k + 1, x0, x1, x6, x7 => if 0 ≤ (wrap64 (x6 - 1)) then (if (wrap64 (x6 - 1)) < (x1.length : Int) then (if 0 ≤ x7 then (if (shl .u32 (rd x1 (wrap64 (x6 - 1))) x7) < 2147483648 then (impl_divideDigits.l0 k x0 x1 x6 (IntKind.u64.wrap (x7 + 1))) else ((impl_doubled.f k x0 x7).bind fun t171 => ((impl_doubled.f k x1 x7).bind fun t174 => (if 0 ≤ x6 then (if x6 ≤ (t174.length : Int) then ((some (t174.take (x6 : Int).toNat : List Int)).bind fun y177 => (if 0 ≤ (wrap64 ((wrap64 ((x0.length : Int) - x6)) + 1)) then (if (wrap64 ((wrap64 ((x0.length : Int) - x6)) + 1) : Int).toNat ≤ 70368744177664 then ((some (List.replicate (wrap64 ((wrap64 ((x0.length : Int) - x6)) + 1) : Int).toNat 0 : List Int)).bind fun y180 => (if x6 > 1 then (if 0 ≤ (wrap64 (x6 - 2)) then (if (wrap64 (x6 - 2)) < (y177.length : Int) then (impl_divideDigits.j1 k x0 x6 x7 t171 y177 y180 (IntKind.u64.wrap (rd y177 (wrap64 (x6 - 2))))) else (none)) else (none)) else (impl_divideDigits.j1 k x0 x6 x7 t171 y177 y180 0))) else (none)) else (none))) else (none)) else (none))))) else (none)) else (none)) else (none)
def impl_divideDigits.j1 : Nat → List Int → Int → Int → List Int → List Int → List Int → Int → Option (List Int × List Int)
 | 0, _, _, _, _, _, _, _ => none
 | k + 1, x0, x6, x7, x8, x9, x10, x11 => impl_divideDigits.l1 k x6 x7 x8 x9 x10 x11 (wrap64 ((x0.length : Int) - x6))
def impl_divideDigits.l1 : Nat → Int → Int → List Int → List Int → List Int → Int → Int → Option (List Int × List Int)
 | 0, _, _, _, _, _, _, _ => none
 | k + 1, x6, x7, x8, x9, x10, x11, x12 => if x12 ≥ 0 then (if 0 ≤ (wrap64 (x12 + x6)) then (if (wrap64 (x12 + x6)) < (x8.length : Int) then (if 0 ≤ (wrap64 ((wrap64 (x12 + x6)) - 1)) then (if (wrap64 ((wrap64 (x12 + x6)) - 1)) < (x8.length : Int) then (if 0 ≤ (wrap64 (x6 - 1)) then (if (wrap64 (x6 - 1)) < (x9.length : Int) then (if (IntKind.u64.wrap (rd x9 (wrap64 (x6 - 1)))) = 0 then (none) else (if x6 > 1 then (if 0 ≤ (wrap64 ((wrap64 (x12 + x6)) - 2)) then (if (wrap64 ((wrap64 (x12 + x6)) - 2)) < (x8.length : Int) then (impl_divideDigits.j3 k x6 x7 x8 x9 x10 x11 x12 (IntKind.u64.wrap (Int.tdiv (Go.bits .or .u64 (IntKind.u64.wrap ((IntKind.u64.wrap (rd x8 (wrap64 (x12 + x6)))) * 4294967296)) (IntKind.u64.wrap (rd x8 (wrap64 ((wrap64 (x12 + x6)) - 1))))) (IntKind.u64.wrap (rd x9 (wrap64 (x6 - 1)))))) (Int.tmod (Go.bits .or .u64 (IntKind.u64.wrap ((IntKind.u64.wrap (rd x8 (wrap64 (x12 + x6)))) * 4294967296)) (IntKind.u64.wrap (rd x8 (wrap64 ((wrap64 (x12 + x6)) - 1))))) (IntKind.u64.wrap (rd x9 (wrap64 (x6 - 1))))) (IntKind.u64.wrap (rd x8 (wrap64 ((wrap64 (x12 + x6)) - 2))))) else (none)) else (none)) else (impl_divideDigits.j3 k x6 x7 x8 x9 x10 x11 x12 (IntKind.u64.wrap (Int.tdiv (Go.bits .or .u64 (IntKind.u64.wrap ((IntKind.u64.wrap (rd x8 (wrap64 (x12 + x6)))) * 4294967296)) (IntKind.u64.wrap (rd x8 (wrap64 ((wrap64 (x12 + x6)) - 1))))) (IntKind.u64.wrap (rd x9 (wrap64 (x6 - 1)))))) (Int.tmod (Go.bits .or .u64 (IntKind.u64.wrap ((IntKind.u64.wrap (rd x8 (wrap64 (x12 + x6)))) * 4294967296)) (IntKind.u64.wrap (rd x8 (wrap64 ((wrap64 (x12 + x6)) - 1))))) (IntKind.u64.wrap (rd x9 (wrap64 (x6 - 1))))) 0))) else (none)) else (none)) else (none)) else (none)) else (none)) else (none)) else (if 0 ≤ x6 then (if x6 ≤ (x8.length : Int) then ((some (x8.take (x6 : Int).toNat : List Int)).bind fun y204 => (impl_divideDigits.l5 k x6 x7 x10 y204 (y204.length : Int) 0)) else (none)) else (none))
def impl_divideDigits.j3 : Nat → Int → Int → List Int → List Int → List Int → Int → Int → Int → Int → Int → Option (List Int × List Int)
 | 0, _, _, _, _, _, _, _, _, _, _ => none
 | k + 1, x6, x7, x8, x9, x10, x11, x12, x14, x15, x16 => impl_divideDigits.l2 k x6 x7 x8 x9 x10 x11 x12 x14 x15 x16
def impl_divideDigits.j5 : Nat → Int → Int → List Int → List Int → List Int → Int → Int → Int → Option (List Int × List Int)
 | 0, _, _, _, _, _, _, _, _ => none
 | k + 1, x6, x7, x8, x9, x10, x11, x12, x14 => impl_divideDigits.l3 k x6 x7 x8 x9 x10 x11 x12 x14 0 x9 (x9.length : Int) 0
def impl_divideDigits.l3 : Nat → Int → Int → List Int → List Int → List Int → Int → Int → Int → Int → List Int → Int → Int → Option (List Int × List Int)
 | 0, _, _, _, _, _, _, _, _, _, _, _, _ => none
 | k + 1, x6, x7, x8, x9, x10, x11, x12, x14, x17, x145, x146, x147 => if x147 < x146 then (if 0 ≤ x147 then (if x147 < (x145.length : Int) then (if 0 ≤ (wrap64 (x147 + x12)) then (if (wrap64 (x147 + x12)) < (x8.length : Int) then ((some (x8.set ((wrap64 (x147 + x12)) : Int).toNat ((IntKind.u64.wrap ((IntKind.u64.wrap (rd x8 (wrap64 (x147 + x12)))) - (Go.bits .and .u64 (IntKind.u64.wrap (x17 + (IntKind.u64.wrap (x14 * (IntKind.u64.wrap (rd x145 x147)))))) 4294967295))) % 4294967296) : List Int)).bind fun y193 => (if (IntKind.u64.wrap (rd x8 (wrap64 (x147 + x12)))) < (Go.bits .and .u64 (IntKind.u64.wrap (x17 + (IntKind.u64.wrap (x14 * (IntKind.u64.wrap (rd x145 x147)))))) 4294967295) then (impl_divideDigits.l3 k x6 x7 y193 x9 x10 x11 x12 x14 (IntKind.u64.wrap (((IntKind.u64.wrap (x17 + (IntKind.u64.wrap (x14 * (IntKind.u64.wrap (rd x145 x147)))))) / 4294967296) + 1)) x145 x146 (wrap64 (x147 + 1))) else (impl_divideDigits.l3 k x6 x7 y193 x9 x10 x11 x12 x14 ((IntKind.u64.wrap (x17 + (IntKind.u64.wrap (x14 * (IntKind.u64.wrap (rd x145 x147)))))) / 4294967296) x145 x146 (wrap64 (x147 + 1))))) else (none)) else (none)) else (none)) else (none)) else (if 0 ≤ (wrap64 (x12 + x6)) then (if (wrap64 (x12 + x6)) < (x8.length : Int) then ((some (x8.set ((wrap64 (x12 + x6)) : Int).toNat (((rd x8 (wrap64 (x12 + x6))) - ((x17) % 4294967296)) % 4294967296) : List Int)).bind fun y196 => (if (IntKind.u64.wrap (rd x8 (wrap64 (x12 + x6)))) < x17 then (impl_divideDigits.l4 k x6 x7 y196 x9 x10 x11 x12 (IntKind.u64.wrap (x14 - 1)) 0 x9 (x9.length : Int) 0) else (if 0 ≤ x12 then (if x12 < (x10.length : Int) then (impl_divideDigits.l1 k x6 x7 y196 x9 (x10.set (x12 : Int).toNat ((x14) % 4294967296)) x11 (wrap64 (x12 - 1))) else (none)) else (none)))) else (none)) else (none))
def impl_divideDigits.l4 : Nat → Int → Int → List Int → List Int → List Int → Int → Int → Int → Int → List Int → Int → Int → Option (List Int × List Int)
 | 0, _, _, _, _, _, _, _, _, _, _, _, _ => none
 | k + 1, x6, x7, x8, x9, x10, x11, x12, x14, x23, x207, x208, x209 => if x209 < x208 then (if 0 ≤ x209 then (if x209 < (x207.length : Int) then (if 0 ≤ (wrap64 (x209 + x12)) then (if (wrap64 (x209 + x12)) < (x8.length : Int) then (impl_divideDigits.l4 k x6 x7 (x8.set ((wrap64 (x209 + x12)) : Int).toNat ((IntKind.u64.wrap (x23 + (IntKind.u64.wrap ((IntKind.u64.wrap (rd x8 (wrap64 (x209 + x12)))) + (IntKind.u64.wrap (rd x207 x209)))))) % 4294967296)) x9 x10 x11 x12 x14 ((IntKind.u64.wrap (x23 + (IntKind.u64.wrap ((IntKind.u64.wrap (rd x8 (wrap64 (x209 + x12)))) + (IntKind.u64.wrap (rd x207 x209)))))) / 4294967296) x207 x208 (wrap64 (x209 + 1))) else (none)) else (none)) else (none)) else (none)) else (if 0 ≤ (wrap64 (x12 + x6)) then (if (wrap64 (x12 + x6)) < (x8.length : Int) then (if 0 ≤ x12 then (if x12 < (x10.length : Int) then (impl_divideDigits.l1 k x6 x7 (x8.set ((wrap64 (x12 + x6)) : Int).toNat (((rd x8 (wrap64 (x12 + x6))) + ((x23) % 4294967296)) % 4294967296)) x9 (x10.set (x12 : Int).toNat ((x14) % 4294967296)) x11 (wrap64 (x12 - 1))) else (none)) else (none)) else (none)) else (none))
def impl_divideDigits.l2 : Nat → Int → Int → List Int → List Int → List Int → Int → Int → Int → Int → Int → Option (List Int × List Int)
 | 0, _, _, _, _, _, _, _, _, _, _ => none
 | k + 1, x6, x7, x8, x9, x10, x11, x12, x14, x15, x16 => if x15 < 4294967296 then (if x14 ≥ 4294967296 then (if 0 ≤ (wrap64 (x6 - 1)) then (if (wrap64 (x6 - 1)) < (x9.length : Int) then (impl_divideDigits.l2 k x6 x7 x8 x9 x10 x11 x12 (IntKind.u64.wrap (x14 - 1)) (IntKind.u64.wrap (x15 + (IntKind.u64.wrap (rd x9 (wrap64 (x6 - 1)))))) x16) else (none)) else (none)) else (if (IntKind.u64.wrap (x14 * x11)) > (Go.bits .or .u64 (IntKind.u64.wrap (x15 * 4294967296)) x16) then (if 0 ≤ (wrap64 (x6 - 1)) then (if (wrap64 (x6 - 1)) < (x9.length : Int) then (impl_divideDigits.l2 k x6 x7 x8 x9 x10 x11 x12 (IntKind.u64.wrap (x14 - 1)) (IntKind.u64.wrap (x15 + (IntKind.u64.wrap (rd x9 (wrap64 (x6 - 1)))))) x16) else (none)) else (none)) else (impl_divideDigits.j5 k x6 x7 x8 x9 x10 x11 x12 x14))) else (impl_divideDigits.j5 k x6 x7 x8 x9 x10 x11 x12 x14)
def impl_divideDigits.l5 : Nat → Int → Int → List Int → List Int → Int → Int → Option (List Int × List Int)
 | 0, _, _, _, _, _, _ => none
 | k + 1, x6, x7, x10, x26, x255, x256 => if x256 < x255 then (if (wrap64 (x256 + 1)) < x6 then (if 0 ≤ (wrap64 (x256 + 1)) then (if (wrap64 (x256 + 1)) < (x26.length : Int) then (if 0 ≤ x256 then (if x256 < (x26.length : Int) then (if 0 ≤ x7 then (impl_divideDigits.l5 k x6 x7 x10 (x26.set (x256 : Int).toNat ((shr .u64 (Go.bits .or .u64 (IntKind.u64.wrap ((IntKind.u64.wrap (rd x26 (wrap64 (x256 + 1)))) * 4294967296)) (IntKind.u64.wrap (rd x26 x256))) x7) % 4294967296)) x255 (wrap64 (x256 + 1))) else (none)) else (none)) else (none)) else (none)) else (none)) else (if 0 ≤ x256 then (if x256 < (x26.length : Int) then (if 0 ≤ x7 then (impl_divideDigits.l5 k x6 x7 x10 (x26.set (x256 : Int).toNat ((shr .u64 (Go.bits .or .u64 0 (IntKind.u64.wrap (rd x26 x256))) x7) % 4294967296)) x255 (wrap64 (x256 + 1))) else (none)) else (none)) else (none))) else (some (x10, x26))
end
def impl_divideDigits.f (k : Nat) (l0 : List Int) (l1 : List Int) : Option (List Int × List Int) := if (l0.length : Int) < (l1.length : Int) then (none) else (impl_divideDigits.l0 k l0 l1 (l1.length : Int) 0)
def impl_divideDigits.T7 : Bool × List (List Nat × List Nat) := (true, [([], []), ([], []), ([0, 1], [0, 1]), ([], []), ([], []), ([3, 4, 2], [3, 4]), ([], []), ([5, 6], [5, 6]), ([2, 5, 0, 1, 2], [2]), ([7, 8, 0, 1, 2, 3, 4, 5, 6, 7, 8], [7])])
def impl_divideDigits.B7 : List Nat := [0, 0, 3, 0, 0, 31, 0, 127, 63, 511]
theorem impl_divideDigits.tab7 : rtab .any (opsOf Tryz.f63 7) = impl_divideDigits.T7 := by kernel_rfl
theorem impl_divideDigits.bits7 : waitsOk impl_divideDigits.T7.2 impl_divideDigits.B7 = true := by kernel_rfl
def impl_divideDigits.T14 : Bool × List (List Nat × List Nat) := (true, [([], []), ([], []), ([], []), ([1, 2], [1, 2]), ([0, 3], [0, 3]), ([4], [4]), ([5], [5]), ([6], [6]), ([], []), ([], []), ([], []), ([9, 10], [9, 10]), ([11], [11]), ([8, 12], [8, 12]), ([13], [13]), ([14], [14]), ([7, 15], [7, 15]), ([16, 0, 1, 2, 3, 4, 5, 6, 7, 8, 9, 10, 11, 12, 13, 14, 15, 16], [16])])
def impl_divideDigits.B14 : List Nat := [0, 0, 0, 6, 15, 31, 63, 127, 0, 0, 0, 1536, 3584, 7936, 16128, 32512, 65535, 131071]
theorem impl_divideDigits.tab14 : rtab .any (opsOf Tryz.f63 14) = impl_divideDigits.T14 := by kernel_rfl
theorem impl_divideDigits.bits14 : waitsOk impl_divideDigits.T14.2 impl_divideDigits.B14 = true := by kernel_rfl
def impl_divideDigits.T15 : Bool × List (List Nat × List Nat) := (true, [([], []), ([], []), ([], []), ([2], [2]), ([1, 3], [1, 3]), ([4], [4]), ([5], [5]), ([0, 6], [0, 6]), ([], []), ([], []), ([], []), ([10], [10]), ([9, 11], [9, 11]), ([12], [12]), ([13], [13]), ([8, 14], [8, 14]), ([7, 0, 1, 2, 3, 4, 5, 6, 7], [7]), ([15, 16, 0, 1, 2, 3, 4, 5, 6, 7, 8, 9, 10, 11, 12, 13, 14, 15, 16], [15])])
def impl_divideDigits.B15 : List Nat := [0, 0, 0, 4, 14, 30, 62, 127, 0, 0, 0, 1024, 3584, 7680, 15872, 32512, 255, 131071]
theorem impl_divideDigits.tab15 : rtab .any (opsOf Tryz.f63 15) = impl_divideDigits.T15 := by kernel_rfl
theorem impl_divideDigits.bits15 : waitsOk impl_divideDigits.T15.2 impl_divideDigits.B15 = true := by kernel_rfl
def impl_divideDigits.T20 : Bool × List (List Nat × List Nat) := (true, [([], []), ([0], [0]), ([], []), ([], []), ([], []), ([4], [4]), ([3, 5], [3, 5]), ([6], [6]), ([7], [7]), ([2, 8], [2, 8]), ([1, 0, 1], [0, 1]), ([9, 10, 0, 1, 2, 3, 4, 5, 6, 7, 8, 9, 10], [2, 9])])
def impl_divideDigits.B20 : List Nat := [0, 1, 0, 0, 0, 16, 56, 120, 248, 508, 3, 2047]
theorem impl_divideDigits.tab20 : rtab .any (opsOf Tryz.f63 20) = impl_divideDigits.T20 := by kernel_rfl
theorem impl_divideDigits.bits20 : waitsOk impl_divideDigits.T20.2 impl_divideDigits.B20 = true := by kernel_rfl
set_option maxHeartbeats 8000000 in
set_option maxRecDepth 100000 in
theorem impl_divideDigits.calls (k : Nat) (A0 : Option Addr) (c0 : Nat) (l0 : List Int) (A1 : Option Addr) (c1 : Nat) (l1 : List Int) (r1 : List Int) (r2 : List Int) (w : World) (hr0 : Kd.C (Kd.int .u32) w A0 l0.length l0) (hc0 : l0.length ≤ c0) (hr1 : Kd.C (Kd.int .u32) w A1 l1.length l1) (hc1 : l1.length ≤ c1) (h : impl_divideDigits.f k l0 l1 = some (r1, r2)) :
  Calls Tryz.prog 63 #[.slice A0 l0.length c0, .slice A1 l1.length c1] w fun e w' => ∃ v0_ v1_ : Value, e = .returned (.tuple #[v0_, v1_]) ∧ Kd.R (Kd.int .u32) 85 w' w.heap.size (fun k_ => some k_ ≠ (v1_ : Value).ownBlock) v0_ r1 ∧ Kd.R (Kd.int .u32) 85 w' w.heap.size (fun k_ => some k_ ≠ (v0_ : Value).ownBlock) v1_ r2 ∧ Below w.heap.size w w' := by
 have HR0 := Aside0.mk hr0
 have HC0 := Aside0.mk hc0
 clear hr0 hc0
 have HR1 := Aside0.mk hr1
 have HC1 := Aside0.mk hc1
 clear hr1 hc1
 have HB := Aside0.mk (Below.refl w.heap.size w)
 have H : (if (l0.length : Int) < (l1.length : Int) then (none) else (impl_divideDigits.l0 k l0 l1 (l1.length : Int) 0)) = some (r1, r2) := h
 clear h
 by_cases c3 : (l0.length : Int) < (l1.length : Int)
 ·rw [if_pos c3] at H
  exact absurd H (by simp)
 ·rw [if_neg c3] at H
  have c3b0 : decide ((l0.length : Int) < (l1.length : Int)) = false := decide_eq_false c3
  have c3b1 : decide (l0.length < l1.length) = false := decide_eq_false (fun h => c3 (Int.ofNat_lt.mpr h))
  clear c3
  have H' := Aside0.mk H
  clear H
  go_enter Tryz.func63, Tryz.ntmps63
  go_wp2
  go_loopg [7] k (fun kq v7 w' => ∃ (x7_1 : Int), v7 = .int .u64 x7_1 ∧ Aside0 (impl_divideDigits.l0 kq l0 l1 (l1.length : Int) x7_1 = some (r1, r2)) ∧ Aside0 (kq ≤ k) ∧ Aside0 (Below w.heap.size w w'))
  case atStart => exact ⟨(0), (by first | rfl | (simp; done) | (simp [*]; done)), H', ⟨Nat.le_refl _⟩, ⟨by repeat (first | (with_reducible first | exact HB.out | apply below_alloc | apply pw_below_drewN | apply below_drew1) | exact HB.out)⟩⟩
  case round =>
   clear H'
   try clear c1
   try clear p2
   try clear c3
   try clear c3b0
   try clear c3b1
   obtain ⟨x7_1, rfl, HA, HK1, HB⟩ := hrel
   cases gk with
   | zero => exact absurd HA.out (by simp [impl_divideDigits.l0])
   | succ k1 =>
    have H := HA.out
    clear HA
    simp only [impl_divideDigits.l0] at H
    obtain ⟨ji4, hji4⟩ : ∃ j_ : Int, (wrap64 ((l1.length : Int) - 1)) = j_ := ⟨_, rfl⟩
    replace H : (if 0 ≤ (ji4) then (if (ji4) < (l1.length : Int) then (if 0 ≤ x7_1 then (if (shl .u32 (rd l1 (ji4)) x7_1) < 2147483648 then (impl_divideDigits.l0 k1 l0 l1 (l1.length : Int) (IntKind.u64.wrap (x7_1 + 1))) else ((impl_doubled.f k1 l0 x7_1).bind fun t171 => ((impl_doubled.f k1 l1 x7_1).bind fun t174 => (if 0 ≤ (l1.length : Int) then (if (l1.length : Int) ≤ (t174.length : Int) then ((some (t174.take ((l1.length : Int) : Int).toNat : List Int)).bind fun y177 => (if 0 ≤ (wrap64 ((wrap64 ((l0.length : Int) - (l1.length : Int))) + 1)) then (if (wrap64 ((wrap64 ((l0.length : Int) - (l1.length : Int))) + 1) : Int).toNat ≤ 70368744177664 then ((some (List.replicate (wrap64 ((wrap64 ((l0.length : Int) - (l1.length : Int))) + 1) : Int).toNat 0 : List Int)).bind fun y180 => (if (l1.length : Int) > 1 then (if 0 ≤ (wrap64 ((l1.length : Int) - 2)) then (if (wrap64 ((l1.length : Int) - 2)) < (y177.length : Int) then (impl_divideDigits.j1 k1 l0 (l1.length : Int) x7_1 t171 y177 y180 (IntKind.u64.wrap (rd y177 (wrap64 ((l1.length : Int) - 2))))) else (none)) else (none)) else (impl_divideDigits.j1 k1 l0 (l1.length : Int) x7_1 t171 y177 y180 0))) else (none)) else (none))) else (none)) else (none))))) else (none)) else (none)) else (none)) = some (r1, r2) := by first | (rw [hji4] at H; exact H) | (simp only [hji4] at H ⊢; exact H)
    have hji4w : (IntKind.i64.wrap ((l1.length : Int) - 1)) = ji4 := (i64_w _).trans hji4
    by_cases c5 : 0 ≤ (ji4)
    ·rw [if_pos c5] at H
     have c5b0 : decide (0 ≤ (ji4)) = true := decide_eq_true c5
     clear c5
     by_cases c6 : (ji4) < (l1.length : Int)
     ·rw [if_pos c6] at H
      have c6b0 : decide ((ji4) < (l1.length : Int)) = true := decide_eq_true c6
      clear c6
      by_cases c7 : 0 ≤ x7_1
      ·rw [if_pos c7] at H
       have c7b0 := eq_true c7
       have c7b1 : decide (0 ≤ x7_1) = true := decide_eq_true c7
       clear c7
       obtain ⟨ji8, hji8⟩ : ∃ j_ : Int, (shl .u32 (rd l1 (ji4)) x7_1) = j_ := ⟨_, rfl⟩
       replace H : (if (ji8) < 2147483648 then (impl_divideDigits.l0 k1 l0 l1 (l1.length : Int) (IntKind.u64.wrap (x7_1 + 1))) else ((impl_doubled.f k1 l0 x7_1).bind fun t171 => ((impl_doubled.f k1 l1 x7_1).bind fun t174 => (if 0 ≤ (l1.length : Int) then (if (l1.length : Int) ≤ (t174.length : Int) then ((some (t174.take ((l1.length : Int) : Int).toNat : List Int)).bind fun y177 => (if 0 ≤ (wrap64 ((wrap64 ((l0.length : Int) - (l1.length : Int))) + 1)) then (if (wrap64 ((wrap64 ((l0.length : Int) - (l1.length : Int))) + 1) : Int).toNat ≤ 70368744177664 then ((some (List.replicate (wrap64 ((wrap64 ((l0.length : Int) - (l1.length : Int))) + 1) : Int).toNat 0 : List Int)).bind fun y180 => (if (l1.length : Int) > 1 then (if 0 ≤ (wrap64 ((l1.length : Int) - 2)) then (if (wrap64 ((l1.length : Int) - 2)) < (y177.length : Int) then (impl_divideDigits.j1 k1 l0 (l1.length : Int) x7_1 t171 y177 y180 (IntKind.u64.wrap (rd y177 (wrap64 ((l1.length : Int) - 2))))) else (none)) else (none)) else (impl_divideDigits.j1 k1 l0 (l1.length : Int) x7_1 t171 y177 y180 0))) else (none)) else (none))) else (none)) else (none))))) = some (r1, r2) := by first | (rw [hji8] at H; exact H) | (simp only [hji8] at H ⊢; exact H)
       have hji8_ : (IntKind.u32.wrap ((rd l1 (ji4)) * 2 ^ min x7_1.toNat 32)) = ji8 := hji8
       have hji8z : x7_1 ≤ 32 → (IntKind.u32.wrap ((rd l1 (ji4)) * 2 ^ x7_1.toNat)) = ji8 := shl_small hji8
       by_cases c9 : (ji8) < 2147483648
       ·rw [if_pos c9] at H
        have c9b0 : decide ((ji8) < 2147483648) = true := decide_eq_true c9
        clear c9
        as_aux_lemma =>
         have H' := Aside0.mk H
         clear H
         have p170 : 0 ≤ ((ji4) : Int) := of_decide_eq_true (by first | (with_reducible assumption) | assumption)
         have q170 : (ji4) < (l1.length : Int) := of_decide_eq_true (by first | (with_reducible assumption) | assumption)
         obtain ⟨ad170, e170, hx170_0⟩ := Kd.at_int HR1.out (ji4) p170 q170
         cases e170
         replace hx170_0 := (HB.out.cell (World.block_lt_of_cell? w _ hx170_0)).trans hx170_0
         replace p170 := eq_true p170
         replace q170 := eq_true q170
         go_wp2
         go_roundg k1
         case measure => have := HK1.out; omega
         case rel => exact ⟨(IntKind.u64.wrap (x7_1 + 1)), (by first | rfl | (simp; done) | (simp [*]; done)), H', ⟨by have := HK1.out; omega⟩, ⟨by repeat (first | (with_reducible first | exact HB.out | apply below_alloc | apply pw_below_drewN | apply below_drew1) | exact HB.out)⟩⟩
       ·rw [if_neg c9] at H
        have c9b0 : decide ((ji8) < 2147483648) = false := decide_eq_false c9
        clear c9
        replace H := Option.bind_eq_some_iff.mp H
        obtain ⟨t171, A100, H⟩ := H
        replace H : ((impl_doubled.f k1 l1 x7_1).bind fun t174 => (if 0 ≤ (l1.length : Int) then (if (l1.length : Int) ≤ (t174.length : Int) then ((some (t174.take ((l1.length : Int) : Int).toNat : List Int)).bind fun y177 => (if 0 ≤ (wrap64 ((wrap64 ((l0.length : Int) - (l1.length : Int))) + 1)) then (if (wrap64 ((wrap64 ((l0.length : Int) - (l1.length : Int))) + 1) : Int).toNat ≤ 70368744177664 then ((some (List.replicate (wrap64 ((wrap64 ((l0.length : Int) - (l1.length : Int))) + 1) : Int).toNat 0 : List Int)).bind fun y180 => (if (l1.length : Int) > 1 then (if 0 ≤ (wrap64 ((l1.length : Int) - 2)) then (if (wrap64 ((l1.length : Int) - 2)) < (y177.length : Int) then (impl_divideDigits.j1 k1 l0 (l1.length : Int) x7_1 t171 y177 y180 (IntKind.u64.wrap (rd y177 (wrap64 ((l1.length : Int) - 2))))) else (none)) else (none)) else (impl_divideDigits.j1 k1 l0 (l1.length : Int) x7_1 t171 y177 y180 0))) else (none)) else (none))) else (none)) else (none))) = some (r1, r2) := H
        have A10 := Aside0.mk A100
        clear A100
        replace H := Option.bind_eq_some_iff.mp H
        obtain ⟨t174, A110, H⟩ := H
        replace H : (if 0 ≤ (l1.length : Int) then (if (l1.length : Int) ≤ (t174.length : Int) then ((some (t174.take ((l1.length : Int) : Int).toNat : List Int)).bind fun y177 => (if 0 ≤ (wrap64 ((wrap64 ((l0.length : Int) - (l1.length : Int))) + 1)) then (if (wrap64 ((wrap64 ((l0.length : Int) - (l1.length : Int))) + 1) : Int).toNat ≤ 70368744177664 then ((some (List.replicate (wrap64 ((wrap64 ((l0.length : Int) - (l1.length : Int))) + 1) : Int).toNat 0 : List Int)).bind fun y180 => (if (l1.length : Int) > 1 then (if 0 ≤ (wrap64 ((l1.length : Int) - 2)) then (if (wrap64 ((l1.length : Int) - 2)) < (y177.length : Int) then (impl_divideDigits.j1 k1 l0 (l1.length : Int) x7_1 t171 y177 y180 (IntKind.u64.wrap (rd y177 (wrap64 ((l1.length : Int) - 2))))) else (none)) else (none)) else (impl_divideDigits.j1 k1 l0 (l1.length : Int) x7_1 t171 y177 y180 0))) else (none)) else (none))) else (none)) else (none)) = some (r1, r2) := H
        have A11 := Aside0.mk A110
        clear A110
        by_cases c12 : 0 ≤ (l1.length : Int)
        ·rw [if_pos c12] at H
         have c12b0 := eq_true c12
         have c12b1 : decide (0 ≤ (l1.length : Int)) = true := decide_eq_true c12
         clear c12
         by_cases c13 : (l1.length : Int) ≤ (t174.length : Int)
         ·rw [if_pos c13] at H
          have c13b0 := eq_true c13
          have c13b1 : decide ((l1.length : Int) ≤ (t174.length : Int)) = true := decide_eq_true c13
          clear c13
          obtain ⟨y177, hy177⟩ : ∃ y_ : List Int, y_ = (t174.take ((l1.length : Int) : Int).toNat) := ⟨_, rfl⟩
          replace H : (if 0 ≤ (wrap64 ((wrap64 ((l0.length : Int) - (l1.length : Int))) + 1)) then (if (wrap64 ((wrap64 ((l0.length : Int) - (l1.length : Int))) + 1) : Int).toNat ≤ 70368744177664 then ((some (List.replicate (wrap64 ((wrap64 ((l0.length : Int) - (l1.length : Int))) + 1) : Int).toNat 0 : List Int)).bind fun y180 => (if (l1.length : Int) > 1 then (if 0 ≤ (wrap64 ((l1.length : Int) - 2)) then (if (wrap64 ((l1.length : Int) - 2)) < (y177.length : Int) then (impl_divideDigits.j1 k1 l0 (l1.length : Int) x7_1 t171 y177 y180 (IntKind.u64.wrap (rd y177 (wrap64 ((l1.length : Int) - 2))))) else (none)) else (none)) else (impl_divideDigits.j1 k1 l0 (l1.length : Int) x7_1 t171 y177 y180 0))) else (none)) else (none)) = some (r1, r2) := by first | (rw [hy177]; with_reducible exact H) | (have H2_ := (Option.bind_some _ _).symm.trans H; rw [hy177]; with_reducible exact H2_) | (have H2_ := (Option.bind_some _ _).symm.trans H; with_reducible exact H2_) | with_reducible exact H | (rw [hy177]; exact H) | exact H
          have Ny177 := Aside0.mk hy177
          clear hy177
          obtain ⟨ji14, hji14⟩ : ∃ j_ : Int, (wrap64 ((wrap64 ((l0.length : Int) - (l1.length : Int))) + 1)) = j_ := ⟨_, rfl⟩
          replace H : (if 0 ≤ (ji14) then (if (ji14 : Int).toNat ≤ 70368744177664 then ((some (List.replicate (ji14 : Int).toNat 0 : List Int)).bind fun y180 => (if (l1.length : Int) > 1 then (if 0 ≤ (wrap64 ((l1.length : Int) - 2)) then (if (wrap64 ((l1.length : Int) - 2)) < (y177.length : Int) then (impl_divideDigits.j1 k1 l0 (l1.length : Int) x7_1 t171 y177 y180 (IntKind.u64.wrap (rd y177 (wrap64 ((l1.length : Int) - 2))))) else (none)) else (none)) else (impl_divideDigits.j1 k1 l0 (l1.length : Int) x7_1 t171 y177 y180 0))) else (none)) else (none)) = some (r1, r2) := by first | (rw [hji14] at H; exact H) | (simp only [hji14] at H ⊢; exact H)
          (try rw [hji14] at A10)
          (try rw [hji14] at A11)
          have hji14w : (IntKind.i64.wrap ((wrap64 ((l0.length : Int) - (l1.length : Int))) + 1)) = ji14 := (i64_w _).trans hji14
          by_cases c15 : 0 ≤ (ji14)
          ·rw [if_pos c15] at H
           have c15b0 := eq_true c15
           have c15b1 : decide (0 ≤ (ji14)) = true := decide_eq_true c15
           clear c15
           by_cases c16 : (ji14 : Int).toNat ≤ 70368744177664
           ·rw [if_pos c16] at H
            have c16b0 := eq_true c16
            have c16b1 : decide ((ji14 : Int).toNat ≤ 70368744177664) = true := decide_eq_true c16
            clear c16
            obtain ⟨y180, hy180⟩ : ∃ y_ : List Int, y_ = (List.replicate (ji14 : Int).toNat 0) := ⟨_, rfl⟩
            replace H : (if (l1.length : Int) > 1 then (if 0 ≤ (wrap64 ((l1.length : Int) - 2)) then (if (wrap64 ((l1.length : Int) - 2)) < (y177.length : Int) then (impl_divideDigits.j1 k1 l0 (l1.length : Int) x7_1 t171 y177 y180 (IntKind.u64.wrap (rd y177 (wrap64 ((l1.length : Int) - 2))))) else (none)) else (none)) else (impl_divideDigits.j1 k1 l0 (l1.length : Int) x7_1 t171 y177 y180 0)) = some (r1, r2) := by first | (rw [hy180]; with_reducible exact H) | (have H2_ := (Option.bind_some _ _).symm.trans H; rw [hy180]; with_reducible exact H2_) | (have H2_ := (Option.bind_some _ _).symm.trans H; with_reducible exact H2_) | with_reducible exact H | (rw [hy180]; exact H) | exact H
            have Ny180 := Aside0.mk hy180
            clear hy180
            have HC17 := Aside0.mk H
            clear H
            have p170 : 0 ≤ ((ji4) : Int) := of_decide_eq_true (by first | (with_reducible assumption) | assumption)
            have q170 : (ji4) < (l1.length : Int) := of_decide_eq_true (by first | (with_reducible assumption) | assumption)
            obtain ⟨ad170, e170, hx170_0⟩ := Kd.at_int HR1.out (ji4) p170 q170
            cases e170
            replace hx170_0 := (HB.out.cell (World.block_lt_of_cell? w _ hx170_0)).trans hx170_0
            replace p170 := eq_true p170
            replace q170 := eq_true q170
            try go_wp2
            have n0_ := Aside0.mk (below_drew1 HB.out)
            clear HB
            have HB := n0_
            clear n0_
            refine start_ (n := 10) (S := fun w' => True) (ds := []) #[false, false, false, false, false, false, false, false, false, false] (by kernel_rfl) rfl rfl trivial (fun hHeld => ?_); refine with_tabW impl_divideDigits.tab7 impl_divideDigits.bits7 (fun HT_ HW_ => ?_)
            generalize wr.drew = w18 at HB hHeld ⊢
            refine pure_ (i := 0) (N := some 46) (v := ?_) (a' := ?_) #[true, false, false, false, false, false, false, false, false, false] rfl rfl (any_of HT_.out (by kernel_rfl)) (fun _ _ _ h => h) (Or.inl ⟨by rfl, ?_⟩) ?_ ?_
            rotate_left
            ·intro w'
             go_simp
             with_reducible rfl
            rotate_left
            ·simp only [Act.put, List.setIfInBounds_toArray, List.set_cons_zero, List.set_cons_succ, i64_w, i32_w]
             rfl
            refine pure_ (i := 1) (N := some 47) (v := ?_) (a' := ?_) #[true, true, false, false, false, false, false, false, false, false] rfl rfl (any_of HT_.out (by kernel_rfl)) (fun _ _ _ h => h) (Or.inl ⟨by rfl, ?_⟩) ?_ ?_
            rotate_left
            ·intro w'
             go_simp
             with_reducible rfl
            rotate_left
            ·simp only [Act.put, List.setIfInBounds_toArray, List.set_cons_zero, List.set_cons_succ, i64_w, i32_w]
             rfl
            refine pure_ (i := 3) (N := some 49) (v := ?_) (a' := ?_) #[true, true, false, true, false, false, false, false, false, false] rfl rfl (any_of HT_.out (by kernel_rfl)) (fun _ _ _ h => h) (Or.inl ⟨by rfl, ?_⟩) ?_ ?_
            rotate_left
            ·intro w'
             go_simp
             with_reducible rfl
            rotate_left
            ·simp only [Act.put, List.setIfInBounds_toArray, List.set_cons_zero, List.set_cons_succ, i64_w, i32_w]
             rfl
            refine pure_ (i := 4) (N := some 50) (v := ?_) (a' := ?_) #[true, true, false, true, true, false, false, false, false, false] rfl rfl (any_of HT_.out (by kernel_rfl)) (fun _ _ _ h => h) (Or.inl ⟨by rfl, ?_⟩) ?_ ?_
            rotate_left
            ·intro w'
             go_simp
             with_reducible rfl
            rotate_left
            ·simp only [Act.put, List.setIfInBounds_toArray, List.set_cons_zero, List.set_cons_succ, i64_w, i32_w]
             rfl
            refine pure_ (i := 6) (N := some 52) (v := ?_) (a' := ?_) #[true, true, false, true, true, false, true, false, false, false] rfl rfl (any_of HT_.out (by kernel_rfl)) (fun _ _ _ h => h) (Or.inl ⟨by rfl, ?_⟩) ?_ ?_
            rotate_left
            ·intro w'
             go_simp
             with_reducible rfl
            rotate_left
            ·simp only [Act.put, List.setIfInBounds_toArray, List.set_cons_zero, List.set_cons_succ, i64_w, i32_w]
             rfl
            refine one_ (i := 2) (N := some 48) #[true, true, true, true, true, false, true, false, false, false] rfl rfl (one_of HT_.out (by kernel_rfl)) (by decide) (fun K hK => ?_)
            refine goes_ Tryz.func71 (by kernel_rfl) rfl #[.slice A0 l0.length c0, .int .u64 x7_1] (by rfl) rfl rfl (by (try simp only [List.map_toArray, List.map_cons, List.map_nil]); first | done | rfl | (simp only [List.length_drop, List.length_take]; rfl)) ?_
            with_reducible refine (impl_doubled.calls k1 _ _ l0 x7_1 t171 _ ?side1 ?side2 A10.out).mono ?_
            (case side1 => repeat (first | exact (Kd.C_below HR0.out HB.out) | (with_reducible refine Kd.C_alloc ?_ _) | (with_reducible refine Kd.C_drewN ?_ _) | (with_reducible refine Kd.C_drew ?_)))
            (case side2 => exact HC0.out)
            rintro e w19 ⟨v172, rfl, ho0, hb⟩
            refine ⟨_, rfl, ?_⟩
            have n0_ := Aside0.mk (Kd.R_lower ho0 (below_size (by repeat (first | (with_reducible first | exact HB.out | apply below_alloc | apply pw_below_drewN | apply below_drew1) | exact HB.out))))
            have n1_ := Aside0.mk (below_step (by repeat (first | (with_reducible first | exact HB.out | apply below_alloc | apply pw_below_drewN | apply below_drew1) | exact HB.out)) hb)
            clear HB
            have HO173 := n0_
            have HB := n1_
            clear n0_ n1_
            (try clear hb)
            (try clear hb2)
            (try clear hk)
            (try clear hi)
            (try clear ho0)
            refine hK.out _ _ trivial (fun hHeld => ?_)
            clear hK K
            refine norm_ (a' := ?_) ?_ ?_
            rotate_left
            ·show Act.put _ (some 48) _ = _
             simp only [Act.put, List.setIfInBounds_toArray, List.set_cons_zero, List.set_cons_succ, i64_w, i32_w]
             rfl
            refine one_ (i := 5) (N := some 51) #[true, true, true, true, true, true, true, false, false, false] rfl rfl (one_of HT_.out (by kernel_rfl)) (by decide) (fun K hK => ?_)
            refine goes_ Tryz.func71 (by kernel_rfl) rfl #[.slice (some ad170) l1.length c1, .int .u64 x7_1] (by rfl) rfl rfl (by (try simp only [List.map_toArray, List.map_cons, List.map_nil]); first | done | rfl | (simp only [List.length_drop, List.length_take]; rfl)) ?_
            with_reducible refine (impl_doubled.calls k1 _ _ l1 x7_1 t174 _ ?side1 ?side2 A11.out).mono ?_
            (case side1 => repeat (first | exact (Kd.C_below HR1.out HB.out) | (with_reducible refine Kd.C_alloc ?_ _) | (with_reducible refine Kd.C_drewN ?_ _) | (with_reducible refine Kd.C_drew ?_)))
            (case side2 => exact HC1.out)
            rintro e w20 ⟨v175, rfl, ho0, hb⟩
            refine ⟨_, rfl, ?_⟩
            have n0_ := Aside0.mk (Kd.R_elder' (by (with_reducible repeat (first | apply Kd.R_alloc | apply Kd.R_drewN | apply Kd.R_drew)); exact HO173.out) (Kd.R_base ho0) hb)
            have n1_ := Aside0.mk (Kd.R_lower (Kd.R_new' ho0 (Kd.R_lt (by (with_reducible repeat (first | apply Kd.R_alloc | apply Kd.R_drewN | apply Kd.R_drew)); exact HO173.out))) (below_size (by repeat (first | (with_reducible first | exact HB.out | apply below_alloc | apply pw_below_drewN | apply below_drew1) | exact HB.out))))
            have n2_ := Aside0.mk (below_step (by repeat (first | (with_reducible first | exact HB.out | apply below_alloc | apply pw_below_drewN | apply below_drew1) | exact HB.out)) hb)
            clear HO173
            clear HB
            have HO173 := n0_
            have HO176 := n1_
            have HB := n2_
            clear n0_ n1_ n2_
            (try clear hb)
            (try clear hb2)
            (try clear hk)
            (try clear hi)
            (try clear ho0)
            obtain ⟨Ao21, co21, eo21⟩ := Kd.R_slice HO176.out
            (first | subst eo21 | (injection eo21 with f1_ f2_ f3_; have f4_ := f1_.symm; have f5_ := f3_.symm; clear f1_ f2_ f3_; subst f4_; subst f5_))
            have q22 : ((l1.length : Int) : Int) ≤ ((t174.length : Int) : Int) := of_decide_eq_true (by first | (with_reducible assumption) | assumption)
            obtain ⟨i022, hi022, _, hsz22, _⟩ := info_parts info85
            have hcut22 := cut_to (P := Tryz.prog) 46 85 .i64 Tryz.underlying46 hi022 Ao21 t174.length co21 (l1.length : Int) (of_decide_eq_true (by first | (with_reducible assumption) | assumption)) q22 (Kd.R_reads' HO176.out).2.1
            have hr22 := Kd.R_take (m := ((l1.length : Int) : Int).toNat) HO176.out (by omega)
            have hy22 : y177.length = ((l1.length : Int) : Int).toNat := (by rw [Ny177.out, List.length_take]; omega)
            rw [← Ny177.out] at hr22
            rw [← hy22] at hr22 hcut22
            clear hy22 hi022 hsz22 HO176
            have HO179 := Aside0.mk hr22
            clear hr22
            replace q22 := eq_true q22
            refine hK.out _ _ trivial (fun hHeld => ?_)
            clear hK K
            refine norm_ (a' := ?_) ?_ ?_
            rotate_left
            ·show Act.put _ (some 51) _ = _
             simp only [Act.put, List.setIfInBounds_toArray, List.set_cons_zero, List.set_cons_succ, i64_w, i32_w]
             rfl
            refine pure_ (i := 7) (N := some 53) (v := ?_) (a' := ?_) #[true, true, true, true, true, true, true, true, false, false] rfl rfl (any_of HT_.out (by kernel_rfl)) (fun _ _ _ h => h) (Or.inl ⟨by rfl, ?_⟩) ?_ ?_
            rotate_left
            ·intro w'
             go_simp
             with_reducible rfl
            rotate_left
            ·simp only [Act.put, List.setIfInBounds_toArray, List.set_cons_zero, List.set_cons_succ, i64_w, i32_w]
             rfl
            refine pure_ (i := 8) (N := some 8) (v := ?_) (a' := ?_) #[true, true, true, true, true, true, true, true, true, false] rfl rfl (any_of HT_.out (by kernel_rfl)) (fun _ _ _ h => h) (Or.inl ⟨by rfl, ?_⟩) ?_ ?_
            rotate_left
            ·intro w'
             go_simp
             with_reducible rfl
            rotate_left
            ·simp only [Act.put, List.setIfInBounds_toArray, List.set_cons_zero, List.set_cons_succ, i64_w, i32_w]
             rfl
            refine pure_ (i := 9) (N := some 9) (v := ?_) (a' := ?_) #[true, true, true, true, true, true, true, true, true, true] rfl rfl (any_of HT_.out (by kernel_rfl)) (fun _ _ _ h => h) (Or.inl ⟨by rfl, ?_⟩) ?_ ?_
            rotate_left
            ·intro w'
             go_simp
             with_reducible rfl
            rotate_left
            ·simp only [Act.put, List.setIfInBounds_toArray, List.set_cons_zero, List.set_cons_succ, i64_w, i32_w]
             rfl
            refine done_ (done_of HT_.out (by kernel_rfl)) ?_
            go_upto_if 61 with (first | ((with_reducible refine gate_dst (N := 59) rfl ?_); refine Kd.R_make (Kd.int .u32) _ 85 rfl (N := 59) rfl 46 _ _ rfl ji14 rfl rfl Tryz.underlying46 (.int .u32 0) 4 info85 rfl (by decide) (by omega) 0 (ok := fun _ => True) (okp := fun _ => True) rfl (fun _ hk => hk) trivial (of_decide_eq_true (by first | (with_reducible assumption) | assumption)) (Nat.le_trans (Nat.mul_le_mul_right _ (of_decide_eq_true (by first | (with_reducible assumption) | assumption) : ji14.toNat ≤ 70368744177664)) (by omega)) (Below.refl _ _) (Nat.le_refl _) ?_; intro v181 w23 ho24 hb hg_ hnew_; clear hg_ hnew_; (first | rw [← Ny180.out] at ho24 | (simp only [Int.reduceToNat] at ho24; rw [← Ny180.out] at ho24)); have n0_ := Aside0.mk (Kd.R_elder' (by (with_reducible repeat (first | apply Kd.R_alloc | apply Kd.R_drewN | apply Kd.R_drew)); exact HO173.out) (Kd.R_base ho24) hb); have n1_ := Aside0.mk (Kd.R_elder' (by (with_reducible repeat (first | apply Kd.R_alloc | apply Kd.R_drewN | apply Kd.R_drew)); exact HO179.out) (Kd.R_base ho24) hb); have n2_ := Aside0.mk (Kd.R_lower (Kd.R_new' (Kd.R_new' ho24 (Kd.R_lt (by (with_reducible repeat (first | apply Kd.R_alloc | apply Kd.R_drewN | apply Kd.R_drew)); exact HO173.out))) (Kd.R_lt (by (with_reducible repeat (first | apply Kd.R_alloc | apply Kd.R_drewN | apply Kd.R_drew)); exact HO179.out))) (below_size (by repeat (first | (with_reducible first | exact HB.out | apply below_alloc | apply pw_below_drewN | apply below_drew1) | exact HB.out)))); have n3_ := Aside0.mk (below_step (by repeat (first | (with_reducible first | exact HB.out | apply below_alloc | apply pw_below_drewN | apply below_drew1) | exact HB.out)) hb); clear HO173; clear HO179; clear HB; have HO173 := n0_; have HO179 := n1_; have HO182 := n2_; have HB := n3_; clear n0_ n1_ n2_ n3_; clear hb ho24))
            (try simp only [Act.put, List.setIfInBounds_toArray, List.set_cons_zero, List.set_cons_succ])
            go_cut [11] (fun v11 wc => ∃ (kq : Nat) (x11_16 : Int), v11 = .int .u64 x11_16 ∧ Aside0 (impl_divideDigits.j1 kq l0 (l1.length : Int) x7_1 t171 y177 y180 x11_16 = some (r1, r2)) ∧ Aside0 (kq ≤ k1) ∧ Aside0 (Kd.R (Kd.int .u32) 85 wc w.heap.size (fun k_ => some k_ ≠ ((.slice Ao21 y177.length co21) : Value).ownBlock ∧ some k_ ≠ (v181 : Value).ownBlock) v172 t171) ∧ Aside0 (Kd.R (Kd.int .u32) 85 wc w.heap.size (fun k_ => some k_ ≠ (v172 : Value).ownBlock ∧ some k_ ≠ (v181 : Value).ownBlock) (.slice Ao21 y177.length co21) y177) ∧ Aside0 (Kd.R (Kd.int .u32) 85 wc w.heap.size (fun k_ => some k_ ≠ (v172 : Value).ownBlock ∧ some k_ ≠ ((.slice Ao21 y177.length co21) : Value).ownBlock) v181 y180) ∧ Aside0 (Below w.heap.size w wc))
            case first =>
             have H := HC17.out
             clear HC17
             by_cases c25 : (l1.length : Int) > 1
             ·rw [if_pos c25] at H
              have c25b0 : decide (1 < (l1.length : Int)) = true := decide_eq_true c25
              have c25b1 : decide (1 < l1.length) = true := decide_eq_true (by omega)
              clear c25
              (first | rw [c25b0] | (simp only [i64_w, i32_w]; rw [c25b0]) | skip)
              obtain ⟨ji26, hji26⟩ : ∃ j_ : Int, (wrap64 ((l1.length : Int) - 2)) = j_ := ⟨_, rfl⟩
              replace H : (if 0 ≤ (ji26) then (if (ji26) < (y177.length : Int) then (impl_divideDigits.j1 k1 l0 (l1.length : Int) x7_1 t171 y177 y180 (IntKind.u64.wrap (rd y177 (ji26)))) else (none)) else (none)) = some (r1, r2) := by first | (rw [hji26] at H; exact H) | (simp only [hji26] at H ⊢; exact H)
              have hji26w : (IntKind.i64.wrap ((l1.length : Int) - 2)) = ji26 := (i64_w _).trans hji26
              by_cases c27 : 0 ≤ (ji26)
              ·rw [if_pos c27] at H
               have c27b0 : decide (0 ≤ (ji26)) = true := decide_eq_true c27
               clear c27
               by_cases c28 : (ji26) < (y177.length : Int)
               ·rw [if_pos c28] at H
                have c28b0 : decide ((ji26) < (y177.length : Int)) = true := decide_eq_true c28
                clear c28
                as_aux_lemma =>
                 have H' := Aside0.mk H
                 clear H
                 have p183 : 0 ≤ ((ji26) : Int) := of_decide_eq_true (by first | (with_reducible assumption) | assumption)
                 have q183 : (ji26) < (y177.length : Int) := of_decide_eq_true (by first | (with_reducible assumption) | assumption)
                 obtain ⟨ad183, e183, hx183_0⟩ := Kd.at_int (Kd.R_reads' HO179.out).2.2 (ji26) p183 q183
                 cases e183
                 replace p183 := eq_true p183
                 replace q183 := eq_true q183
                 go_wp2
                 go_meet
                 case rel => exact ⟨_, (IntKind.u64.wrap (rd y177 (ji26))), (by first | rfl | (simp; done) | (simp only [← hji26] <;> (first | rfl | simp)) | (simp [*]; done)), H', ⟨by have := HK1.out; first | omega | exact Nat.le_refl _⟩, ⟨by (with_reducible repeat (first | apply Kd.R_alloc | apply Kd.R_drewN | apply Kd.R_drew)); (first | exact Kd.R_mono HO173.out (fun _ hk => ⟨hk.1.2, hk.2⟩) | exact Kd.R_mono HO173.out (fun _ hk => by simp only [own_len] at hk ⊢; exact ⟨hk.1.2, hk.2⟩))⟩, ⟨by (with_reducible repeat (first | apply Kd.R_alloc | apply Kd.R_drewN | apply Kd.R_drew)); (first | exact Kd.R_mono HO179.out (fun _ hk => ⟨hk.1.2, hk.2⟩) | exact Kd.R_mono HO179.out (fun _ hk => by simp only [own_len] at hk ⊢; exact ⟨hk.1.2, hk.2⟩))⟩, ⟨by (with_reducible repeat (first | apply Kd.R_alloc | apply Kd.R_drewN | apply Kd.R_drew)); (first | exact Kd.R_mono HO182.out (fun _ hk => ⟨hk.1.2, hk.2⟩) | exact Kd.R_mono HO182.out (fun _ hk => by simp only [own_len] at hk ⊢; exact ⟨hk.1.2, hk.2⟩))⟩, ⟨by repeat (first | (with_reducible first | exact HB.out | apply below_alloc | apply pw_below_drewN | apply below_drew1) | exact HB.out)⟩⟩
               ·rw [if_neg c28] at H
                exact absurd H (by simp)
              ·rw [if_neg c27] at H
               exact absurd H (by simp)
             ·rw [if_neg c25] at H
              have c25b0 : decide (1 < (l1.length : Int)) = false := decide_eq_false c25
              have c25b1 : decide (1 < l1.length) = false := decide_eq_false (by omega)
              clear c25
              (first | rw [c25b0] | (simp only [i64_w, i32_w]; rw [c25b0]) | skip)
              as_aux_lemma =>
               have H' := Aside0.mk H
               clear H
               go_wp2
               go_meet
               case rel => exact ⟨_, (0), (by first | rfl | (simp; done) | (simp [*]; done)), H', ⟨by have := HK1.out; first | omega | exact Nat.le_refl _⟩, ⟨by (with_reducible repeat (first | apply Kd.R_alloc | apply Kd.R_drewN | apply Kd.R_drew)); (first | exact Kd.R_mono HO173.out (fun _ hk => ⟨hk.1.2, hk.2⟩) | exact Kd.R_mono HO173.out (fun _ hk => by simp only [own_len] at hk ⊢; exact ⟨hk.1.2, hk.2⟩))⟩, ⟨by (with_reducible repeat (first | apply Kd.R_alloc | apply Kd.R_drewN | apply Kd.R_drew)); (first | exact Kd.R_mono HO179.out (fun _ hk => ⟨hk.1.2, hk.2⟩) | exact Kd.R_mono HO179.out (fun _ hk => by simp only [own_len] at hk ⊢; exact ⟨hk.1.2, hk.2⟩))⟩, ⟨by (with_reducible repeat (first | apply Kd.R_alloc | apply Kd.R_drewN | apply Kd.R_drew)); (first | exact Kd.R_mono HO182.out (fun _ hk => ⟨hk.1.2, hk.2⟩) | exact Kd.R_mono HO182.out (fun _ hk => by simp only [own_len] at hk ⊢; exact ⟨hk.1.2, hk.2⟩))⟩, ⟨by repeat (first | (with_reducible first | exact HB.out | apply below_alloc | apply pw_below_drewN | apply below_drew1) | exact HB.out)⟩⟩
            case rest =>
             clear HC17
             try clear c1
             try clear p1
             try clear q1
             try clear hx1
             try clear c2
             try clear p2
             try clear q2
             try clear c3
             try clear c3b0
             try clear c3b1
             try clear c5
             try clear c5b0
             try clear c6
             try clear c6b0
             try clear p6
             try clear c7
             try clear c7b0
             try clear c7b1
             try clear c9
             try clear c9b0
             try clear c12
             try clear c12b0
             try clear c12b1
             try clear c13
             try clear c13b0
             try clear c13b1
             try clear c15
             try clear c15b0
             try clear c15b1
             try clear c16
             try clear c16b0
             try clear c16b1
             try clear p17
             try clear q17
             try clear hx17
             try clear p18
             try clear q18
             try clear hx18
             try clear q22
             try clear c25
             try clear c25b0
             try clear c25b1
             try clear c27
             try clear c27b0
             try clear c28
             try clear c28b0
             try clear hx170_0
             try clear hx183_0
             try clear p170
             try clear p183
             try clear p2
             try clear q170
             try clear q183
             try clear q22
             obtain ⟨kq, x11_16, rfl, HA, HJ16, HO_8, HO_9, HO_10, HB⟩ := hcut
             cases kq with
             | zero => exact absurd HA.out (by simp [impl_divideDigits.j1])
             | succ kj16 =>
              have H := HA.out
              clear HA
              simp only [impl_divideDigits.j1] at H
              have H' := Aside0.mk H
              clear H
              go_wp2
              go_loopg [12] kj16 (fun kq v12 w' => ∃ (x8_3 : List Int) (x10_3 : List Int) (x12_3 : Int), v12 = .int .i64 x12_3 ∧ Aside0 (impl_divideDigits.l1 kq (l1.length : Int) x7_1 x8_3 y177 x10_3 x11_16 x12_3 = some (r1, r2)) ∧ Aside0 (kq ≤ kj16) ∧ Aside0 (Kd.R (Kd.int .u32) 85 w' w.heap.size (fun k_ => some k_ ≠ ((.slice Ao21 y177.length co21) : Value).ownBlock ∧ some k_ ≠ (v181 : Value).ownBlock) v172 x8_3) ∧ Aside0 (Kd.R (Kd.int .u32) 85 w' w.heap.size (fun k_ => some k_ ≠ (v172 : Value).ownBlock ∧ some k_ ≠ (v181 : Value).ownBlock) (.slice Ao21 y177.length co21) y177) ∧ Aside0 (Kd.R (Kd.int .u32) 85 w' w.heap.size (fun k_ => some k_ ≠ (v172 : Value).ownBlock ∧ some k_ ≠ ((.slice Ao21 y177.length co21) : Value).ownBlock) v181 x10_3) ∧ Aside0 (Below w.heap.size w w'))
              case atStart => exact ⟨(t171), (y180), (wrap64 ((l0.length : Int) - (l1.length : Int))), (by first | rfl | (simp; done) | (simp [*]; done)), H', ⟨Nat.le_refl _⟩, ⟨by (with_reducible repeat (first | apply Kd.R_alloc | apply Kd.R_drewN | apply Kd.R_drew)); exact HO_8.out⟩, ⟨by (with_reducible repeat (first | apply Kd.R_alloc | apply Kd.R_drewN | apply Kd.R_drew)); exact HO_9.out⟩, ⟨by (with_reducible repeat (first | apply Kd.R_alloc | apply Kd.R_drewN | apply Kd.R_drew)); exact HO_10.out⟩, ⟨by repeat (first | (with_reducible first | exact HB.out | apply below_alloc | apply pw_below_drewN | apply below_drew1) | exact HB.out)⟩⟩
              case round =>
               clear H'
               try clear c1
               try clear p1
               try clear q1
               try clear hx1
               try clear c2
               try clear p2
               try clear q2
               try clear c3
               try clear c3b0
               try clear c3b1
               try clear c5
               try clear c5b0
               try clear c6
               try clear c6b0
               try clear p6
               try clear c7
               try clear c7b0
               try clear c7b1
               try clear c9
               try clear c9b0
               try clear c12
               try clear c12b0
               try clear c12b1
               try clear c13
               try clear c13b0
               try clear c13b1
               try clear c15
               try clear c15b0
               try clear c15b1
               try clear c16
               try clear c16b0
               try clear c16b1
               try clear p17
               try clear q17
               try clear hx17
               try clear p18
               try clear q18
               try clear hx18
               try clear q22
               try clear c25
               try clear c25b0
               try clear c25b1
               try clear c27
               try clear c27b0
               try clear c28
               try clear c28b0
               try clear hx170_0
               try clear hx183_0
               try clear p1
               try clear p17
               try clear p170
               try clear p18
               try clear p183
               try clear p2
               try clear p6
               try clear q1
               try clear q17
               try clear q170
               try clear q18
               try clear q183
               try clear q2
               try clear q22
               obtain ⟨x8_3, x10_3, x12_3, rfl, HA, HK3, HO_8, HO_9, HO_10, HB⟩ := hrel
               cases gk with
               | zero => exact absurd HA.out (by simp [impl_divideDigits.l1])
               | succ k3 =>
                have H := HA.out
                clear HA
                simp only [impl_divideDigits.l1] at H
                by_cases c29 : x12_3 ≥ 0
                ·rw [if_pos c29] at H
                 have c29b0 : decide (0 ≤ x12_3) = true := decide_eq_true c29
                 clear c29
                 obtain ⟨ji30, hji30⟩ : ∃ j_ : Int, (wrap64 (x12_3 + (l1.length : Int))) = j_ := ⟨_, rfl⟩
                 replace H : (if 0 ≤ (ji30) then (if (ji30) < (x8_3.length : Int) then (if 0 ≤ (wrap64 ((ji30) - 1)) then (if (wrap64 ((ji30) - 1)) < (x8_3.length : Int) then (if 0 ≤ (wrap64 ((l1.length : Int) - 1)) then (if (wrap64 ((l1.length : Int) - 1)) < (y177.length : Int) then (if (IntKind.u64.wrap (rd y177 (wrap64 ((l1.length : Int) - 1)))) = 0 then (none) else (if (l1.length : Int) > 1 then (if 0 ≤ (wrap64 ((ji30) - 2)) then (if (wrap64 ((ji30) - 2)) < (x8_3.length : Int) then (impl_divideDigits.j3 k3 (l1.length : Int) x7_1 x8_3 y177 x10_3 x11_16 x12_3 (IntKind.u64.wrap (Int.tdiv (Go.bits .or .u64 (IntKind.u64.wrap ((IntKind.u64.wrap (rd x8_3 (ji30))) * 4294967296)) (IntKind.u64.wrap (rd x8_3 (wrap64 ((ji30) - 1))))) (IntKind.u64.wrap (rd y177 (wrap64 ((l1.length : Int) - 1)))))) (Int.tmod (Go.bits .or .u64 (IntKind.u64.wrap ((IntKind.u64.wrap (rd x8_3 (ji30))) * 4294967296)) (IntKind.u64.wrap (rd x8_3 (wrap64 ((ji30) - 1))))) (IntKind.u64.wrap (rd y177 (wrap64 ((l1.length : Int) - 1))))) (IntKind.u64.wrap (rd x8_3 (wrap64 ((ji30) - 2))))) else (none)) else (none)) else (impl_divideDigits.j3 k3 (l1.length : Int) x7_1 x8_3 y177 x10_3 x11_16 x12_3 (IntKind.u64.wrap (Int.tdiv (Go.bits .or .u64 (IntKind.u64.wrap ((IntKind.u64.wrap (rd x8_3 (ji30))) * 4294967296)) (IntKind.u64.wrap (rd x8_3 (wrap64 ((ji30) - 1))))) (IntKind.u64.wrap (rd y177 (wrap64 ((l1.length : Int) - 1)))))) (Int.tmod (Go.bits .or .u64 (IntKind.u64.wrap ((IntKind.u64.wrap (rd x8_3 (ji30))) * 4294967296)) (IntKind.u64.wrap (rd x8_3 (wrap64 ((ji30) - 1))))) (IntKind.u64.wrap (rd y177 (wrap64 ((l1.length : Int) - 1))))) 0))) else (none)) else (none)) else (none)) else (none)) else (none)) else (none)) = some (r1, r2) := by first | (rw [hji30] at H; exact H) | (simp only [hji30] at H ⊢; exact H)
                 have hji30w : (IntKind.i64.wrap (x12_3 + (l1.length : Int))) = ji30 := (i64_w _).trans hji30
                 by_cases c31 : 0 ≤ (ji30)
                 ·rw [if_pos c31] at H
                  have c31b0 : decide (0 ≤ (ji30)) = true := decide_eq_true c31
                  clear c31
                  by_cases c32 : (ji30) < (x8_3.length : Int)
                  ·rw [if_pos c32] at H
                   have c32b0 : decide ((ji30) < (x8_3.length : Int)) = true := decide_eq_true c32
                   clear c32
                   obtain ⟨ji33, hji33⟩ : ∃ j_ : Int, (wrap64 ((ji30) - 1)) = j_ := ⟨_, rfl⟩
                   replace H : (if 0 ≤ (ji33) then (if (ji33) < (x8_3.length : Int) then (if 0 ≤ (wrap64 ((l1.length : Int) - 1)) then (if (wrap64 ((l1.length : Int) - 1)) < (y177.length : Int) then (if (IntKind.u64.wrap (rd y177 (wrap64 ((l1.length : Int) - 1)))) = 0 then (none) else (if (l1.length : Int) > 1 then (if 0 ≤ (wrap64 ((ji30) - 2)) then (if (wrap64 ((ji30) - 2)) < (x8_3.length : Int) then (impl_divideDigits.j3 k3 (l1.length : Int) x7_1 x8_3 y177 x10_3 x11_16 x12_3 (IntKind.u64.wrap (Int.tdiv (Go.bits .or .u64 (IntKind.u64.wrap ((IntKind.u64.wrap (rd x8_3 (ji30))) * 4294967296)) (IntKind.u64.wrap (rd x8_3 (ji33)))) (IntKind.u64.wrap (rd y177 (wrap64 ((l1.length : Int) - 1)))))) (Int.tmod (Go.bits .or .u64 (IntKind.u64.wrap ((IntKind.u64.wrap (rd x8_3 (ji30))) * 4294967296)) (IntKind.u64.wrap (rd x8_3 (ji33)))) (IntKind.u64.wrap (rd y177 (wrap64 ((l1.length : Int) - 1))))) (IntKind.u64.wrap (rd x8_3 (wrap64 ((ji30) - 2))))) else (none)) else (none)) else (impl_divideDigits.j3 k3 (l1.length : Int) x7_1 x8_3 y177 x10_3 x11_16 x12_3 (IntKind.u64.wrap (Int.tdiv (Go.bits .or .u64 (IntKind.u64.wrap ((IntKind.u64.wrap (rd x8_3 (ji30))) * 4294967296)) (IntKind.u64.wrap (rd x8_3 (ji33)))) (IntKind.u64.wrap (rd y177 (wrap64 ((l1.length : Int) - 1)))))) (Int.tmod (Go.bits .or .u64 (IntKind.u64.wrap ((IntKind.u64.wrap (rd x8_3 (ji30))) * 4294967296)) (IntKind.u64.wrap (rd x8_3 (ji33)))) (IntKind.u64.wrap (rd y177 (wrap64 ((l1.length : Int) - 1))))) 0))) else (none)) else (none)) else (none)) else (none)) = some (r1, r2) := by first | (rw [hji33] at H; exact H) | (simp only [hji33] at H ⊢; exact H)
                   have hji33w : (IntKind.i64.wrap ((ji30) - 1)) = ji33 := (i64_w _).trans hji33
                   by_cases c34 : 0 ≤ (ji33)
                   ·rw [if_pos c34] at H
                    have c34b0 : decide (0 ≤ (ji33)) = true := decide_eq_true c34
                    clear c34
                    by_cases c35 : (ji33) < (x8_3.length : Int)
                    ·rw [if_pos c35] at H
                     have c35b0 : decide ((ji33) < (x8_3.length : Int)) = true := decide_eq_true c35
                     clear c35
                     obtain ⟨ji36, hji36⟩ : ∃ j_ : Int, (wrap64 ((l1.length : Int) - 1)) = j_ := ⟨_, rfl⟩
                     obtain rfl : ji36 = ji4 := hji36.symm.trans hji4
                     replace H : (if 0 ≤ (ji36) then (if (ji36) < (y177.length : Int) then (if (IntKind.u64.wrap (rd y177 (ji36))) = 0 then (none) else (if (l1.length : Int) > 1 then (if 0 ≤ (wrap64 ((ji30) - 2)) then (if (wrap64 ((ji30) - 2)) < (x8_3.length : Int) then (impl_divideDigits.j3 k3 (l1.length : Int) x7_1 x8_3 y177 x10_3 x11_16 x12_3 (IntKind.u64.wrap (Int.tdiv (Go.bits .or .u64 (IntKind.u64.wrap ((IntKind.u64.wrap (rd x8_3 (ji30))) * 4294967296)) (IntKind.u64.wrap (rd x8_3 (ji33)))) (IntKind.u64.wrap (rd y177 (ji36))))) (Int.tmod (Go.bits .or .u64 (IntKind.u64.wrap ((IntKind.u64.wrap (rd x8_3 (ji30))) * 4294967296)) (IntKind.u64.wrap (rd x8_3 (ji33)))) (IntKind.u64.wrap (rd y177 (ji36)))) (IntKind.u64.wrap (rd x8_3 (wrap64 ((ji30) - 2))))) else (none)) else (none)) else (impl_divideDigits.j3 k3 (l1.length : Int) x7_1 x8_3 y177 x10_3 x11_16 x12_3 (IntKind.u64.wrap (Int.tdiv (Go.bits .or .u64 (IntKind.u64.wrap ((IntKind.u64.wrap (rd x8_3 (ji30))) * 4294967296)) (IntKind.u64.wrap (rd x8_3 (ji33)))) (IntKind.u64.wrap (rd y177 (ji36))))) (Int.tmod (Go.bits .or .u64 (IntKind.u64.wrap ((IntKind.u64.wrap (rd x8_3 (ji30))) * 4294967296)) (IntKind.u64.wrap (rd x8_3 (ji33)))) (IntKind.u64.wrap (rd y177 (ji36)))) 0))) else (none)) else (none)) = some (r1, r2) := by first | (rw [hji36] at H; exact H) | (simp only [hji36] at H ⊢; exact H)
                     have hji36w : (IntKind.i64.wrap ((l1.length : Int) - 1)) = ji36 := (i64_w _).trans hji36
                     by_cases c37 : 0 ≤ (ji36)
                     ·rw [if_pos c37] at H
                      have c37b0 : decide (0 ≤ (ji36)) = true := decide_eq_true c37
                      clear c37
                      by_cases c38 : (ji36) < (y177.length : Int)
                      ·rw [if_pos c38] at H
                       have c38b0 : decide ((ji36) < (y177.length : Int)) = true := decide_eq_true c38
                       clear c38
                       by_cases c39 : (IntKind.u64.wrap (rd y177 (ji36))) = 0
                       ·rw [if_pos c39] at H
                        exact absurd H (by simp)
                       ·rw [if_neg c39] at H
                        have c39b0 : ((IntKind.u64.wrap (rd y177 (ji36))) == 0) = false := beq_eq_false_iff_ne.mpr c39
                        have c39b1 : ((IntKind.u64.wrap (rd y177 (ji36))) != 0) = true := bne_iff_ne.mpr c39
                        have HC40 := Aside0.mk H
                        clear H
                        try go_wp2
                        have n0_ := Aside0.mk (Kd.R_drew HO_8.out)
                        have n1_ := Aside0.mk (Kd.R_drew HO_9.out)
                        have n2_ := Aside0.mk (Kd.R_drew HO_10.out)
                        have n3_ := Aside0.mk (below_drew1 HB.out)
                        clear HO_8
                        clear HO_9
                        clear HO_10
                        clear HB
                        have HO_8 := n0_
                        have HO_9 := n1_
                        have HO_10 := n2_
                        have HB := n3_
                        clear n0_ n1_ n2_ n3_
                        obtain ⟨Ao42, co42, eo42⟩ := Kd.R_slice HO_8.out
                        (first | subst eo42 | (injection eo42 with f1_ f2_ f3_; have f4_ := f1_.symm; have f5_ := f3_.symm; clear f1_ f2_ f3_; subst f4_; subst f5_))
                        have p184 : 0 ≤ ((ji30) : Int) := of_decide_eq_true (by first | (with_reducible assumption) | assumption)
                        have q184 : (ji30) < (x8_3.length : Int) := of_decide_eq_true (by first | (with_reducible assumption) | assumption)
                        obtain ⟨ad184, e184, hx184_0⟩ := Kd.at_int (Kd.R_reads' HO_8.out).2.2 (ji30) p184 q184
                        cases e184
                        replace p184 := eq_true p184
                        replace q184 := eq_true q184
                        have p185 : 0 ≤ ((ji33) : Int) := of_decide_eq_true (by first | (with_reducible assumption) | assumption)
                        have q185 : (ji33) < (x8_3.length : Int) := of_decide_eq_true (by first | (with_reducible assumption) | assumption)
                        obtain ⟨ad185, e185, hx185_0⟩ := Kd.at_int (Kd.R_reads' HO_8.out).2.2 (ji33) p185 q185
                        obtain rfl : ad184 = ad185 := (by injection e185)
                        replace p185 := eq_true p185
                        replace q185 := eq_true q185
                        refine start_ (n := 18) (S := fun w' => w'.cell? (ad184.add ((ji30)).toNat) = some (.int .u32 (rd x8_3 (ji30))) ∧ w'.cell? (ad184.add ((ji33)).toNat) = some (.int .u32 (rd x8_3 (ji33)))) (ds := []) #[false, false, false, false, false, false, false, false, false, false, false, false, false, false, false, false, false, false] (by kernel_rfl) rfl rfl ⟨hx184_0, hx185_0⟩ (fun hHeld => ?_); refine with_tabW impl_divideDigits.tab14 impl_divideDigits.bits14 (fun HT_ HW_ => ?_)
                        generalize wr.drew = w41 at HO_8 HO_9 HO_10 HB hx184_0 hx185_0 hHeld ⊢
                        refine pure_ (i := 0) (N := some 76) (v := ?_) (a' := ?_) #[true, false, false, false, false, false, false, false, false, false, false, false, false, false, false, false, false, false] rfl rfl (any_of HT_.out (by kernel_rfl)) (fun _ _ _ h => h) (Or.inl ⟨by rfl, ?_⟩) ?_ ?_
                        rotate_left
                        ·intro w'
                         go_simp
                         with_reducible rfl
                        rotate_left
                        ·simp only [Act.put, List.setIfInBounds_toArray, List.set_cons_zero, List.set_cons_succ, i64_w, i32_w]
                         rfl
                        refine pure_ (i := 1) (N := some 77) (v := ?_) (a' := ?_) #[true, true, false, false, false, false, false, false, false, false, false, false, false, false, false, false, false, false] rfl rfl (any_of HT_.out (by kernel_rfl)) (fun _ _ _ h => h) (Or.inl ⟨by rfl, ?_⟩) ?_ ?_
                        rotate_left
                        ·intro w'
                         go_simp
                         with_reducible rfl
                        rotate_left
                        ·simp only [Act.put, List.setIfInBounds_toArray, List.set_cons_zero, List.set_cons_succ, i64_w, i32_w]
                         rfl
                        refine pure_ (i := 2) (N := some 78) (v := ?_) (a' := ?_) #[true, true, true, false, false, false, false, false, false, false, false, false, false, false, false, false, false, false] rfl rfl (any_of HT_.out (by kernel_rfl)) (fun _ _ _ h => h) (Or.inl ⟨by rfl, ?_⟩) ?_ ?_
                        rotate_left
                        ·intro w'
                         go_simp
                         with_reducible rfl
                        rotate_left
                        ·simp only [Act.put, List.setIfInBounds_toArray, List.set_cons_zero, List.set_cons_succ, i64_w, i32_w]
                         rfl
                        refine pure_ (i := 3) (N := some 79) (v := ?_) (a' := ?_) #[true, true, true, true, false, false, false, false, false, false, false, false, false, false, false, false, false, false] rfl rfl (any_of HT_.out (by kernel_rfl)) (fun _ _ _ h => h) (Or.inl ⟨by rfl, ?_⟩) ?_ ?_
                        rotate_left
                        ·intro w'
                         go_simp
                         with_reducible rfl
                        rotate_left
                        ·simp only [Act.put, List.setIfInBounds_toArray, List.set_cons_zero, List.set_cons_succ, i64_w, i32_w]
                         rfl
                        refine pure_ (i := 4) (N := some 80) (v := ?_) (a' := ?_) #[true, true, true, true, true, false, false, false, false, false, false, false, false, false, false, false, false, false] rfl rfl (any_of HT_.out (by kernel_rfl)) (fun _ _ _ h => h) (Or.inl ⟨by rfl, ?_⟩) ?_ ?_
                        rotate_left
                        ·intro w'
                         go_simp
                         with_reducible rfl
                        rotate_left
                        ·simp only [Act.put, List.setIfInBounds_toArray, List.set_cons_zero, List.set_cons_succ, i64_w, i32_w]
                         rfl
                        refine pure_ (i := 8) (N := some 84) (v := ?_) (a' := ?_) #[true, true, true, true, true, false, false, false, true, false, false, false, false, false, false, false, false, false] rfl rfl (any_of HT_.out (by kernel_rfl)) (fun _ _ _ h => h) (Or.inl ⟨by rfl, ?_⟩) ?_ ?_
                        rotate_left
                        ·intro w'
                         go_simp
                         with_reducible rfl
                        rotate_left
                        ·simp only [Act.put, List.setIfInBounds_toArray, List.set_cons_zero, List.set_cons_succ, i64_w, i32_w]
                         rfl
                        refine pure_ (i := 9) (N := some 85) (v := ?_) (a' := ?_) #[true, true, true, true, true, false, false, false, true, true, false, false, false, false, false, false, false, false] rfl rfl (any_of HT_.out (by kernel_rfl)) (fun _ _ _ h => h) (Or.inl ⟨by rfl, ?_⟩) ?_ ?_
                        rotate_left
                        ·intro w'
                         go_simp
                         with_reducible rfl
                        rotate_left
                        ·simp only [Act.put, List.setIfInBounds_toArray, List.set_cons_zero, List.set_cons_succ, i64_w, i32_w]
                         rfl
                        refine pure_ (i := 10) (N := some 86) (v := ?_) (a' := ?_) #[true, true, true, true, true, false, false, false, true, true, true, false, false, false, false, false, false, false] rfl rfl (any_of HT_.out (by kernel_rfl)) (fun _ _ _ h => h) (Or.inl ⟨by rfl, ?_⟩) ?_ ?_
                        rotate_left
                        ·intro w'
                         go_simp
                         with_reducible rfl
                        rotate_left
                        ·simp only [Act.put, List.setIfInBounds_toArray, List.set_cons_zero, List.set_cons_succ, i64_w, i32_w]
                         rfl
                        refine pure_ (i := 11) (N := some 87) (v := ?_) (a' := ?_) #[true, true, true, true, true, false, false, false, true, true, true, true, false, false, false, false, false, false] rfl rfl (any_of HT_.out (by kernel_rfl)) (fun _ _ _ h => h) (Or.inl ⟨by rfl, ?_⟩) ?_ ?_
                        rotate_left
                        ·intro w'
                         go_simp
                         with_reducible rfl
                        rotate_left
                        ·simp only [Act.put, List.setIfInBounds_toArray, List.set_cons_zero, List.set_cons_succ, i64_w, i32_w]
                         rfl
                        refine pure_ (i := 12) (N := some 88) (v := ?_) (a' := ?_) #[true, true, true, true, true, false, false, false, true, true, true, true, true, false, false, false, false, false] rfl rfl (any_of HT_.out (by kernel_rfl)) (fun _ _ _ h => h) (Or.inl ⟨by rfl, ?_⟩) ?_ ?_
                        rotate_left
                        ·intro w'
                         go_simp
                         with_reducible rfl
                        rotate_left
                        ·simp only [Act.put, List.setIfInBounds_toArray, List.set_cons_zero, List.set_cons_succ, i64_w, i32_w]
                         rfl
                        refine pure_ (i := 13) (N := some 89) (v := ?_) (a' := ?_) #[true, true, true, true, true, false, false, false, true, true, true, true, true, true, false, false, false, false] rfl rfl (any_of HT_.out (by kernel_rfl)) (fun _ _ _ h => h) (Or.inl ⟨by rfl, ?_⟩) ?_ ?_
                        rotate_left
                        ·intro w'
                         go_simp
                         with_reducible rfl
                        rotate_left
                        ·simp only [Act.put, List.setIfInBounds_toArray, List.set_cons_zero, List.set_cons_succ, i64_w, i32_w]
                         rfl
                        refine take_ (i := 5) (N := some 81) (v := ?_) (a' := ?_) #[true, true, true, true, true, true, false, false, true, true, true, true, true, true, false, false, false, false] rfl rfl (take_ofW HT_.out HW_.out (by kernel_rfl)) (fun _ _ _ h => h) (Or.inl ⟨by rfl, ?_⟩) hHeld ?_ ?_
                        rotate_left
                        ·rintro w' ⟨s0, s1⟩
                         go_simp
                         with_reducible rfl
                        rotate_left
                        ·simp only [Act.put, List.setIfInBounds_toArray, List.set_cons_zero, List.set_cons_succ, i64_w, i32_w]
                         rfl
                        refine pure_ (i := 6) (N := some 82) (v := ?_) (a' := ?_) #[true, true, true, true, true, true, true, false, true, true, true, true, true, true, false, false, false, false] rfl rfl (any_of HT_.out (by kernel_rfl)) (fun _ _ _ h => h) (Or.inl ⟨by rfl, ?_⟩) ?_ ?_
                        rotate_left
                        ·intro w'
                         go_simp
                         with_reducible rfl
                        rotate_left
                        ·simp only [Act.put, List.setIfInBounds_toArray, List.set_cons_zero, List.set_cons_succ, i64_w, i32_w]
                         rfl
                        refine pure_ (i := 7) (N := some 83) (v := ?_) (a' := ?_) #[true, true, true, true, true, true, true, true, true, true, true, true, true, true, false, false, false, false] rfl rfl (any_of HT_.out (by kernel_rfl)) (fun _ _ _ h => h) (Or.inl ⟨by rfl, ?_⟩) ?_ ?_
                        rotate_left
                        ·intro w'
                         go_simp
                         with_reducible rfl
                        rotate_left
                        ·simp only [Act.put, List.setIfInBounds_toArray, List.set_cons_zero, List.set_cons_succ, i64_w, i32_w]
                         rfl
                        refine take_ (i := 14) (N := some 90) (v := ?_) (a' := ?_) #[true, true, true, true, true, true, true, true, true, true, true, true, true, true, true, false, false, false] rfl rfl (take_ofW HT_.out HW_.out (by kernel_rfl)) (fun _ _ _ h => h) (Or.inl ⟨by rfl, ?_⟩) hHeld ?_ ?_
                        rotate_left
                        ·rintro w' ⟨s0, s1⟩
                         go_simp
                         with_reducible rfl
                        rotate_left
                        ·simp only [Act.put, List.setIfInBounds_toArray, List.set_cons_zero, List.set_cons_succ, i64_w, i32_w]
                         rfl
                        refine pure_ (i := 15) (N := some 91) (v := ?_) (a' := ?_) #[true, true, true, true, true, true, true, true, true, true, true, true, true, true, true, true, false, false] rfl rfl (any_of HT_.out (by kernel_rfl)) (fun _ _ _ h => h) (Or.inl ⟨by rfl, ?_⟩) ?_ ?_
                        rotate_left
                        ·intro w'
                         go_simp
                         with_reducible rfl
                        rotate_left
                        ·simp only [Act.put, List.setIfInBounds_toArray, List.set_cons_zero, List.set_cons_succ, i64_w, i32_w]
                         rfl
                        refine pure_ (i := 16) (N := some 92) (v := ?_) (a' := ?_) #[true, true, true, true, true, true, true, true, true, true, true, true, true, true, true, true, true, false] rfl rfl (any_of HT_.out (by kernel_rfl)) (fun _ _ _ h => h) (Or.inl ⟨by rfl, ?_⟩) ?_ ?_
                        rotate_left
                        ·intro w'
                         go_simp
                         with_reducible rfl
                        rotate_left
                        ·simp only [Act.put, List.setIfInBounds_toArray, List.set_cons_zero, List.set_cons_succ, i64_w, i32_w]
                         rfl
                        refine pure_ (i := 17) (N := some 13) (v := ?_) (a' := ?_) #[true, true, true, true, true, true, true, true, true, true, true, true, true, true, true, true, true, true] rfl rfl (any_of HT_.out (by kernel_rfl)) (fun _ _ _ h => h) (Or.inl ⟨by rfl, ?_⟩) ?_ ?_
                        rotate_left
                        ·intro w'
                         go_simp
                         with_reducible rfl
                        rotate_left
                        ·simp only [Act.put, List.setIfInBounds_toArray, List.set_cons_zero, List.set_cons_succ, i64_w, i32_w]
                         rfl
                        refine done_ (done_of HT_.out (by kernel_rfl)) ?_
                        try go_wp2
                        have n0_ := Aside0.mk (Kd.R_drew HO_8.out)
                        have n1_ := Aside0.mk (Kd.R_drew HO_9.out)
                        have n2_ := Aside0.mk (Kd.R_drew HO_10.out)
                        have n3_ := Aside0.mk (below_drew1 HB.out)
                        clear HO_8
                        clear HO_9
                        clear HO_10
                        clear HB
                        have HO_8 := n0_
                        have HO_9 := n1_
                        have HO_10 := n2_
                        have HB := n3_
                        clear n0_ n1_ n2_ n3_
                        have p186 : 0 ≤ ((ji36) : Int) := of_decide_eq_true (by first | (with_reducible assumption) | assumption)
                        have q186 : (ji36) < (y177.length : Int) := of_decide_eq_true (by first | (with_reducible assumption) | assumption)
                        obtain ⟨ad186, e186, hx186_0⟩ := Kd.at_int (Kd.R_reads' HO_9.out).2.2 (ji36) p186 q186
                        cases e186
                        replace p186 := eq_true p186
                        replace q186 := eq_true q186
                        have p187 : 0 ≤ ((ji36) : Int) := of_decide_eq_true (by first | (with_reducible assumption) | assumption)
                        have q187 : (ji36) < (y177.length : Int) := of_decide_eq_true (by first | (with_reducible assumption) | assumption)
                        obtain ⟨ad187, e187, hx187_0⟩ := Kd.at_int (Kd.R_reads' HO_9.out).2.2 (ji36) p187 q187
                        obtain rfl : ad186 = ad187 := (by injection e187)
                        replace p187 := eq_true p187
                        replace q187 := eq_true q187
                        refine start_ (n := 18) (S := fun w' => w'.cell? (ad186.add ((ji36)).toNat) = some (.int .u32 (rd y177 (ji36))) ∧ w'.cell? (ad186.add ((ji36)).toNat) = some (.int .u32 (rd y177 (ji36)))) (ds := []) #[false, false, false, false, false, false, false, false, false, false, false, false, false, false, false, false, false, false] (by kernel_rfl) rfl rfl ⟨hx186_0, hx187_0⟩ (fun hHeld => ?_); refine with_tabW impl_divideDigits.tab15 impl_divideDigits.bits15 (fun HT_ HW_ => ?_)
                        generalize w41.drew = w43 at HO_8 HO_9 HO_10 HB hx186_0 hx187_0 hHeld ⊢
                        refine pure_ (i := 0) (N := some 93) (v := ?_) (a' := ?_) #[true, false, false, false, false, false, false, false, false, false, false, false, false, false, false, false, false, false] rfl rfl (any_of HT_.out (by kernel_rfl)) (fun _ _ _ h => h) (Or.inl ⟨by rfl, ?_⟩) ?_ ?_
                        rotate_left
                        ·intro w'
                         go_simp
                         with_reducible rfl
                        rotate_left
                        ·simp only [Act.put, List.setIfInBounds_toArray, List.set_cons_zero, List.set_cons_succ, i64_w, i32_w]
                         rfl
                        refine pure_ (i := 1) (N := some 94) (v := ?_) (a' := ?_) #[true, true, false, false, false, false, false, false, false, false, false, false, false, false, false, false, false, false] rfl rfl (any_of HT_.out (by kernel_rfl)) (fun _ _ _ h => h) (Or.inl ⟨by rfl, ?_⟩) ?_ ?_
                        rotate_left
                        ·intro w'
                         go_simp
                         with_reducible rfl
                        rotate_left
                        ·simp only [Act.put, List.setIfInBounds_toArray, List.set_cons_zero, List.set_cons_succ, i64_w, i32_w]
                         rfl
                        refine pure_ (i := 2) (N := some 95) (v := ?_) (a' := ?_) #[true, true, true, false, false, false, false, false, false, false, false, false, false, false, false, false, false, false] rfl rfl (any_of HT_.out (by kernel_rfl)) (fun _ _ _ h => h) (Or.inl ⟨by rfl, ?_⟩) ?_ ?_
                        rotate_left
                        ·intro w'
                         go_simp
                         with_reducible rfl
                        rotate_left
                        ·simp only [Act.put, List.setIfInBounds_toArray, List.set_cons_zero, List.set_cons_succ, i64_w, i32_w]
                         rfl
                        refine pure_ (i := 3) (N := some 96) (v := ?_) (a' := ?_) #[true, true, true, true, false, false, false, false, false, false, false, false, false, false, false, false, false, false] rfl rfl (any_of HT_.out (by kernel_rfl)) (fun _ _ _ h => h) (Or.inl ⟨by rfl, ?_⟩) ?_ ?_
                        rotate_left
                        ·intro w'
                         go_simp
                         with_reducible rfl
                        rotate_left
                        ·simp only [Act.put, List.setIfInBounds_toArray, List.set_cons_zero, List.set_cons_succ, i64_w, i32_w]
                         rfl
                        refine pure_ (i := 4) (N := some 97) (v := ?_) (a' := ?_) #[true, true, true, true, true, false, false, false, false, false, false, false, false, false, false, false, false, false] rfl rfl (any_of HT_.out (by kernel_rfl)) (fun _ _ _ h => h) (Or.inl ⟨by rfl, ?_⟩) ?_ ?_
                        rotate_left
                        ·intro w'
                         go_simp
                         with_reducible rfl
                        rotate_left
                        ·simp only [Act.put, List.setIfInBounds_toArray, List.set_cons_zero, List.set_cons_succ, i64_w, i32_w]
                         rfl
                        refine pure_ (i := 8) (N := some 101) (v := ?_) (a' := ?_) #[true, true, true, true, true, false, false, false, true, false, false, false, false, false, false, false, false, false] rfl rfl (any_of HT_.out (by kernel_rfl)) (fun _ _ _ h => h) (Or.inl ⟨by rfl, ?_⟩) ?_ ?_
                        rotate_left
                        ·intro w'
                         go_simp
                         with_reducible rfl
                        rotate_left
                        ·simp only [Act.put, List.setIfInBounds_toArray, List.set_cons_zero, List.set_cons_succ, i64_w, i32_w]
                         rfl
                        refine pure_ (i := 9) (N := some 102) (v := ?_) (a' := ?_) #[true, true, true, true, true, false, false, false, true, true, false, false, false, false, false, false, false, false] rfl rfl (any_of HT_.out (by kernel_rfl)) (fun _ _ _ h => h) (Or.inl ⟨by rfl, ?_⟩) ?_ ?_
                        rotate_left
                        ·intro w'
                         go_simp
                         with_reducible rfl
                        rotate_left
                        ·simp only [Act.put, List.setIfInBounds_toArray, List.set_cons_zero, List.set_cons_succ, i64_w, i32_w]
                         rfl
                        refine pure_ (i := 10) (N := some 103) (v := ?_) (a' := ?_) #[true, true, true, true, true, false, false, false, true, true, true, false, false, false, false, false, false, false] rfl rfl (any_of HT_.out (by kernel_rfl)) (fun _ _ _ h => h) (Or.inl ⟨by rfl, ?_⟩) ?_ ?_
                        rotate_left
                        ·intro w'
                         go_simp
                         with_reducible rfl
                        rotate_left
                        ·simp only [Act.put, List.setIfInBounds_toArray, List.set_cons_zero, List.set_cons_succ, i64_w, i32_w]
                         rfl
                        refine pure_ (i := 11) (N := some 104) (v := ?_) (a' := ?_) #[true, true, true, true, true, false, false, false, true, true, true, true, false, false, false, false, false, false] rfl rfl (any_of HT_.out (by kernel_rfl)) (fun _ _ _ h => h) (Or.inl ⟨by rfl, ?_⟩) ?_ ?_
                        rotate_left
                        ·intro w'
                         go_simp
                         with_reducible rfl
                        rotate_left
                        ·simp only [Act.put, List.setIfInBounds_toArray, List.set_cons_zero, List.set_cons_succ, i64_w, i32_w]
                         rfl
                        refine pure_ (i := 12) (N := some 105) (v := ?_) (a' := ?_) #[true, true, true, true, true, false, false, false, true, true, true, true, true, false, false, false, false, false] rfl rfl (any_of HT_.out (by kernel_rfl)) (fun _ _ _ h => h) (Or.inl ⟨by rfl, ?_⟩) ?_ ?_
                        rotate_left
                        ·intro w'
                         go_simp
                         with_reducible rfl
                        rotate_left
                        ·simp only [Act.put, List.setIfInBounds_toArray, List.set_cons_zero, List.set_cons_succ, i64_w, i32_w]
                         rfl
                        refine take_ (i := 5) (N := some 98) (v := ?_) (a' := ?_) #[true, true, true, true, true, true, false, false, true, true, true, true, true, false, false, false, false, false] rfl rfl (take_ofW HT_.out HW_.out (by kernel_rfl)) (fun _ _ _ h => h) (Or.inl ⟨by rfl, ?_⟩) hHeld ?_ ?_
                        rotate_left
                        ·rintro w' ⟨s0, s1⟩
                         go_simp
                         with_reducible rfl
                        rotate_left
                        ·simp only [Act.put, List.setIfInBounds_toArray, List.set_cons_zero, List.set_cons_succ, i64_w, i32_w]
                         rfl
                        refine pure_ (i := 6) (N := some 99) (v := ?_) (a' := ?_) #[true, true, true, true, true, true, true, false, true, true, true, true, true, false, false, false, false, false] rfl rfl (any_of HT_.out (by kernel_rfl)) (fun _ _ _ h => h) (Or.inl ⟨by rfl, ?_⟩) ?_ ?_
                        rotate_left
                        ·intro w'
                         go_simp
                         with_reducible rfl
                        rotate_left
                        ·simp only [Act.put, List.setIfInBounds_toArray, List.set_cons_zero, List.set_cons_succ, i64_w, i32_w]
                         rfl
                        refine pure_ (i := 7) (N := some 100) (v := ?_) (a' := ?_) #[true, true, true, true, true, true, true, true, true, true, true, true, true, false, false, false, false, false] rfl rfl (any_of HT_.out (by kernel_rfl)) (fun _ _ _ h => h) (Or.inl ⟨by rfl, ?_⟩) ?_ ?_
                        rotate_left
                        ·intro w'
                         go_simp
                         with_reducible rfl
                        rotate_left
                        ·simp only [Act.put, List.setIfInBounds_toArray, List.set_cons_zero, List.set_cons_succ, i64_w, i32_w]
                         rfl
                        refine pure_ (i := 16) (N := some 14) (v := ?_) (a' := ?_) #[true, true, true, true, true, true, true, true, true, true, true, true, true, false, false, false, true, false] rfl rfl (any_of HT_.out (by kernel_rfl)) (fun _ _ _ h => h) (Or.inl ⟨by rfl, ?_⟩) ?_ ?_
                        rotate_left
                        ·intro w'
                         go_simp
                         with_reducible rfl
                        rotate_left
                        ·simp only [Act.put, List.setIfInBounds_toArray, List.set_cons_zero, List.set_cons_succ, i64_w, i32_w]
                         rfl
                        refine take_ (i := 13) (N := some 106) (v := ?_) (a' := ?_) #[true, true, true, true, true, true, true, true, true, true, true, true, true, true, false, false, true, false] rfl rfl (take_ofW HT_.out HW_.out (by kernel_rfl)) (fun _ _ _ h => h) (Or.inl ⟨by rfl, ?_⟩) hHeld ?_ ?_
                        rotate_left
                        ·rintro w' ⟨s0, s1⟩
                         go_simp
                         with_reducible rfl
                        rotate_left
                        ·simp only [Act.put, List.setIfInBounds_toArray, List.set_cons_zero, List.set_cons_succ, i64_w, i32_w]
                         rfl
                        refine pure_ (i := 14) (N := some 107) (v := ?_) (a' := ?_) #[true, true, true, true, true, true, true, true, true, true, true, true, true, true, true, false, true, false] rfl rfl (any_of HT_.out (by kernel_rfl)) (fun _ _ _ h => h) (Or.inl ⟨by rfl, ?_⟩) ?_ ?_
                        rotate_left
                        ·intro w'
                         go_simp
                         with_reducible rfl
                        rotate_left
                        ·simp only [Act.put, List.setIfInBounds_toArray, List.set_cons_zero, List.set_cons_succ, i64_w, i32_w]
                         rfl
                        refine pure_ (i := 15) (N := some 108) (v := ?_) (a' := ?_) #[true, true, true, true, true, true, true, true, true, true, true, true, true, true, true, true, true, false] rfl rfl (any_of HT_.out (by kernel_rfl)) (fun _ _ _ h => h) (Or.inl ⟨by rfl, ?_⟩) ?_ ?_
                        rotate_left
                        ·intro w'
                         go_simp
                         with_reducible rfl
                        rotate_left
                        ·simp only [Act.put, List.setIfInBounds_toArray, List.set_cons_zero, List.set_cons_succ, i64_w, i32_w]
                         rfl
                        refine pure_ (i := 17) (N := some 15) (v := ?_) (a' := ?_) #[true, true, true, true, true, true, true, true, true, true, true, true, true, true, true, true, true, true] rfl rfl (any_of HT_.out (by kernel_rfl)) (fun _ _ _ h => h) (Or.inl ⟨by rfl, ?_⟩) ?_ ?_
                        rotate_left
                        ·intro w'
                         go_simp
                         with_reducible rfl
                        rotate_left
                        ·simp only [Act.put, List.setIfInBounds_toArray, List.set_cons_zero, List.set_cons_succ, i64_w, i32_w]
                         rfl
                        refine done_ (done_of HT_.out (by kernel_rfl)) ?_
                        go_upto_if 110 with (fail)
                        go_cut [16] (fun v16 wc => ∃ (kq : Nat) (x16_39 : Int), v16 = .int .u64 x16_39 ∧ Aside0 (impl_divideDigits.j3 kq (l1.length : Int) x7_1 x8_3 y177 x10_3 x11_16 x12_3 (IntKind.u64.wrap (Int.tdiv (Go.bits .or .u64 (IntKind.u64.wrap ((IntKind.u64.wrap (rd x8_3 (ji30))) * 4294967296)) (IntKind.u64.wrap (rd x8_3 (ji33)))) (IntKind.u64.wrap (rd y177 (ji36))))) (Int.tmod (Go.bits .or .u64 (IntKind.u64.wrap ((IntKind.u64.wrap (rd x8_3 (ji30))) * 4294967296)) (IntKind.u64.wrap (rd x8_3 (ji33)))) (IntKind.u64.wrap (rd y177 (ji36)))) x16_39 = some (r1, r2)) ∧ Aside0 (kq ≤ k3) ∧ Aside0 (Kd.R (Kd.int .u32) 85 wc w.heap.size (fun k_ => some k_ ≠ ((.slice (some ad186) y177.length co21) : Value).ownBlock ∧ some k_ ≠ (v181 : Value).ownBlock) (.slice (some ad184) x8_3.length co42) x8_3) ∧ Aside0 (Kd.R (Kd.int .u32) 85 wc w.heap.size (fun k_ => some k_ ≠ ((.slice (some ad184) x8_3.length co42) : Value).ownBlock ∧ some k_ ≠ (v181 : Value).ownBlock) (.slice (some ad186) y177.length co21) y177) ∧ Aside0 (Kd.R (Kd.int .u32) 85 wc w.heap.size (fun k_ => some k_ ≠ ((.slice (some ad184) x8_3.length co42) : Value).ownBlock ∧ some k_ ≠ ((.slice (some ad186) y177.length co21) : Value).ownBlock) v181 x10_3) ∧ Aside0 (Below w.heap.size w wc))
                        case first =>
                         have H := HC40.out
                         clear HC40
                         by_cases c44 : (l1.length : Int) > 1
                         ·rw [if_pos c44] at H
                          have c44b0 : decide (1 < (l1.length : Int)) = true := decide_eq_true c44
                          have c44b1 : decide (1 < l1.length) = true := decide_eq_true (by omega)
                          clear c44
                          (first | rw [c44b0] | (simp only [i64_w, i32_w]; rw [c44b0]) | skip)
                          obtain ⟨ji45, hji45⟩ : ∃ j_ : Int, (wrap64 ((ji30) - 2)) = j_ := ⟨_, rfl⟩
                          replace H : (if 0 ≤ (ji45) then (if (ji45) < (x8_3.length : Int) then (impl_divideDigits.j3 k3 (l1.length : Int) x7_1 x8_3 y177 x10_3 x11_16 x12_3 (IntKind.u64.wrap (Int.tdiv (Go.bits .or .u64 (IntKind.u64.wrap ((IntKind.u64.wrap (rd x8_3 (ji30))) * 4294967296)) (IntKind.u64.wrap (rd x8_3 (ji33)))) (IntKind.u64.wrap (rd y177 (ji36))))) (Int.tmod (Go.bits .or .u64 (IntKind.u64.wrap ((IntKind.u64.wrap (rd x8_3 (ji30))) * 4294967296)) (IntKind.u64.wrap (rd x8_3 (ji33)))) (IntKind.u64.wrap (rd y177 (ji36)))) (IntKind.u64.wrap (rd x8_3 (ji45)))) else (none)) else (none)) = some (r1, r2) := by first | (rw [hji45] at H; exact H) | (simp only [hji45] at H ⊢; exact H)
                          have hji45w : (IntKind.i64.wrap ((ji30) - 2)) = ji45 := (i64_w _).trans hji45
                          by_cases c46 : 0 ≤ (ji45)
                          ·rw [if_pos c46] at H
                           have c46b0 : decide (0 ≤ (ji45)) = true := decide_eq_true c46
                           clear c46
                           by_cases c47 : (ji45) < (x8_3.length : Int)
                           ·rw [if_pos c47] at H
                            have c47b0 : decide ((ji45) < (x8_3.length : Int)) = true := decide_eq_true c47
                            clear c47
                            as_aux_lemma =>
                             have H' := Aside0.mk H
                             clear H
                             have p188 : 0 ≤ ((ji45) : Int) := of_decide_eq_true (by first | (with_reducible assumption) | assumption)
                             have q188 : (ji45) < (x8_3.length : Int) := of_decide_eq_true (by first | (with_reducible assumption) | assumption)
                             obtain ⟨ad188, e188, hx188_0⟩ := Kd.at_int (Kd.R_reads' HO_8.out).2.2 (ji45) p188 q188
                             obtain rfl : ad184 = ad188 := (by injection e188)
                             replace p188 := eq_true p188
                             replace q188 := eq_true q188
                             go_wp2
                             go_meet
                             case rel => exact ⟨_, (IntKind.u64.wrap (rd x8_3 (ji45))), (by first | rfl | (simp; done) | (simp only [← hji45] <;> (first | rfl | simp)) | (simp [*]; done)), H', ⟨by have := HK1.out; have := HJ16.out; have := HK3.out; first | omega | exact Nat.le_refl _⟩, ⟨by (with_reducible repeat (first | apply Kd.R_alloc | apply Kd.R_drewN | apply Kd.R_drew)); exact HO_8.out⟩, ⟨by (with_reducible repeat (first | apply Kd.R_alloc | apply Kd.R_drewN | apply Kd.R_drew)); exact HO_9.out⟩, ⟨by (with_reducible repeat (first | apply Kd.R_alloc | apply Kd.R_drewN | apply Kd.R_drew)); exact HO_10.out⟩, ⟨by repeat (first | (with_reducible first | exact HB.out | apply below_alloc | apply pw_below_drewN | apply below_drew1) | exact HB.out)⟩⟩
                           ·rw [if_neg c47] at H
                            exact absurd H (by simp)
                          ·rw [if_neg c46] at H
                           exact absurd H (by simp)
                         ·rw [if_neg c44] at H
                          have c44b0 : decide (1 < (l1.length : Int)) = false := decide_eq_false c44
                          have c44b1 : decide (1 < l1.length) = false := decide_eq_false (by omega)
                          clear c44
                          (first | rw [c44b0] | (simp only [i64_w, i32_w]; rw [c44b0]) | skip)
                          as_aux_lemma =>
                           have H' := Aside0.mk H
                           clear H
                           go_wp2
                           go_meet
                           case rel => exact ⟨_, (0), (by first | rfl | (simp; done) | (simp [*]; done)), H', ⟨by have := HK1.out; have := HJ16.out; have := HK3.out; first | omega | exact Nat.le_refl _⟩, ⟨by (with_reducible repeat (first | apply Kd.R_alloc | apply Kd.R_drewN | apply Kd.R_drew)); exact HO_8.out⟩, ⟨by (with_reducible repeat (first | apply Kd.R_alloc | apply Kd.R_drewN | apply Kd.R_drew)); exact HO_9.out⟩, ⟨by (with_reducible repeat (first | apply Kd.R_alloc | apply Kd.R_drewN | apply Kd.R_drew)); exact HO_10.out⟩, ⟨by repeat (first | (with_reducible first | exact HB.out | apply below_alloc | apply pw_below_drewN | apply below_drew1) | exact HB.out)⟩⟩
                        case rest =>
                         clear HC40
                         try clear c1
                         try clear p1
                         try clear q1
                         try clear hx1
                         try clear c2
                         try clear p2
                         try clear q2
                         try clear c3
                         try clear c3b0
                         try clear c3b1
                         try clear c4
                         try clear c5
                         try clear c5b0
                         try clear c6
                         try clear c6b0
                         try clear p6
                         try clear c7
                         try clear c7b0
                         try clear c7b1
                         try clear c9
                         try clear c9b0
                         try clear c12
                         try clear c12b0
                         try clear c12b1
                         try clear c13
                         try clear c13b0
                         try clear c13b1
                         try clear c15
                         try clear c15b0
                         try clear c15b1
                         try clear c16
                         try clear c16b0
                         try clear c16b1
                         try clear p17
                         try clear q17
                         try clear hx17
                         try clear p18
                         try clear q18
                         try clear hx18
                         try clear q22
                         try clear c25
                         try clear c25b0
                         try clear c25b1
                         try clear c27
                         try clear c27b0
                         try clear c28
                         try clear c28b0
                         try clear c29
                         try clear c29b0
                         try clear c31
                         try clear c31b0
                         try clear c32
                         try clear c32b0
                         try clear c34
                         try clear c34b0
                         try clear c35
                         try clear c35b0
                         try clear c37
                         try clear c37b0
                         try clear c38
                         try clear c38b0
                         try clear c39
                         try clear c39b0
                         try clear c39b1
                         try clear c44
                         try clear c44b0
                         try clear c44b1
                         try clear c46
                         try clear c46b0
                         try clear c47
                         try clear c47b0
                         try clear hx170_0
                         try clear hx183_0
                         try clear hx184_0
                         try clear hx185_0
                         try clear hx186_0
                         try clear hx187_0
                         try clear hx188_0
                         try clear p1
                         try clear p17
                         try clear p170
                         try clear p18
                         try clear p183
                         try clear p184
                         try clear p185
                         try clear p186
                         try clear p187
                         try clear p188
                         try clear p2
                         try clear p6
                         try clear q1
                         try clear q17
                         try clear q170
                         try clear q18
                         try clear q183
                         try clear q184
                         try clear q185
                         try clear q186
                         try clear q187
                         try clear q188
                         try clear q2
                         try clear q22
                         obtain ⟨kq, x16_39, rfl, HA, HJ39, HO_8, HO_9, HO_10, HB⟩ := hcut
                         cases kq with
                         | zero => exact absurd HA.out (by simp [impl_divideDigits.j3])
                         | succ kj39 =>
                          have H := HA.out
                          clear HA
                          simp only [impl_divideDigits.j3] at H
                          have HC48 := Aside0.mk H
                          clear H
                          go_upto_block 4 with (fail)
                          go_cut [14] (fun v14 wc => ∃ (kq : Nat) (x14_47 : Int), v14 = .int .u64 x14_47 ∧ Aside0 (impl_divideDigits.j5 kq (l1.length : Int) x7_1 x8_3 y177 x10_3 x11_16 x12_3 x14_47 = some (r1, r2)) ∧ Aside0 (kq ≤ kj39) ∧ Aside0 (Kd.R (Kd.int .u32) 85 wc w.heap.size (fun k_ => some k_ ≠ ((.slice (some ad186) y177.length co21) : Value).ownBlock ∧ some k_ ≠ (v181 : Value).ownBlock) (.slice (some ad184) x8_3.length co42) x8_3) ∧ Aside0 (Kd.R (Kd.int .u32) 85 wc w.heap.size (fun k_ => some k_ ≠ ((.slice (some ad184) x8_3.length co42) : Value).ownBlock ∧ some k_ ≠ (v181 : Value).ownBlock) (.slice (some ad186) y177.length co21) y177) ∧ Aside0 (Kd.R (Kd.int .u32) 85 wc w.heap.size (fun k_ => some k_ ≠ ((.slice (some ad184) x8_3.length co42) : Value).ownBlock ∧ some k_ ≠ ((.slice (some ad186) y177.length co21) : Value).ownBlock) v181 x10_3) ∧ Aside0 (Below w.heap.size w wc))
                          case first =>
                           have H := HC48.out
                           clear HC48
                           have H' := Aside0.mk H
                           clear H
                           go_wp2
                           go_loopg [14, 15] kj39 (fun kq v14 v15 w' => ∃ (x14_5 : Int) (x15_5 : Int), v14 = .int .u64 x14_5 ∧ v15 = .int .u64 x15_5 ∧ Aside0 (impl_divideDigits.l2 kq (l1.length : Int) x7_1 x8_3 y177 x10_3 x11_16 x12_3 x14_5 x15_5 x16_39 = some (r1, r2)) ∧ Aside0 (kq ≤ kj39) ∧ Aside0 (Kd.R (Kd.int .u32) 85 w' w.heap.size (fun k_ => some k_ ≠ ((.slice (some ad186) y177.length co21) : Value).ownBlock ∧ some k_ ≠ (v181 : Value).ownBlock) (.slice (some ad184) x8_3.length co42) x8_3) ∧ Aside0 (Kd.R (Kd.int .u32) 85 w' w.heap.size (fun k_ => some k_ ≠ ((.slice (some ad184) x8_3.length co42) : Value).ownBlock ∧ some k_ ≠ (v181 : Value).ownBlock) (.slice (some ad186) y177.length co21) y177) ∧ Aside0 (Kd.R (Kd.int .u32) 85 w' w.heap.size (fun k_ => some k_ ≠ ((.slice (some ad184) x8_3.length co42) : Value).ownBlock ∧ some k_ ≠ ((.slice (some ad186) y177.length co21) : Value).ownBlock) v181 x10_3) ∧ Aside0 (Below w.heap.size w w'))
                           case atStart => exact ⟨((IntKind.u64.wrap (Int.tdiv (Go.bits .or .u64 (IntKind.u64.wrap ((IntKind.u64.wrap (rd x8_3 (ji30))) * 4294967296)) (IntKind.u64.wrap (rd x8_3 (ji33)))) (IntKind.u64.wrap (rd y177 (ji36)))))), ((Int.tmod (Go.bits .or .u64 (IntKind.u64.wrap ((IntKind.u64.wrap (rd x8_3 (ji30))) * 4294967296)) (IntKind.u64.wrap (rd x8_3 (ji33)))) (IntKind.u64.wrap (rd y177 (ji36))))), (by first | rfl | (simp; done) | (simp only [← hji30, ← hji33, ← hji36] <;> (first | rfl | simp)) | (simp [*]; done)), (by first | rfl | (simp; done) | (simp only [← hji30, ← hji33, ← hji36] <;> (first | rfl | simp)) | (simp [*]; done)), H', ⟨Nat.le_refl _⟩, ⟨by (with_reducible repeat (first | apply Kd.R_alloc | apply Kd.R_drewN | apply Kd.R_drew)); exact HO_8.out⟩, ⟨by (with_reducible repeat (first | apply Kd.R_alloc | apply Kd.R_drewN | apply Kd.R_drew)); exact HO_9.out⟩, ⟨by (with_reducible repeat (first | apply Kd.R_alloc | apply Kd.R_drewN | apply Kd.R_drew)); exact HO_10.out⟩, ⟨by repeat (first | (with_reducible first | exact HB.out | apply below_alloc | apply pw_below_drewN | apply below_drew1) | exact HB.out)⟩⟩
                           case round =>
                            clear H'
                            try clear c1
                            try clear p1
                            try clear q1
                            try clear hx1
                            try clear c2
                            try clear p2
                            try clear q2
                            try clear c3
                            try clear c3b0
                            try clear c3b1
                            try clear c4
                            try clear c5
                            try clear c5b0
                            try clear c6
                            try clear c6b0
                            try clear p6
                            try clear c7
                            try clear c7b0
                            try clear c7b1
                            try clear c9
                            try clear c9b0
                            try clear c12
                            try clear c12b0
                            try clear c12b1
                            try clear c13
                            try clear c13b0
                            try clear c13b1
                            try clear c15
                            try clear c15b0
                            try clear c15b1
                            try clear c16
                            try clear c16b0
                            try clear c16b1
                            try clear p17
                            try clear q17
                            try clear hx17
                            try clear p18
                            try clear q18
                            try clear hx18
                            try clear q22
                            try clear c25
                            try clear c25b0
                            try clear c25b1
                            try clear c27
                            try clear c27b0
                            try clear c28
                            try clear c28b0
                            try clear c29
                            try clear c29b0
                            try clear c31
                            try clear c31b0
                            try clear c32
                            try clear c32b0
                            try clear c34
                            try clear c34b0
                            try clear c35
                            try clear c35b0
                            try clear c37
                            try clear c37b0
                            try clear c38
                            try clear c38b0
                            try clear c39
                            try clear c39b0
                            try clear c39b1
                            try clear c44
                            try clear c44b0
                            try clear c44b1
                            try clear c46
                            try clear c46b0
                            try clear c47
                            try clear c47b0
                            try clear hx170_0
                            try clear hx183_0
                            try clear hx184_0
                            try clear hx185_0
                            try clear hx186_0
                            try clear hx187_0
                            try clear hx188_0
                            try clear p1
                            try clear p17
                            try clear p170
                            try clear p18
                            try clear p183
                            try clear p184
                            try clear p185
                            try clear p186
                            try clear p187
                            try clear p188
                            try clear p2
                            try clear p6
                            try clear q1
                            try clear q17
                            try clear q170
                            try clear q18
                            try clear q183
                            try clear q184
                            try clear q185
                            try clear q186
                            try clear q187
                            try clear q188
                            try clear q2
                            try clear q22
                            obtain ⟨x14_5, x15_5, rfl, rfl, HA, HK5, HO_8, HO_9, HO_10, HB⟩ := hrel
                            cases gk with
                            | zero => exact absurd HA.out (by simp [impl_divideDigits.l2])
                            | succ k5 =>
                             have H := HA.out
                             clear HA
                             simp only [impl_divideDigits.l2] at H
                             by_cases c49 : x15_5 < 4294967296
                             ·rw [if_pos c49] at H
                              have c49b0 : decide (x15_5 < 4294967296) = true := decide_eq_true c49
                              clear c49
                              (first | rw [c49b0] | (simp only [i64_w, i32_w]; rw [c49b0]) | skip)
                              by_cases c50 : x14_5 ≥ 4294967296
                              ·rw [if_pos c50] at H
                               have c50b0 : decide (4294967296 ≤ x14_5) = true := decide_eq_true c50
                               clear c50
                               obtain ⟨ji51, hji51⟩ : ∃ j_ : Int, (wrap64 ((l1.length : Int) - 1)) = j_ := ⟨_, rfl⟩
                               obtain rfl : ji51 = ji36 := hji51.symm.trans hji36
                               replace H : (if 0 ≤ (ji51) then (if (ji51) < (y177.length : Int) then (impl_divideDigits.l2 k5 (l1.length : Int) x7_1 x8_3 y177 x10_3 x11_16 x12_3 (IntKind.u64.wrap (x14_5 - 1)) (IntKind.u64.wrap (x15_5 + (IntKind.u64.wrap (rd y177 (ji51))))) x16_39) else (none)) else (none)) = some (r1, r2) := by first | (rw [hji51] at H; exact H) | (simp only [hji51] at H ⊢; exact H)
                               have hji51w : (IntKind.i64.wrap ((l1.length : Int) - 1)) = ji51 := (i64_w _).trans hji51
                               by_cases c52 : 0 ≤ (ji51)
                               ·rw [if_pos c52] at H
                                have c52b0 : decide (0 ≤ (ji51)) = true := decide_eq_true c52
                                clear c52
                                by_cases c53 : (ji51) < (y177.length : Int)
                                ·rw [if_pos c53] at H
                                 have c53b0 : decide ((ji51) < (y177.length : Int)) = true := decide_eq_true c53
                                 clear c53
                                 as_aux_lemma =>
                                  have H' := Aside0.mk H
                                  clear H
                                  try go_wp2
                                  have n0_ := Aside0.mk (Kd.R_drew HO_8.out)
                                  have n1_ := Aside0.mk (Kd.R_drew HO_9.out)
                                  have n2_ := Aside0.mk (Kd.R_drew HO_10.out)
                                  have n3_ := Aside0.mk (below_drew1 HB.out)
                                  clear HO_8
                                  clear HO_9
                                  clear HO_10
                                  clear HB
                                  have HO_8 := n0_
                                  have HO_9 := n1_
                                  have HO_10 := n2_
                                  have HB := n3_
                                  clear n0_ n1_ n2_ n3_
                                  have p189 : 0 ≤ ((ji51) : Int) := of_decide_eq_true (by first | (with_reducible assumption) | assumption)
                                  have q189 : (ji51) < (y177.length : Int) := of_decide_eq_true (by first | (with_reducible assumption) | assumption)
                                  obtain ⟨ad189, e189, hx189_0⟩ := Kd.at_int (Kd.R_reads' HO_9.out).2.2 (ji51) p189 q189
                                  obtain rfl : ad186 = ad189 := (by injection e189)
                                  replace p189 := eq_true p189
                                  replace q189 := eq_true q189
                                  refine start_ (n := 12) (S := fun w' => w'.cell? (ad186.add ((ji51)).toNat) = some (.int .u32 (rd y177 (ji51)))) (ds := []) #[false, false, false, false, false, false, false, false, false, false, false, false] (by kernel_rfl) rfl rfl (hx189_0) (fun hHeld => ?_); refine with_tabW impl_divideDigits.tab20 impl_divideDigits.bits20 (fun HT_ HW_ => ?_)
                                  generalize wr.drew = w54 at HO_8 HO_9 HO_10 HB hx189_0 hHeld ⊢
                                  refine pure_ (i := 0) (N := some 135) (v := ?_) (a' := ?_) #[true, false, false, false, false, false, false, false, false, false, false, false] rfl rfl (any_of HT_.out (by kernel_rfl)) (fun _ _ _ h => h) (Or.inl ⟨by rfl, ?_⟩) ?_ ?_
                                  rotate_left
                                  ·intro w'
                                   go_simp
                                   with_reducible rfl
                                  rotate_left
                                  ·simp only [Act.put, List.setIfInBounds_toArray, List.set_cons_zero, List.set_cons_succ, i64_w, i32_w]
                                   rfl
                                  refine pure_ (i := 1) (N := some 136) (v := ?_) (a' := ?_) #[true, true, false, false, false, false, false, false, false, false, false, false] rfl rfl (any_of HT_.out (by kernel_rfl)) (fun _ _ _ h => h) (Or.inl ⟨by rfl, ?_⟩) ?_ ?_
                                  rotate_left
                                  ·intro w'
                                   go_simp
                                   with_reducible rfl
                                  rotate_left
                                  ·simp only [Act.put, List.setIfInBounds_toArray, List.set_cons_zero, List.set_cons_succ, i64_w, i32_w]
                                   rfl
                                  refine pure_ (i := 2) (N := some 137) (v := ?_) (a' := ?_) #[true, true, true, false, false, false, false, false, false, false, false, false] rfl rfl (any_of HT_.out (by kernel_rfl)) (fun _ _ _ h => h) (Or.inl ⟨by rfl, ?_⟩) ?_ ?_
                                  rotate_left
                                  ·intro w'
                                   go_simp
                                   with_reducible rfl
                                  rotate_left
                                  ·simp only [Act.put, List.setIfInBounds_toArray, List.set_cons_zero, List.set_cons_succ, i64_w, i32_w]
                                   rfl
                                  refine pure_ (i := 3) (N := some 138) (v := ?_) (a' := ?_) #[true, true, true, true, false, false, false, false, false, false, false, false] rfl rfl (any_of HT_.out (by kernel_rfl)) (fun _ _ _ h => h) (Or.inl ⟨by rfl, ?_⟩) ?_ ?_
                                  rotate_left
                                  ·intro w'
                                   go_simp
                                   with_reducible rfl
                                  rotate_left
                                  ·simp only [Act.put, List.setIfInBounds_toArray, List.set_cons_zero, List.set_cons_succ, i64_w, i32_w]
                                   rfl
                                  refine pure_ (i := 4) (N := some 139) (v := ?_) (a' := ?_) #[true, true, true, true, true, false, false, false, false, false, false, false] rfl rfl (any_of HT_.out (by kernel_rfl)) (fun _ _ _ h => h) (Or.inl ⟨by rfl, ?_⟩) ?_ ?_
                                  rotate_left
                                  ·intro w'
                                   go_simp
                                   with_reducible rfl
                                  rotate_left
                                  ·simp only [Act.put, List.setIfInBounds_toArray, List.set_cons_zero, List.set_cons_succ, i64_w, i32_w]
                                   rfl
                                  refine pure_ (i := 5) (N := some 140) (v := ?_) (a' := ?_) #[true, true, true, true, true, true, false, false, false, false, false, false] rfl rfl (any_of HT_.out (by kernel_rfl)) (fun _ _ _ h => h) (Or.inl ⟨by rfl, ?_⟩) ?_ ?_
                                  rotate_left
                                  ·intro w'
                                   go_simp
                                   with_reducible rfl
                                  rotate_left
                                  ·simp only [Act.put, List.setIfInBounds_toArray, List.set_cons_zero, List.set_cons_succ, i64_w, i32_w]
                                   rfl
                                  refine pure_ (i := 6) (N := some 141) (v := ?_) (a' := ?_) #[true, true, true, true, true, true, true, false, false, false, false, false] rfl rfl (any_of HT_.out (by kernel_rfl)) (fun _ _ _ h => h) (Or.inl ⟨by rfl, ?_⟩) ?_ ?_
                                  rotate_left
                                  ·intro w'
                                   go_simp
                                   with_reducible rfl
                                  rotate_left
                                  ·simp only [Act.put, List.setIfInBounds_toArray, List.set_cons_zero, List.set_cons_succ, i64_w, i32_w]
                                   rfl
                                  refine pure_ (i := 10) (N := some 14) (v := ?_) (a' := ?_) #[true, true, true, true, true, true, true, false, false, false, true, false] rfl rfl (any_of HT_.out (by kernel_rfl)) (fun _ _ _ h => h) (Or.inl ⟨by rfl, ?_⟩) ?_ ?_
                                  rotate_left
                                  ·intro w'
                                   go_simp
                                   with_reducible rfl
                                  rotate_left
                                  ·simp only [Act.put, List.setIfInBounds_toArray, List.set_cons_zero, List.set_cons_succ, i64_w, i32_w]
                                   rfl
                                  refine take_ (i := 7) (N := some 142) (v := ?_) (a' := ?_) #[true, true, true, true, true, true, true, true, false, false, true, false] rfl rfl (take_ofW HT_.out HW_.out (by kernel_rfl)) (fun _ _ _ h => h) (Or.inl ⟨by rfl, ?_⟩) hHeld ?_ ?_
                                  rotate_left
                                  ·intro w' s0
                                   go_simp
                                   with_reducible rfl
                                  rotate_left
                                  ·simp only [Act.put, List.setIfInBounds_toArray, List.set_cons_zero, List.set_cons_succ, i64_w, i32_w]
                                   rfl
                                  refine pure_ (i := 8) (N := some 143) (v := ?_) (a' := ?_) #[true, true, true, true, true, true, true, true, true, false, true, false] rfl rfl (any_of HT_.out (by kernel_rfl)) (fun _ _ _ h => h) (Or.inl ⟨by rfl, ?_⟩) ?_ ?_
                                  rotate_left
                                  ·intro w'
                                   go_simp
                                   with_reducible rfl
                                  rotate_left
                                  ·simp only [Act.put, List.setIfInBounds_toArray, List.set_cons_zero, List.set_cons_succ, i64_w, i32_w]
                                   rfl
                                  refine pure_ (i := 9) (N := some 144) (v := ?_) (a' := ?_) #[true, true, true, true, true, true, true, true, true, true, true, false] rfl rfl (any_of HT_.out (by kernel_rfl)) (fun _ _ _ h => h) (Or.inl ⟨by rfl, ?_⟩) ?_ ?_
                                  rotate_left
                                  ·intro w'
                                   go_simp
                                   with_reducible rfl
                                  rotate_left
                                  ·simp only [Act.put, List.setIfInBounds_toArray, List.set_cons_zero, List.set_cons_succ, i64_w, i32_w]
                                   rfl
                                  refine pure_ (i := 11) (N := some 15) (v := ?_) (a' := ?_) #[true, true, true, true, true, true, true, true, true, true, true, true] rfl rfl (any_of HT_.out (by kernel_rfl)) (fun _ _ _ h => h) (Or.inl ⟨by rfl, ?_⟩) ?_ ?_
                                  rotate_left
                                  ·intro w'
                                   go_simp
                                   with_reducible rfl
                                  rotate_left
                                  ·simp only [Act.put, List.setIfInBounds_toArray, List.set_cons_zero, List.set_cons_succ, i64_w, i32_w]
                                   rfl
                                  refine done_ (done_of HT_.out (by kernel_rfl)) ?_
                                  try go_wp2
                                  go_roundg k5
                                  case measure => have := HK1.out; have := HJ16.out; have := HK3.out; have := HJ39.out; have := HK5.out; omega
                                  case rel => exact ⟨(IntKind.u64.wrap (x14_5 - 1)), (IntKind.u64.wrap (x15_5 + (IntKind.u64.wrap (rd y177 (ji51))))), (by first | rfl | (simp; done) | (simp [*]; done)), (by first | rfl | (simp; done) | (simp only [← hji51] <;> (first | rfl | simp)) | (simp [*]; done)), H', ⟨by have := HK1.out; have := HJ16.out; have := HK3.out; have := HJ39.out; have := HK5.out; omega⟩, ⟨by (with_reducible repeat (first | apply Kd.R_alloc | apply Kd.R_drewN | apply Kd.R_drew)); exact HO_8.out⟩, ⟨by (with_reducible repeat (first | apply Kd.R_alloc | apply Kd.R_drewN | apply Kd.R_drew)); exact HO_9.out⟩, ⟨by (with_reducible repeat (first | apply Kd.R_alloc | apply Kd.R_drewN | apply Kd.R_drew)); exact HO_10.out⟩, ⟨by repeat (first | (with_reducible first | exact HB.out | apply below_alloc | apply pw_below_drewN | apply below_drew1) | exact HB.out)⟩⟩
                                ·rw [if_neg c53] at H
                                 exact absurd H (by simp)
                               ·rw [if_neg c52] at H
                                exact absurd H (by simp)
                              ·rw [if_neg c50] at H
                               have c50b0 : decide (4294967296 ≤ x14_5) = false := decide_eq_false c50
                               clear c50
                               by_cases c55 : (IntKind.u64.wrap (x14_5 * x11_16)) > (Go.bits .or .u64 (IntKind.u64.wrap (x15_5 * 4294967296)) x16_39)
                               ·rw [if_pos c55] at H
                                have c55b0 : decide ((Go.bits .or .u64 (IntKind.u64.wrap (x15_5 * 4294967296)) x16_39) < (IntKind.u64.wrap (x14_5 * x11_16))) = true := decide_eq_true c55
                                clear c55
                                obtain ⟨ji56, hji56⟩ : ∃ j_ : Int, (wrap64 ((l1.length : Int) - 1)) = j_ := ⟨_, rfl⟩
                                obtain rfl : ji56 = ji36 := hji56.symm.trans hji36
                                replace H : (if 0 ≤ (ji56) then (if (ji56) < (y177.length : Int) then (impl_divideDigits.l2 k5 (l1.length : Int) x7_1 x8_3 y177 x10_3 x11_16 x12_3 (IntKind.u64.wrap (x14_5 - 1)) (IntKind.u64.wrap (x15_5 + (IntKind.u64.wrap (rd y177 (ji56))))) x16_39) else (none)) else (none)) = some (r1, r2) := by first | (rw [hji56] at H; exact H) | (simp only [hji56] at H ⊢; exact H)
                                have hji56w : (IntKind.i64.wrap ((l1.length : Int) - 1)) = ji56 := (i64_w _).trans hji56
                                by_cases c57 : 0 ≤ (ji56)
                                ·rw [if_pos c57] at H
                                 have c57b0 : decide (0 ≤ (ji56)) = true := decide_eq_true c57
                                 clear c57
                                 by_cases c58 : (ji56) < (y177.length : Int)
                                 ·rw [if_pos c58] at H
                                  have c58b0 : decide ((ji56) < (y177.length : Int)) = true := decide_eq_true c58
                                  clear c58
                                  as_aux_lemma =>
                                   have H' := Aside0.mk H
                                   clear H
                                   try go_wp2
                                   have n0_ := Aside0.mk (Kd.R_drew HO_8.out)
                                   have n1_ := Aside0.mk (Kd.R_drew HO_9.out)
                                   have n2_ := Aside0.mk (Kd.R_drew HO_10.out)
                                   have n3_ := Aside0.mk (below_drew1 HB.out)
                                   clear HO_8
                                   clear HO_9
                                   clear HO_10
                                   clear HB
                                   have HO_8 := n0_
                                   have HO_9 := n1_
                                   have HO_10 := n2_
                                   have HB := n3_
                                   clear n0_ n1_ n2_ n3_
                                   have p190 : 0 ≤ ((ji56) : Int) := of_decide_eq_true (by first | (with_reducible assumption) | assumption)
                                   have q190 : (ji56) < (y177.length : Int) := of_decide_eq_true (by first | (with_reducible assumption) | assumption)
                                   obtain ⟨ad190, e190, hx190_0⟩ := Kd.at_int (Kd.R_reads' HO_9.out).2.2 (ji56) p190 q190
                                   obtain rfl : ad186 = ad190 := (by injection e190)
                                   replace p190 := eq_true p190
                                   replace q190 := eq_true q190
                                   refine start_ (n := 12) (S := fun w' => w'.cell? (ad186.add ((ji56)).toNat) = some (.int .u32 (rd y177 (ji56)))) (ds := []) #[false, false, false, false, false, false, false, false, false, false, false, false] (by kernel_rfl) rfl rfl (hx190_0) (fun hHeld => ?_); refine with_tabW impl_divideDigits.tab20 impl_divideDigits.bits20 (fun HT_ HW_ => ?_)
                                   generalize wr.drew = w59 at HO_8 HO_9 HO_10 HB hx190_0 hHeld ⊢
                                   refine pure_ (i := 0) (N := some 135) (v := ?_) (a' := ?_) #[true, false, false, false, false, false, false, false, false, false, false, false] rfl rfl (any_of HT_.out (by kernel_rfl)) (fun _ _ _ h => h) (Or.inl ⟨by rfl, ?_⟩) ?_ ?_
                                   rotate_left
                                   ·intro w'
                                    go_simp
                                    with_reducible rfl
                                   rotate_left
                                   ·simp only [Act.put, List.setIfInBounds_toArray, List.set_cons_zero, List.set_cons_succ, i64_w, i32_w]
                                    rfl
                                   refine pure_ (i := 1) (N := some 136) (v := ?_) (a' := ?_) #[true, true, false, false, false, false, false, false, false, false, false, false] rfl rfl (any_of HT_.out (by kernel_rfl)) (fun _ _ _ h => h) (Or.inl ⟨by rfl, ?_⟩) ?_ ?_
                                   rotate_left
                                   ·intro w'
                                    go_simp
                                    with_reducible rfl
                                   rotate_left
                                   ·simp only [Act.put, List.setIfInBounds_toArray, List.set_cons_zero, List.set_cons_succ, i64_w, i32_w]
                                    rfl
                                   refine pure_ (i := 2) (N := some 137) (v := ?_) (a' := ?_) #[true, true, true, false, false, false, false, false, false, false, false, false] rfl rfl (any_of HT_.out (by kernel_rfl)) (fun _ _ _ h => h) (Or.inl ⟨by rfl, ?_⟩) ?_ ?_
                                   rotate_left
                                   ·intro w'
                                    go_simp
                                    with_reducible rfl
                                   rotate_left
                                   ·simp only [Act.put, List.setIfInBounds_toArray, List.set_cons_zero, List.set_cons_succ, i64_w, i32_w]
                                    rfl
                                   refine pure_ (i := 3) (N := some 138) (v := ?_) (a' := ?_) #[true, true, true, true, false, false, false, false, false, false, false, false] rfl rfl (any_of HT_.out (by kernel_rfl)) (fun _ _ _ h => h) (Or.inl ⟨by rfl, ?_⟩) ?_ ?_
                                   rotate_left
                                   ·intro w'
                                    go_simp
                                    with_reducible rfl
                                   rotate_left
                                   ·simp only [Act.put, List.setIfInBounds_toArray, List.set_cons_zero, List.set_cons_succ, i64_w, i32_w]
                                    rfl
                                   refine pure_ (i := 4) (N := some 139) (v := ?_) (a' := ?_) #[true, true, true, true, true, false, false, false, false, false, false, false] rfl rfl (any_of HT_.out (by kernel_rfl)) (fun _ _ _ h => h) (Or.inl ⟨by rfl, ?_⟩) ?_ ?_
                                   rotate_left
                                   ·intro w'
                                    go_simp
                                    with_reducible rfl
                                   rotate_left
                                   ·simp only [Act.put, List.setIfInBounds_toArray, List.set_cons_zero, List.set_cons_succ, i64_w, i32_w]
                                    rfl
                                   refine pure_ (i := 5) (N := some 140) (v := ?_) (a' := ?_) #[true, true, true, true, true, true, false, false, false, false, false, false] rfl rfl (any_of HT_.out (by kernel_rfl)) (fun _ _ _ h => h) (Or.inl ⟨by rfl, ?_⟩) ?_ ?_
                                   rotate_left
                                   ·intro w'
                                    go_simp
                                    with_reducible rfl
                                   rotate_left
                                   ·simp only [Act.put, List.setIfInBounds_toArray, List.set_cons_zero, List.set_cons_succ, i64_w, i32_w]
                                    rfl
                                   refine pure_ (i := 6) (N := some 141) (v := ?_) (a' := ?_) #[true, true, true, true, true, true, true, false, false, false, false, false] rfl rfl (any_of HT_.out (by kernel_rfl)) (fun _ _ _ h => h) (Or.inl ⟨by rfl, ?_⟩) ?_ ?_
                                   rotate_left
                                   ·intro w'
                                    go_simp
                                    with_reducible rfl
                                   rotate_left
                                   ·simp only [Act.put, List.setIfInBounds_toArray, List.set_cons_zero, List.set_cons_succ, i64_w, i32_w]
                                    rfl
                                   refine pure_ (i := 10) (N := some 14) (v := ?_) (a' := ?_) #[true, true, true, true, true, true, true, false, false, false, true, false] rfl rfl (any_of HT_.out (by kernel_rfl)) (fun _ _ _ h => h) (Or.inl ⟨by rfl, ?_⟩) ?_ ?_
                                   rotate_left
                                   ·intro w'
                                    go_simp
                                    with_reducible rfl
                                   rotate_left
                                   ·simp only [Act.put, List.setIfInBounds_toArray, List.set_cons_zero, List.set_cons_succ, i64_w, i32_w]
                                    rfl
                                   refine take_ (i := 7) (N := some 142) (v := ?_) (a' := ?_) #[true, true, true, true, true, true, true, true, false, false, true, false] rfl rfl (take_ofW HT_.out HW_.out (by kernel_rfl)) (fun _ _ _ h => h) (Or.inl ⟨by rfl, ?_⟩) hHeld ?_ ?_
                                   rotate_left
                                   ·intro w' s0
                                    go_simp
                                    with_reducible rfl
                                   rotate_left
                                   ·simp only [Act.put, List.setIfInBounds_toArray, List.set_cons_zero, List.set_cons_succ, i64_w, i32_w]
                                    rfl
                                   refine pure_ (i := 8) (N := some 143) (v := ?_) (a' := ?_) #[true, true, true, true, true, true, true, true, true, false, true, false] rfl rfl (any_of HT_.out (by kernel_rfl)) (fun _ _ _ h => h) (Or.inl ⟨by rfl, ?_⟩) ?_ ?_
                                   rotate_left
                                   ·intro w'
                                    go_simp
                                    with_reducible rfl
                                   rotate_left
                                   ·simp only [Act.put, List.setIfInBounds_toArray, List.set_cons_zero, List.set_cons_succ, i64_w, i32_w]
                                    rfl
                                   refine pure_ (i := 9) (N := some 144) (v := ?_) (a' := ?_) #[true, true, true, true, true, true, true, true, true, true, true, false] rfl rfl (any_of HT_.out (by kernel_rfl)) (fun _ _ _ h => h) (Or.inl ⟨by rfl, ?_⟩) ?_ ?_
                                   rotate_left
                                   ·intro w'
                                    go_simp
                                    with_reducible rfl
                                   rotate_left
                                   ·simp only [Act.put, List.setIfInBounds_toArray, List.set_cons_zero, List.set_cons_succ, i64_w, i32_w]
                                    rfl
                                   refine pure_ (i := 11) (N := some 15) (v := ?_) (a' := ?_) #[true, true, true, true, true, true, true, true, true, true, true, true] rfl rfl (any_of HT_.out (by kernel_rfl)) (fun _ _ _ h => h) (Or.inl ⟨by rfl, ?_⟩) ?_ ?_
                                   rotate_left
                                   ·intro w'
                                    go_simp
                                    with_reducible rfl
                                   rotate_left
                                   ·simp only [Act.put, List.setIfInBounds_toArray, List.set_cons_zero, List.set_cons_succ, i64_w, i32_w]
                                    rfl
                                   refine done_ (done_of HT_.out (by kernel_rfl)) ?_
                                   try go_wp2
                                   go_roundg k5
                                   case measure => have := HK1.out; have := HJ16.out; have := HK3.out; have := HJ39.out; have := HK5.out; omega
                                   case rel => exact ⟨(IntKind.u64.wrap (x14_5 - 1)), (IntKind.u64.wrap (x15_5 + (IntKind.u64.wrap (rd y177 (ji56))))), (by first | rfl | (simp; done) | (simp [*]; done)), (by first | rfl | (simp; done) | (simp only [← hji56] <;> (first | rfl | simp)) | (simp [*]; done)), H', ⟨by have := HK1.out; have := HJ16.out; have := HK3.out; have := HJ39.out; have := HK5.out; omega⟩, ⟨by (with_reducible repeat (first | apply Kd.R_alloc | apply Kd.R_drewN | apply Kd.R_drew)); exact HO_8.out⟩, ⟨by (with_reducible repeat (first | apply Kd.R_alloc | apply Kd.R_drewN | apply Kd.R_drew)); exact HO_9.out⟩, ⟨by (with_reducible repeat (first | apply Kd.R_alloc | apply Kd.R_drewN | apply Kd.R_drew)); exact HO_10.out⟩, ⟨by repeat (first | (with_reducible first | exact HB.out | apply below_alloc | apply pw_below_drewN | apply below_drew1) | exact HB.out)⟩⟩
                                 ·rw [if_neg c58] at H
                                  exact absurd H (by simp)
                                ·rw [if_neg c57] at H
                                 exact absurd H (by simp)
                               ·rw [if_neg c55] at H
                                have c55b0 : decide ((Go.bits .or .u64 (IntKind.u64.wrap (x15_5 * 4294967296)) x16_39) < (IntKind.u64.wrap (x14_5 * x11_16))) = false := decide_eq_false c55
                                clear c55
                                as_aux_lemma =>
                                 have H' := Aside0.mk H
                                 clear H
                                 go_wp2
                                 go_meet
                                 case rel => exact ⟨_, (x14_5), (by first | rfl | (simp; done) | (simp [*]; done)), H', ⟨by have := HK1.out; have := HJ16.out; have := HK3.out; have := HJ39.out; have := HK5.out; first | omega | exact Nat.le_refl _⟩, ⟨by (with_reducible repeat (first | apply Kd.R_alloc | apply Kd.R_drewN | apply Kd.R_drew)); exact HO_8.out⟩, ⟨by (with_reducible repeat (first | apply Kd.R_alloc | apply Kd.R_drewN | apply Kd.R_drew)); exact HO_9.out⟩, ⟨by (with_reducible repeat (first | apply Kd.R_alloc | apply Kd.R_drewN | apply Kd.R_drew)); exact HO_10.out⟩, ⟨by repeat (first | (with_reducible first | exact HB.out | apply below_alloc | apply pw_below_drewN | apply below_drew1) | exact HB.out)⟩⟩
                             ·rw [if_neg c49] at H
                              have c49b0 : decide (x15_5 < 4294967296) = false := decide_eq_false c49
                              clear c49
                              (first | rw [c49b0] | (simp only [i64_w, i32_w]; rw [c49b0]) | skip)
                              as_aux_lemma =>
                               have H' := Aside0.mk H
                               clear H
                               go_wp2
                               go_meet
                               case rel => exact ⟨_, (x14_5), (by first | rfl | (simp; done) | (simp [*]; done)), H', ⟨by have := HK1.out; have := HJ16.out; have := HK3.out; have := HJ39.out; have := HK5.out; first | omega | exact Nat.le_refl _⟩, ⟨by (with_reducible repeat (first | apply Kd.R_alloc | apply Kd.R_drewN | apply Kd.R_drew)); exact HO_8.out⟩, ⟨by (with_reducible repeat (first | apply Kd.R_alloc | apply Kd.R_drewN | apply Kd.R_drew)); exact HO_9.out⟩, ⟨by (with_reducible repeat (first | apply Kd.R_alloc | apply Kd.R_drewN | apply Kd.R_drew)); exact HO_10.out⟩, ⟨by repeat (first | (with_reducible first | exact HB.out | apply below_alloc | apply pw_below_drewN | apply below_drew1) | exact HB.out)⟩⟩
                          case rest =>
                           clear HC48
                           try clear c1
                           try clear p1
                           try clear q1
                           try clear hx1
                           try clear c2
                           try clear p2
                           try clear q2
                           try clear c3
                           try clear c3b0
                           try clear c3b1
                           try clear c4
                           try clear c5
                           try clear c5b0
                           try clear c6
                           try clear c6b0
                           try clear p6
                           try clear c7
                           try clear c7b0
                           try clear c7b1
                           try clear c9
                           try clear c9b0
                           try clear c12
                           try clear c12b0
                           try clear c12b1
                           try clear c13
                           try clear c13b0
                           try clear c13b1
                           try clear c15
                           try clear c15b0
                           try clear c15b1
                           try clear c16
                           try clear c16b0
                           try clear c16b1
                           try clear p17
                           try clear q17
                           try clear hx17
                           try clear p18
                           try clear q18
                           try clear hx18
                           try clear p19
                           try clear q19
                           try clear hx19
                           try clear q22
                           try clear c25
                           try clear c25b0
                           try clear c25b1
                           try clear c27
                           try clear c27b0
                           try clear c28
                           try clear c28b0
                           try clear c29
                           try clear c29b0
                           try clear c31
                           try clear c31b0
                           try clear c32
                           try clear c32b0
                           try clear c34
                           try clear c34b0
                           try clear c35
                           try clear c35b0
                           try clear c37
                           try clear c37b0
                           try clear c38
                           try clear c38b0
                           try clear c39
                           try clear c39b0
                           try clear c39b1
                           try clear c44
                           try clear c44b0
                           try clear c44b1
                           try clear c46
                           try clear c46b0
                           try clear c47
                           try clear c47b0
                           try clear c49
                           try clear c49b0
                           try clear c50
                           try clear c50b0
                           try clear c52
                           try clear c52b0
                           try clear c53
                           try clear c53b0
                           try clear c55
                           try clear c55b0
                           try clear c57
                           try clear c57b0
                           try clear c58
                           try clear c58b0
                           try clear hx170_0
                           try clear hx183_0
                           try clear hx184_0
                           try clear hx185_0
                           try clear hx186_0
                           try clear hx187_0
                           try clear hx188_0
                           try clear hx189_0
                           try clear hx190_0
                           try clear p1
                           try clear p17
                           try clear p170
                           try clear p18
                           try clear p183
                           try clear p184
                           try clear p185
                           try clear p186
                           try clear p187
                           try clear p188
                           try clear p189
                           try clear p190
                           try clear p2
                           try clear p6
                           try clear q1
                           try clear q17
                           try clear q170
                           try clear q18
                           try clear q183
                           try clear q184
                           try clear q185
                           try clear q186
                           try clear q187
                           try clear q188
                           try clear q189
                           try clear q190
                           try clear q2
                           try clear q22
                           obtain ⟨kq, x14_47, rfl, HA, HJ47, HO_8, HO_9, HO_10, HB⟩ := hcut
                           cases kq with
                           | zero => exact absurd HA.out (by simp [impl_divideDigits.j5])
                           | succ kj47 =>
                            have H := HA.out
                            clear HA
                            simp only [impl_divideDigits.j5] at H
                            have H' := Aside0.mk H
                            clear H
                            go_wp2
                            go_loopg [17, 147] kj47 (fun kq v17 v147 w' => ∃ (x8_6 : List Int) (x17_6 : Int) (x147_6 : Int), v17 = .int .u64 x17_6 ∧ v147 = .int .i64 x147_6 ∧ Aside0 (impl_divideDigits.l3 kq (l1.length : Int) x7_1 x8_6 y177 x10_3 x11_16 x12_3 x14_47 x17_6 y177 (y177.length : Int) x147_6 = some (r1, r2)) ∧ Aside0 (kq ≤ kj47) ∧ Aside0 (Kd.R (Kd.int .u32) 85 w' w.heap.size (fun k_ => some k_ ≠ ((.slice (some ad186) y177.length co21) : Value).ownBlock ∧ some k_ ≠ (v181 : Value).ownBlock ∧ some k_ ≠ ((.slice (some ad186) y177.length co21) : Value).ownBlock) (.slice (some ad184) x8_3.length co42) x8_6) ∧ Aside0 (Kd.R (Kd.int .u32) 85 w' w.heap.size (fun k_ => some k_ ≠ ((.slice (some ad184) x8_3.length co42) : Value).ownBlock ∧ some k_ ≠ (v181 : Value).ownBlock) (.slice (some ad186) y177.length co21) y177) ∧ Aside0 (Kd.R (Kd.int .u32) 85 w' w.heap.size (fun k_ => some k_ ≠ ((.slice (some ad184) x8_3.length co42) : Value).ownBlock ∧ some k_ ≠ ((.slice (some ad186) y177.length co21) : Value).ownBlock ∧ some k_ ≠ ((.slice (some ad186) y177.length co21) : Value).ownBlock) v181 x10_3) ∧ Aside0 (Kd.R (Kd.int .u32) 85 w' w.heap.size (fun k_ => some k_ ≠ ((.slice (some ad184) x8_3.length co42) : Value).ownBlock ∧ some k_ ≠ (v181 : Value).ownBlock) (.slice (some ad186) y177.length co21) y177) ∧ Aside0 (Below w.heap.size w w'))
                            case atStart => exact ⟨(x8_3), (0), (0), (by first | rfl | (simp; done) | (simp [*]; done)), (by first | rfl | (simp; done) | (simp [*]; done)), H', ⟨Nat.le_refl _⟩, ⟨by (with_reducible repeat (first | apply Kd.R_alloc | apply Kd.R_drewN | apply Kd.R_drew)); exact Kd.R_mono HO_8.out (fun _ hk => ⟨hk.1, ⟨hk.2, hk.1⟩⟩)⟩, ⟨by (with_reducible repeat (first | apply Kd.R_alloc | apply Kd.R_drewN | apply Kd.R_drew)); exact HO_9.out⟩, ⟨by (with_reducible repeat (first | apply Kd.R_alloc | apply Kd.R_drewN | apply Kd.R_drew)); exact Kd.R_mono HO_10.out (fun _ hk => ⟨hk.1, ⟨hk.2, hk.2⟩⟩)⟩, ⟨by (with_reducible repeat (first | apply Kd.R_alloc | apply Kd.R_drewN | apply Kd.R_drew)); exact HO_9.out⟩, ⟨by repeat (first | (with_reducible first | exact HB.out | apply below_alloc | apply pw_below_drewN | apply below_drew1) | exact HB.out)⟩⟩
                            case round =>
                             clear H'
                             try clear c1
                             try clear p1
                             try clear q1
                             try clear hx1
                             try clear c2
                             try clear p2
                             try clear q2
                             try clear c3
                             try clear c3b0
                             try clear c3b1
                             try clear c4
                             try clear c5
                             try clear c5b0
                             try clear c6
                             try clear c6b0
                             try clear p6
                             try clear c7
                             try clear c7b0
                             try clear c7b1
                             try clear c9
                             try clear c9b0
                             try clear c12
                             try clear c12b0
                             try clear c12b1
                             try clear c13
                             try clear c13b0
                             try clear c13b1
                             try clear c15
                             try clear c15b0
                             try clear c15b1
                             try clear c16
                             try clear c16b0
                             try clear c16b1
                             try clear p17
                             try clear q17
                             try clear hx17
                             try clear p18
                             try clear q18
                             try clear hx18
                             try clear p19
                             try clear q19
                             try clear hx19
                             try clear q22
                             try clear c25
                             try clear c25b0
                             try clear c25b1
                             try clear c27
                             try clear c27b0
                             try clear c28
                             try clear c28b0
                             try clear c29
                             try clear c29b0
                             try clear c31
                             try clear c31b0
                             try clear c32
                             try clear c32b0
                             try clear c34
                             try clear c34b0
                             try clear c35
                             try clear c35b0
                             try clear c37
                             try clear c37b0
                             try clear c38
                             try clear c38b0
                             try clear c39
                             try clear c39b0
                             try clear c39b1
                             try clear c44
                             try clear c44b0
                             try clear c44b1
                             try clear c46
                             try clear c46b0
                             try clear c47
                             try clear c47b0
                             try clear c49
                             try clear c49b0
                             try clear c50
                             try clear c50b0
                             try clear c52
                             try clear c52b0
                             try clear c53
                             try clear c53b0
                             try clear c55
                             try clear c55b0
                             try clear c57
                             try clear c57b0
                             try clear c58
                             try clear c58b0
                             try clear hx170_0
                             try clear hx183_0
                             try clear hx184_0
                             try clear hx185_0
                             try clear hx186_0
                             try clear hx187_0
                             try clear hx188_0
                             try clear hx189_0
                             try clear hx190_0
                             try clear p1
                             try clear p17
                             try clear p170
                             try clear p18
                             try clear p183
                             try clear p184
                             try clear p185
                             try clear p186
                             try clear p187
                             try clear p188
                             try clear p189
                             try clear p19
                             try clear p190
                             try clear p2
                             try clear p6
                             try clear q1
                             try clear q17
                             try clear q170
                             try clear q18
                             try clear q183
                             try clear q184
                             try clear q185
                             try clear q186
                             try clear q187
                             try clear q188
                             try clear q189
                             try clear q19
                             try clear q190
                             try clear q2
                             try clear q22
                             obtain ⟨x8_6, x17_6, x147_6, rfl, rfl, HA, HK6, HO_8, HO_9, HO_10, HO_145, HB⟩ := hrel
                             have hl8_6 := (Kd.R_reads' HO_8.out).1
                             rw [hl8_6] at HO_8
                             (try simp only [hl8_6])
                             (try simp only [hl8_6] at HO_9)
                             (try simp only [hl8_6] at HO_10)
                             (try simp only [hl8_6] at HO_145)
                             cases gk with
                             | zero => exact absurd HA.out (by simp [impl_divideDigits.l3])
                             | succ k6 =>
                              have H := HA.out
                              clear HA
                              simp only [impl_divideDigits.l3] at H
                              by_cases c60 : x147_6 < (y177.length : Int)
                              ·rw [if_pos c60] at H
                               have c60b0 : decide (x147_6 < (y177.length : Int)) = true := decide_eq_true c60
                               try simp only [hl8_6] at c60b0
                               clear c60
                               by_cases c61 : 0 ≤ x147_6
                               ·rw [if_pos c61] at H
                                have c61b0 : decide (0 ≤ x147_6) = true := decide_eq_true c61
                                clear c61
                                by_cases c62 : x147_6 < (y177.length : Int)
                                ·rw [if_pos c62] at H
                                 have c62b0 : decide (x147_6 < (y177.length : Int)) = true := decide_eq_true c62
                                 try simp only [hl8_6] at c62b0
                                 clear c62
                                 obtain ⟨ji63, hji63⟩ : ∃ j_ : Int, (wrap64 (x147_6 + x12_3)) = j_ := ⟨_, rfl⟩
                                 replace H : (if 0 ≤ (ji63) then (if (ji63) < (x8_6.length : Int) then ((some (x8_6.set ((ji63) : Int).toNat ((IntKind.u64.wrap ((IntKind.u64.wrap (rd x8_6 (ji63))) - (Go.bits .and .u64 (IntKind.u64.wrap (x17_6 + (IntKind.u64.wrap (x14_47 * (IntKind.u64.wrap (rd y177 x147_6)))))) 4294967295))) % 4294967296) : List Int)).bind fun y193 => (if (IntKind.u64.wrap (rd x8_6 (ji63))) < (Go.bits .and .u64 (IntKind.u64.wrap (x17_6 + (IntKind.u64.wrap (x14_47 * (IntKind.u64.wrap (rd y177 x147_6)))))) 4294967295) then (impl_divideDigits.l3 k6 (l1.length : Int) x7_1 y193 y177 x10_3 x11_16 x12_3 x14_47 (IntKind.u64.wrap (((IntKind.u64.wrap (x17_6 + (IntKind.u64.wrap (x14_47 * (IntKind.u64.wrap (rd y177 x147_6)))))) / 4294967296) + 1)) y177 (y177.length : Int) (wrap64 (x147_6 + 1))) else (impl_divideDigits.l3 k6 (l1.length : Int) x7_1 y193 y177 x10_3 x11_16 x12_3 x14_47 ((IntKind.u64.wrap (x17_6 + (IntKind.u64.wrap (x14_47 * (IntKind.u64.wrap (rd y177 x147_6)))))) / 4294967296) y177 (y177.length : Int) (wrap64 (x147_6 + 1))))) else (none)) else (none)) = some (r1, r2) := by first | (rw [hji63] at H; exact H) | (simp only [hji63] at H ⊢; exact H)
                                 have hji63w : (IntKind.i64.wrap (x147_6 + x12_3)) = ji63 := (i64_w _).trans hji63
                                 by_cases c64 : 0 ≤ (ji63)
                                 ·rw [if_pos c64] at H
                                  have c64b0 : decide (0 ≤ (ji63)) = true := decide_eq_true c64
                                  clear c64
                                  by_cases c65 : (ji63) < (x8_6.length : Int)
                                  ·rw [if_pos c65] at H
                                   have c65b0 : decide ((ji63) < (x8_6.length : Int)) = true := decide_eq_true c65
                                   clear c65
                                   obtain ⟨y193, hy193⟩ : ∃ y_ : List Int, y_ = (x8_6.set ((ji63) : Int).toNat ((IntKind.u64.wrap ((IntKind.u64.wrap (rd x8_6 (ji63))) - (Go.bits .and .u64 (IntKind.u64.wrap (x17_6 + (IntKind.u64.wrap (x14_47 * (IntKind.u64.wrap (rd y177 x147_6)))))) 4294967295))) % 4294967296)) := ⟨_, rfl⟩
                                   replace H : (if (IntKind.u64.wrap (rd x8_6 (ji63))) < (Go.bits .and .u64 (IntKind.u64.wrap (x17_6 + (IntKind.u64.wrap (x14_47 * (IntKind.u64.wrap (rd y177 x147_6)))))) 4294967295) then (impl_divideDigits.l3 k6 (l1.length : Int) x7_1 y193 y177 x10_3 x11_16 x12_3 x14_47 (IntKind.u64.wrap (((IntKind.u64.wrap (x17_6 + (IntKind.u64.wrap (x14_47 * (IntKind.u64.wrap (rd y177 x147_6)))))) / 4294967296) + 1)) y177 (y177.length : Int) (wrap64 (x147_6 + 1))) else (impl_divideDigits.l3 k6 (l1.length : Int) x7_1 y193 y177 x10_3 x11_16 x12_3 x14_47 ((IntKind.u64.wrap (x17_6 + (IntKind.u64.wrap (x14_47 * (IntKind.u64.wrap (rd y177 x147_6)))))) / 4294967296) y177 (y177.length : Int) (wrap64 (x147_6 + 1)))) = some (r1, r2) := by first | (rw [hy193]; with_reducible exact H) | (have H2_ := (Option.bind_some _ _).symm.trans H; rw [hy193]; with_reducible exact H2_) | (have H2_ := (Option.bind_some _ _).symm.trans H; with_reducible exact H2_) | with_reducible exact H | (rw [hy193]; exact H) | exact H
                                   have Ny193 := Aside0.mk hy193
                                   clear hy193
                                   by_cases c67 : (IntKind.u64.wrap (rd x8_6 (ji63))) < (Go.bits .and .u64 (IntKind.u64.wrap (x17_6 + (IntKind.u64.wrap (x14_47 * (IntKind.u64.wrap (rd y177 x147_6)))))) 4294967295)
                                   ·rw [if_pos c67] at H
                                    have c67b0 : decide ((IntKind.u64.wrap (rd x8_6 (ji63))) < (Go.bits .and .u64 (IntKind.u64.wrap (x17_6 + (IntKind.u64.wrap (x14_47 * (IntKind.u64.wrap (rd y177 x147_6)))))) 4294967295)) = true := decide_eq_true c67
                                    clear c67
                                    as_aux_lemma =>
                                     have H' := Aside0.mk H
                                     clear H
                                     have p191 : 0 ≤ (x147_6 : Int) := of_decide_eq_true (by first | (with_reducible assumption) | assumption)
                                     have q191 : x147_6 < (y177.length : Int) := of_decide_eq_true (by first | (with_reducible assumption) | assumption)
                                     obtain ⟨ad191, e191, hx191_0⟩ := Kd.at_int (Kd.R_reads' HO_145.out).2.2 x147_6 p191 q191
                                     obtain rfl : ad186 = ad191 := (by injection e191)
                                     replace p191 := eq_true p191
                                     replace q191 := eq_true q191
                                     have p192 : 0 ≤ ((ji63) : Int) := of_decide_eq_true (by first | (with_reducible assumption) | assumption)
                                     have q192 : (ji63) < (x8_6.length : Int) := of_decide_eq_true (by first | (with_reducible assumption) | assumption)
                                     obtain ⟨ad192, e192, hx192_0⟩ := Kd.at_int (Kd.R_reads' HO_8.out).2.2 (ji63) p192 q192
                                     obtain rfl : ad184 = ad192 := (by injection e192)
                                     replace p192 := eq_true p192
                                     replace q192 := eq_true q192
                                     have p66 : 0 ≤ ((ji63) : Int) := of_decide_eq_true (by first | (with_reducible assumption) | assumption)
                                     have q66 : ((ji63) : Int) < ((x8_6.length : Int) : Int) := of_decide_eq_true (by first | (with_reducible assumption) | assumption)
                                     obtain ⟨go66, co66, eo66, gb66, gl66, cl66, HG66⟩ := Kd.R_form HO_8.out (by omega)
                                     (first | cases eo66 | (injection eo66 with ea_ en_ ec_; (first | subst ea_ | (injection ea_ with ea_; subst ea_)); subst ec_; clear en_))
                                     have GB66 := Aside0.mk gb66
                                     have GG66 := Aside0.mk HG66
                                     clear gb66 gl66 HG66
                                     (first | simp only [add_plain] at hx184_0 | skip)
                                     (first | simp only [add_plain] at hx185_0 | skip)
                                     (first | simp only [add_plain] at hx188_0 | skip)
                                     (first | simp only [add_plain] at hx192_0 | skip)
                                     obtain ⟨hx66_0, hf66_0⟩ := Kd.R_celln 0 HO_8.out ((ji63) : Int) p66 q66
                                     replace p66 := eq_true p66
                                     replace q66 := eq_true q66
                                     have HP68 := Kd.R_putg HO_8.out ((ji63) : Int) ((IntKind.u64.wrap ((IntKind.u64.wrap (rd x8_6 (ji63))) - (Go.bits .and .u64 (IntKind.u64.wrap (x17_6 + (IntKind.u64.wrap (x14_47 * (IntKind.u64.wrap (rd y177 x147_6)))))) 4294967295))) % 4294967296)
                                     go_wp2_with (first | ((with_reducible refine gate_store (t := 85) (p := 174) rfl ?_); refine store_event (t := 85) (p := 174) (v := ?vo_w69) (w1 := (wr.setCell ⟨go66, ((ji63) : Int).toNat, none⟩ (.int .u32 ((IntKind.u64.wrap ((IntKind.u64.wrap (rd x8_6 (ji63))) - (Go.bits .and .u64 (IntKind.u64.wrap (x17_6 + (IntKind.u64.wrap (x14_47 * (IntKind.u64.wrap (rd y177 x147_6)))))) 4294967295))) % 4294967296)))) ?hg ?ho ?hn ?hr ?_; (case ho => rfl); (case hg => rfl); (case hn => rfl); (case hr => first | (go_simp; done) | (go_simp; rfl)); intro w69 hw; have hg : wr.grownBy w69 (some go66) := (by rw [hw]; exact HP68.2); have hp_ : Kd.R (Kd.int .u32) 85 w69 w.heap.size (fun k_ => some k_ ≠ (.slice (some ad186) y177.length co21 : Value).ownBlock ∧ some k_ ≠ (v181 : Value).ownBlock ∧ some k_ ≠ (.slice (some ad186) y177.length co21 : Value).ownBlock) (.slice (some ⟨go66, 0, none⟩) x8_6.length co42) y193 := (by rw [hw, Ny193.out]; exact HP68.1); clear HP68; have n0_ := Aside0.mk (hp_); have n1_ := Aside0.mk (Kd.R_after (v := (.slice (some ⟨go66, 0, none⟩) x8_6.length co42)) (v1 := (.slice (some ⟨go66, 0, none⟩) x8_6.length co42)) (ok := (fun k_ => some k_ ≠ (v181 : Value).ownBlock)) (by (with_reducible repeat (first | apply Kd.R_alloc | apply Kd.R_drewN | apply Kd.R_drew)); (first | exact Kd.R_mono HO_9.out (fun _ hk => ⟨hk.2, hk.1⟩) | exact Kd.R_mono HO_9.out (fun _ hk => by simp only [own_len] at hk ⊢; exact ⟨hk.2, hk.1⟩))) hg (.inl rfl)); have n2_ := Aside0.mk (Kd.R_after (v := (.slice (some ⟨go66, 0, none⟩) x8_6.length co42)) (v1 := (.slice (some ⟨go66, 0, none⟩) x8_6.length co42)) (ok := (fun k_ => some k_ ≠ (.slice (some ad186) y177.length co21 : Value).ownBlock ∧ some k_ ≠ (.slice (some ad186) y177.length co21 : Value).ownBlock)) (by (with_reducible repeat (first | apply Kd.R_alloc | apply Kd.R_drewN | apply Kd.R_drew)); exact Kd.R_mono HO_10.out (fun _ hk => ⟨⟨hk.2.1, hk.2.2⟩, hk.1⟩)) hg (.inl rfl)); have n3_ := Aside0.mk (Kd.R_after (v := (.slice (some ⟨go66, 0, none⟩) x8_6.length co42)) (v1 := (.slice (some ⟨go66, 0, none⟩) x8_6.length co42)) (ok := (fun k_ => some k_ ≠ (v181 : Value).ownBlock)) (by (with_reducible repeat (first | apply Kd.R_alloc | apply Kd.R_drewN | apply Kd.R_drew)); (first | exact Kd.R_mono HO_145.out (fun _ hk => ⟨hk.2, hk.1⟩) | exact Kd.R_mono HO_145.out (fun _ hk => by simp only [own_len] at hk ⊢; exact ⟨hk.2, hk.1⟩))) hg (.inl rfl)); have n4_ := Aside0.mk ((by rw [hw]; exact below_set (HB.out) GB66.out : Below w.heap.size w w69)); clear HO_8; clear HO_9; clear HO_10; clear HO_145; clear HB; have HO_8 := n0_; have HO_9 := n1_; have HO_10 := n2_; have HO_145 := n3_; have HB := n4_; clear n0_ n1_ n2_ n3_ n4_; clear hg hw hp_))
                                     (try simp only [← hl8_6])
                                     go_roundg k6
                                     case measure => have := HK1.out; have := HJ16.out; have := HK3.out; have := HJ39.out; have := HJ47.out; have := HK6.out; omega
                                     case rel => exact ⟨(y193), (IntKind.u64.wrap (((IntKind.u64.wrap (x17_6 + (IntKind.u64.wrap (x14_47 * (IntKind.u64.wrap (rd y177 x147_6)))))) / 4294967296) + 1)), (wrap64 (x147_6 + 1)), (by first | rfl | (simp; done) | (simp [*]; done)), (by first | rfl | (simp; done) | (simp [*]; done)), H', ⟨by have := HK1.out; have := HJ16.out; have := HK3.out; have := HJ39.out; have := HJ47.out; have := HK6.out; omega⟩, ⟨by (try simp only [hl8_6]); (with_reducible repeat (first | apply Kd.R_alloc | apply Kd.R_drewN | apply Kd.R_drew)); exact HO_8.out⟩, ⟨by (try simp only [hl8_6]); (with_reducible repeat (first | apply Kd.R_alloc | apply Kd.R_drewN | apply Kd.R_drew)); (first | exact Kd.R_mono HO_9.out (fun _ hk => ⟨hk.2, hk.1⟩) | exact Kd.R_mono HO_9.out (fun _ hk => by simp only [own_len] at hk ⊢; exact ⟨hk.2, hk.1⟩))⟩, ⟨by (try simp only [hl8_6]); (with_reducible repeat (first | apply Kd.R_alloc | apply Kd.R_drewN | apply Kd.R_drew)); exact Kd.R_mono HO_10.out (fun _ hk => ⟨hk.2, ⟨hk.1.1, hk.1.2⟩⟩)⟩, ⟨by (try simp only [hl8_6]); (with_reducible repeat (first | apply Kd.R_alloc | apply Kd.R_drewN | apply Kd.R_drew)); (first | exact Kd.R_mono HO_145.out (fun _ hk => ⟨hk.2, hk.1⟩) | exact Kd.R_mono HO_145.out (fun _ hk => by simp only [own_len] at hk ⊢; exact ⟨hk.2, hk.1⟩))⟩, ⟨by repeat (first | (with_reducible first | exact HB.out | apply below_alloc | apply pw_below_drewN | apply below_drew1) | exact HB.out)⟩⟩
                                   ·rw [if_neg c67] at H
                                    have c67b0 : decide ((IntKind.u64.wrap (rd x8_6 (ji63))) < (Go.bits .and .u64 (IntKind.u64.wrap (x17_6 + (IntKind.u64.wrap (x14_47 * (IntKind.u64.wrap (rd y177 x147_6)))))) 4294967295)) = false := decide_eq_false c67
                                    clear c67
                                    as_aux_lemma =>
                                     have H' := Aside0.mk H
                                     clear H
                                     have p191 : 0 ≤ (x147_6 : Int) := of_decide_eq_true (by first | (with_reducible assumption) | assumption)
                                     have q191 : x147_6 < (y177.length : Int) := of_decide_eq_true (by first | (with_reducible assumption) | assumption)
                                     obtain ⟨ad191, e191, hx191_0⟩ := Kd.at_int (Kd.R_reads' HO_145.out).2.2 x147_6 p191 q191
                                     obtain rfl : ad186 = ad191 := (by injection e191)
                                     replace p191 := eq_true p191
                                     replace q191 := eq_true q191
                                     have p192 : 0 ≤ ((ji63) : Int) := of_decide_eq_true (by first | (with_reducible assumption) | assumption)
                                     have q192 : (ji63) < (x8_6.length : Int) := of_decide_eq_true (by first | (with_reducible assumption) | assumption)
                                     obtain ⟨ad192, e192, hx192_0⟩ := Kd.at_int (Kd.R_reads' HO_8.out).2.2 (ji63) p192 q192
                                     obtain rfl : ad184 = ad192 := (by injection e192)
                                     replace p192 := eq_true p192
                                     replace q192 := eq_true q192
                                     have p66 : 0 ≤ ((ji63) : Int) := of_decide_eq_true (by first | (with_reducible assumption) | assumption)
                                     have q66 : ((ji63) : Int) < ((x8_6.length : Int) : Int) := of_decide_eq_true (by first | (with_reducible assumption) | assumption)
                                     obtain ⟨go66, co66, eo66, gb66, gl66, cl66, HG66⟩ := Kd.R_form HO_8.out (by omega)
                                     (first | cases eo66 | (injection eo66 with ea_ en_ ec_; (first | subst ea_ | (injection ea_ with ea_; subst ea_)); subst ec_; clear en_))
                                     have GB66 := Aside0.mk gb66
                                     have GG66 := Aside0.mk HG66
                                     clear gb66 gl66 HG66
                                     (first | simp only [add_plain] at hx192_0 | skip)
                                     obtain ⟨hx66_0, hf66_0⟩ := Kd.R_celln 0 HO_8.out ((ji63) : Int) p66 q66
                                     replace p66 := eq_true p66
                                     replace q66 := eq_true q66
                                     have HP70 := Kd.R_putg HO_8.out ((ji63) : Int) ((IntKind.u64.wrap ((IntKind.u64.wrap (rd x8_6 (ji63))) - (Go.bits .and .u64 (IntKind.u64.wrap (x17_6 + (IntKind.u64.wrap (x14_47 * (IntKind.u64.wrap (rd y177 x147_6)))))) 4294967295))) % 4294967296)
                                     go_wp2_with (first | ((with_reducible refine gate_store (t := 85) (p := 174) rfl ?_); refine store_event (t := 85) (p := 174) (v := ?vo_w71) (w1 := (wr.setCell ⟨go66, ((ji63) : Int).toNat, none⟩ (.int .u32 ((IntKind.u64.wrap ((IntKind.u64.wrap (rd x8_6 (ji63))) - (Go.bits .and .u64 (IntKind.u64.wrap (x17_6 + (IntKind.u64.wrap (x14_47 * (IntKind.u64.wrap (rd y177 x147_6)))))) 4294967295))) % 4294967296)))) ?hg ?ho ?hn ?hr ?_; (case ho => rfl); (case hg => rfl); (case hn => rfl); (case hr => first | (go_simp; done) | (go_simp; rfl)); intro w71 hw; have hg : wr.grownBy w71 (some go66) := (by rw [hw]; exact HP70.2); have hp_ : Kd.R (Kd.int .u32) 85 w71 w.heap.size (fun k_ => some k_ ≠ (.slice (some ad186) y177.length co21 : Value).ownBlock ∧ some k_ ≠ (v181 : Value).ownBlock ∧ some k_ ≠ (.slice (some ad186) y177.length co21 : Value).ownBlock) (.slice (some ⟨go66, 0, none⟩) x8_6.length co42) y193 := (by rw [hw, Ny193.out]; exact HP70.1); clear HP70; have n0_ := Aside0.mk (hp_); have n1_ := Aside0.mk (Kd.R_after (v := (.slice (some ⟨go66, 0, none⟩) x8_6.length co42)) (v1 := (.slice (some ⟨go66, 0, none⟩) x8_6.length co42)) (ok := (fun k_ => some k_ ≠ (v181 : Value).ownBlock)) (by (with_reducible repeat (first | apply Kd.R_alloc | apply Kd.R_drewN | apply Kd.R_drew)); (first | exact Kd.R_mono HO_9.out (fun _ hk => ⟨hk.2, hk.1⟩) | exact Kd.R_mono HO_9.out (fun _ hk => by simp only [own_len] at hk ⊢; exact ⟨hk.2, hk.1⟩))) hg (.inl rfl)); have n2_ := Aside0.mk (Kd.R_after (v := (.slice (some ⟨go66, 0, none⟩) x8_6.length co42)) (v1 := (.slice (some ⟨go66, 0, none⟩) x8_6.length co42)) (ok := (fun k_ => some k_ ≠ (.slice (some ad186) y177.length co21 : Value).ownBlock ∧ some k_ ≠ (.slice (some ad186) y177.length co21 : Value).ownBlock)) (by (with_reducible repeat (first | apply Kd.R_alloc | apply Kd.R_drewN | apply Kd.R_drew)); exact Kd.R_mono HO_10.out (fun _ hk => ⟨⟨hk.2.1, hk.2.2⟩, hk.1⟩)) hg (.inl rfl)); have n3_ := Aside0.mk (Kd.R_after (v := (.slice (some ⟨go66, 0, none⟩) x8_6.length co42)) (v1 := (.slice (some ⟨go66, 0, none⟩) x8_6.length co42)) (ok := (fun k_ => some k_ ≠ (v181 : Value).ownBlock)) (by (with_reducible repeat (first | apply Kd.R_alloc | apply Kd.R_drewN | apply Kd.R_drew)); (first | exact Kd.R_mono HO_145.out (fun _ hk => ⟨hk.2, hk.1⟩) | exact Kd.R_mono HO_145.out (fun _ hk => by simp only [own_len] at hk ⊢; exact ⟨hk.2, hk.1⟩))) hg (.inl rfl)); have n4_ := Aside0.mk ((by rw [hw]; exact below_set (HB.out) GB66.out : Below w.heap.size w w71)); clear HO_8; clear HO_9; clear HO_10; clear HO_145; clear HB; have HO_8 := n0_; have HO_9 := n1_; have HO_10 := n2_; have HO_145 := n3_; have HB := n4_; clear n0_ n1_ n2_ n3_ n4_; clear hg hw hp_))
                                     (try simp only [← hl8_6])
                                     go_roundg k6
                                     case measure => have := HK1.out; have := HJ16.out; have := HK3.out; have := HJ39.out; have := HJ47.out; have := HK6.out; omega
                                     case rel => exact ⟨(y193), ((IntKind.u64.wrap (x17_6 + (IntKind.u64.wrap (x14_47 * (IntKind.u64.wrap (rd y177 x147_6)))))) / 4294967296), (wrap64 (x147_6 + 1)), (by first | rfl | (simp; done) | (simp [*]; done)), (by first | rfl | (simp; done) | (simp [*]; done)), H', ⟨by have := HK1.out; have := HJ16.out; have := HK3.out; have := HJ39.out; have := HJ47.out; have := HK6.out; omega⟩, ⟨by (try simp only [hl8_6]); (with_reducible repeat (first | apply Kd.R_alloc | apply Kd.R_drewN | apply Kd.R_drew)); exact HO_8.out⟩, ⟨by (try simp only [hl8_6]); (with_reducible repeat (first | apply Kd.R_alloc | apply Kd.R_drewN | apply Kd.R_drew)); (first | exact Kd.R_mono HO_9.out (fun _ hk => ⟨hk.2, hk.1⟩) | exact Kd.R_mono HO_9.out (fun _ hk => by simp only [own_len] at hk ⊢; exact ⟨hk.2, hk.1⟩))⟩, ⟨by (try simp only [hl8_6]); (with_reducible repeat (first | apply Kd.R_alloc | apply Kd.R_drewN | apply Kd.R_drew)); exact Kd.R_mono HO_10.out (fun _ hk => ⟨hk.2, ⟨hk.1.1, hk.1.2⟩⟩)⟩, ⟨by (try simp only [hl8_6]); (with_reducible repeat (first | apply Kd.R_alloc | apply Kd.R_drewN | apply Kd.R_drew)); (first | exact Kd.R_mono HO_145.out (fun _ hk => ⟨hk.2, hk.1⟩) | exact Kd.R_mono HO_145.out (fun _ hk => by simp only [own_len] at hk ⊢; exact ⟨hk.2, hk.1⟩))⟩, ⟨by repeat (first | (with_reducible first | exact HB.out | apply below_alloc | apply pw_below_drewN | apply below_drew1) | exact HB.out)⟩⟩
                                  ·rw [if_neg c65] at H
                                   exact absurd H (by simp)
                                 ·rw [if_neg c64] at H
                                  exact absurd H (by simp)
                                ·rw [if_neg c62] at H
                                 exact absurd H (by simp)
                               ·rw [if_neg c61] at H
                                exact absurd H (by simp)
                              ·rw [if_neg c60] at H
                               have c60b0 : decide (x147_6 < (y177.length : Int)) = false := decide_eq_false c60
                               try simp only [hl8_6] at c60b0
                               clear c60
                               obtain ⟨ji72, hji72⟩ : ∃ j_ : Int, (wrap64 (x12_3 + (l1.length : Int))) = j_ := ⟨_, rfl⟩
                               obtain rfl : ji72 = ji30 := hji72.symm.trans hji30
                               replace H : (if 0 ≤ (ji72) then (if (ji72) < (x8_6.length : Int) then ((some (x8_6.set ((ji72) : Int).toNat (((rd x8_6 (ji72)) - ((x17_6) % 4294967296)) % 4294967296) : List Int)).bind fun y196 => (if (IntKind.u64.wrap (rd x8_6 (ji72))) < x17_6 then (impl_divideDigits.l4 k6 (l1.length : Int) x7_1 y196 y177 x10_3 x11_16 x12_3 (IntKind.u64.wrap (x14_47 - 1)) 0 y177 (y177.length : Int) 0) else (if 0 ≤ x12_3 then (if x12_3 < (x10_3.length : Int) then (impl_divideDigits.l1 k6 (l1.length : Int) x7_1 y196 y177 (x10_3.set (x12_3 : Int).toNat ((x14_47) % 4294967296)) x11_16 (wrap64 (x12_3 - 1))) else (none)) else (none)))) else (none)) else (none)) = some (r1, r2) := by first | (rw [hji72] at H; exact H) | (simp only [hji72] at H ⊢; exact H)
                               have hji72w : (IntKind.i64.wrap (x12_3 + (l1.length : Int))) = ji72 := (i64_w _).trans hji72
                               by_cases c73 : 0 ≤ (ji72)
                               ·rw [if_pos c73] at H
                                have c73b0 : decide (0 ≤ (ji72)) = true := decide_eq_true c73
                                clear c73
                                by_cases c74 : (ji72) < (x8_6.length : Int)
                                ·rw [if_pos c74] at H
                                 have c74b0 : decide ((ji72) < (x8_6.length : Int)) = true := decide_eq_true c74
                                 clear c74
                                 obtain ⟨y196, hy196⟩ : ∃ y_ : List Int, y_ = (x8_6.set ((ji72) : Int).toNat (((rd x8_6 (ji72)) - ((x17_6) % 4294967296)) % 4294967296)) := ⟨_, rfl⟩
                                 replace H : (if (IntKind.u64.wrap (rd x8_6 (ji72))) < x17_6 then (impl_divideDigits.l4 k6 (l1.length : Int) x7_1 y196 y177 x10_3 x11_16 x12_3 (IntKind.u64.wrap (x14_47 - 1)) 0 y177 (y177.length : Int) 0) else (if 0 ≤ x12_3 then (if x12_3 < (x10_3.length : Int) then (impl_divideDigits.l1 k6 (l1.length : Int) x7_1 y196 y177 (x10_3.set (x12_3 : Int).toNat ((x14_47) % 4294967296)) x11_16 (wrap64 (x12_3 - 1))) else (none)) else (none))) = some (r1, r2) := by first | (rw [hy196]; with_reducible exact H) | (have H2_ := (Option.bind_some _ _).symm.trans H; rw [hy196]; with_reducible exact H2_) | (have H2_ := (Option.bind_some _ _).symm.trans H; with_reducible exact H2_) | with_reducible exact H | (rw [hy196]; exact H) | exact H
                                 have Ny196 := Aside0.mk hy196
                                 clear hy196
                                 by_cases c76 : (IntKind.u64.wrap (rd x8_6 (ji72))) < x17_6
                                 ·rw [if_pos c76] at H
                                  have c76b0 : decide ((IntKind.u64.wrap (rd x8_6 (ji72))) < x17_6) = true := decide_eq_true c76
                                  clear c76
                                  have H' := Aside0.mk H
                                  clear H
                                  have p194 : 0 ≤ ((ji72) : Int) := of_decide_eq_true (by first | (with_reducible assumption) | assumption)
                                  have q194 : (ji72) < (x8_6.length : Int) := of_decide_eq_true (by first | (with_reducible assumption) | assumption)
                                  obtain ⟨ad194, e194, hx194_0⟩ := Kd.at_int (Kd.R_reads' HO_8.out).2.2 (ji72) p194 q194
                                  obtain rfl : ad184 = ad194 := (by injection e194)
                                  replace p194 := eq_true p194
                                  replace q194 := eq_true q194
                                  have p195 : 0 ≤ ((ji72) : Int) := of_decide_eq_true (by first | (with_reducible assumption) | assumption)
                                  have q195 : (ji72) < (x8_6.length : Int) := of_decide_eq_true (by first | (with_reducible assumption) | assumption)
                                  obtain ⟨ad195, e195, hx195_0⟩ := Kd.at_int (Kd.R_reads' HO_8.out).2.2 (ji72) p195 q195
                                  obtain rfl : ad184 = ad195 := (by injection e195)
                                  replace p195 := eq_true p195
                                  replace q195 := eq_true q195
                                  have p75 : 0 ≤ ((ji72) : Int) := of_decide_eq_true (by first | (with_reducible assumption) | assumption)
                                  have q75 : ((ji72) : Int) < ((x8_6.length : Int) : Int) := of_decide_eq_true (by first | (with_reducible assumption) | assumption)
                                  obtain ⟨go75, co75, eo75, gb75, gl75, cl75, HG75⟩ := Kd.R_form HO_8.out (by omega)
                                  (first | cases eo75 | (injection eo75 with ea_ en_ ec_; (first | subst ea_ | (injection ea_ with ea_; subst ea_)); subst ec_; clear en_))
                                  have GB75 := Aside0.mk gb75
                                  have GG75 := Aside0.mk HG75
                                  clear gb75 gl75 HG75
                                  (first | simp only [add_plain] at hx194_0 | skip)
                                  (first | simp only [add_plain] at hx195_0 | skip)
                                  obtain ⟨hx75_0, hf75_0⟩ := Kd.R_celln 0 HO_8.out ((ji72) : Int) p75 q75
                                  replace p75 := eq_true p75
                                  replace q75 := eq_true q75
                                  have HP77 := Kd.R_putg HO_8.out ((ji72) : Int) (((rd x8_6 (ji72)) - ((x17_6) % 4294967296)) % 4294967296)
                                  go_wp2_with (first | ((with_reducible refine gate_store (t := 85) (p := 203) rfl ?_); refine store_event (t := 85) (p := 203) (v := ?vo_w78) (w1 := (wr.setCell ⟨go75, ((ji72) : Int).toNat, none⟩ (.int .u32 (((rd x8_6 (ji72)) - ((x17_6) % 4294967296)) % 4294967296)))) ?hg ?ho ?hn ?hr ?_; (case ho => rfl); (case hg => rfl); (case hn => rfl); (case hr => first | (go_simp; done) | (go_simp; rfl)); intro w78 hw; have hg : wr.grownBy w78 (some go75) := (by rw [hw]; exact HP77.2); have hp_ : Kd.R (Kd.int .u32) 85 w78 w.heap.size (fun k_ => some k_ ≠ (.slice (some ad186) y177.length co21 : Value).ownBlock ∧ some k_ ≠ (v181 : Value).ownBlock ∧ some k_ ≠ (.slice (some ad186) y177.length co21 : Value).ownBlock) (.slice (some ⟨go75, 0, none⟩) x8_6.length co42) y196 := (by rw [hw, Ny196.out]; exact HP77.1); clear HP77; have n0_ := Aside0.mk (hp_); have n1_ := Aside0.mk (Kd.R_after (v := (.slice (some ⟨go75, 0, none⟩) x8_6.length co42)) (v1 := (.slice (some ⟨go75, 0, none⟩) x8_6.length co42)) (ok := (fun k_ => some k_ ≠ (v181 : Value).ownBlock)) (by (with_reducible repeat (first | apply Kd.R_alloc | apply Kd.R_drewN | apply Kd.R_drew)); (first | exact Kd.R_mono HO_9.out (fun _ hk => ⟨hk.2, hk.1⟩) | exact Kd.R_mono HO_9.out (fun _ hk => by simp only [own_len] at hk ⊢; exact ⟨hk.2, hk.1⟩))) hg (.inl rfl)); have n2_ := Aside0.mk (Kd.R_after (v := (.slice (some ⟨go75, 0, none⟩) x8_6.length co42)) (v1 := (.slice (some ⟨go75, 0, none⟩) x8_6.length co42)) (ok := (fun k_ => some k_ ≠ (.slice (some ad186) y177.length co21 : Value).ownBlock ∧ some k_ ≠ (.slice (some ad186) y177.length co21 : Value).ownBlock)) (by (with_reducible repeat (first | apply Kd.R_alloc | apply Kd.R_drewN | apply Kd.R_drew)); exact Kd.R_mono HO_10.out (fun _ hk => ⟨⟨hk.2.1, hk.2.2⟩, hk.1⟩)) hg (.inl rfl)); have n3_ := Aside0.mk (Kd.R_after (v := (.slice (some ⟨go75, 0, none⟩) x8_6.length co42)) (v1 := (.slice (some ⟨go75, 0, none⟩) x8_6.length co42)) (ok := (fun k_ => some k_ ≠ (v181 : Value).ownBlock)) (by (with_reducible repeat (first | apply Kd.R_alloc | apply Kd.R_drewN | apply Kd.R_drew)); (first | exact Kd.R_mono HO_145.out (fun _ hk => ⟨hk.2, hk.1⟩) | exact Kd.R_mono HO_145.out (fun _ hk => by simp only [own_len] at hk ⊢; exact ⟨hk.2, hk.1⟩))) hg (.inl rfl)); have n4_ := Aside0.mk ((by rw [hw]; exact below_set (HB.out) GB75.out : Below w.heap.size w w78)); clear HO_8; clear HO_9; clear HO_10; clear HO_145; clear HB; have HO_8 := n0_; have HO_9 := n1_; have HO_10 := n2_; have HO_145 := n3_; have HB := n4_; clear n0_ n1_ n2_ n3_ n4_; clear hg hw hp_))
                                  go_loopg [23, 209] k6 (fun kq v23 v209 w' => ∃ (x8_7 : List Int) (x23_7 : Int) (x209_7 : Int), v23 = .int .u64 x23_7 ∧ v209 = .int .i64 x209_7 ∧ Aside0 (impl_divideDigits.l4 kq (l1.length : Int) x7_1 x8_7 y177 x10_3 x11_16 x12_3 (IntKind.u64.wrap (x14_47 - 1)) x23_7 y177 (y177.length : Int) x209_7 = some (r1, r2)) ∧ Aside0 (kq ≤ k6) ∧ Aside0 (Kd.R (Kd.int .u32) 85 w' w.heap.size (fun k_ => some k_ ≠ ((.slice (some ad186) y177.length co21) : Value).ownBlock ∧ some k_ ≠ (v181 : Value).ownBlock ∧ some k_ ≠ ((.slice (some ad186) y177.length co21) : Value).ownBlock) (.slice (some ⟨go75, 0, none⟩) x8_6.length co42) x8_7) ∧ Aside0 (Kd.R (Kd.int .u32) 85 w' w.heap.size (fun k_ => some k_ ≠ ((.slice (some ⟨go75, 0, none⟩) x8_6.length co42) : Value).ownBlock ∧ some k_ ≠ (v181 : Value).ownBlock) (.slice (some ad186) y177.length co21) y177) ∧ Aside0 (Kd.R (Kd.int .u32) 85 w' w.heap.size (fun k_ => some k_ ≠ ((.slice (some ⟨go75, 0, none⟩) x8_6.length co42) : Value).ownBlock ∧ some k_ ≠ ((.slice (some ad186) y177.length co21) : Value).ownBlock ∧ some k_ ≠ ((.slice (some ad186) y177.length co21) : Value).ownBlock) v181 x10_3) ∧ Aside0 (Kd.R (Kd.int .u32) 85 w' w.heap.size (fun k_ => some k_ ≠ ((.slice (some ⟨go75, 0, none⟩) x8_6.length co42) : Value).ownBlock ∧ some k_ ≠ (v181 : Value).ownBlock) (.slice (some ad186) y177.length co21) y177) ∧ Aside0 (Below w.heap.size w w'))
                                  case atStart => exact ⟨(y196), (0), (0), (by first | rfl | (simp; done) | (simp [*]; done)), (by first | rfl | (simp; done) | (simp [*]; done)), H', ⟨Nat.le_refl _⟩, ⟨by (try simp only [hl8_6]); (with_reducible repeat (first | apply Kd.R_alloc | apply Kd.R_drewN | apply Kd.R_drew)); exact Kd.R_mono HO_8.out (fun _ hk => ⟨hk.1, ⟨hk.2.1, hk.1⟩⟩)⟩, ⟨by (try simp only [hl8_6]); (with_reducible repeat (first | apply Kd.R_alloc | apply Kd.R_drewN | apply Kd.R_drew)); (first | exact Kd.R_mono HO_9.out (fun _ hk => ⟨hk.2, hk.1⟩) | exact Kd.R_mono HO_9.out (fun _ hk => by simp only [own_len] at hk ⊢; exact ⟨hk.2, hk.1⟩))⟩, ⟨by (try simp only [hl8_6]); (with_reducible repeat (first | apply Kd.R_alloc | apply Kd.R_drewN | apply Kd.R_drew)); exact Kd.R_mono HO_10.out (fun _ hk => ⟨hk.2, ⟨hk.1.1, hk.1.1⟩⟩)⟩, ⟨by (try simp only [hl8_6]); (with_reducible repeat (first | apply Kd.R_alloc | apply Kd.R_drewN | apply Kd.R_drew)); (first | exact Kd.R_mono HO_9.out (fun _ hk => ⟨hk.2, hk.1⟩) | exact Kd.R_mono HO_9.out (fun _ hk => by simp only [own_len] at hk ⊢; exact ⟨hk.2, hk.1⟩))⟩, ⟨by repeat (first | (with_reducible first | exact HB.out | apply below_alloc | apply pw_below_drewN | apply below_drew1) | exact HB.out)⟩⟩
                                  case round =>
                                   clear H'
                                   try clear c1
                                   try clear p1
                                   try clear q1
                                   try clear hx1
                                   try clear c2
                                   try clear p2
                                   try clear q2
                                   try clear c3
                                   try clear c3b0
                                   try clear c3b1
                                   try clear c4
                                   try clear c5
                                   try clear c5b0
                                   try clear c6
                                   try clear c6b0
                                   try clear p6
                                   try clear q6
                                   try clear hx6
                                   try clear hf6
                                   try clear c7
                                   try clear c7b0
                                   try clear c7b1
                                   try clear p7
                                   try clear q7
                                   try clear hx7
                                   try clear hf7
                                   try clear c9
                                   try clear c9b0
                                   try clear c12
                                   try clear c12b0
                                   try clear c12b1
                                   try clear c13
                                   try clear c13b0
                                   try clear c13b1
                                   try clear c15
                                   try clear c15b0
                                   try clear c15b1
                                   try clear c16
                                   try clear c16b0
                                   try clear c16b1
                                   try clear p17
                                   try clear q17
                                   try clear hx17
                                   try clear p18
                                   try clear q18
                                   try clear hx18
                                   try clear p19
                                   try clear q19
                                   try clear hx19
                                   try clear q22
                                   try clear c25
                                   try clear c25b0
                                   try clear c25b1
                                   try clear c27
                                   try clear c27b0
                                   try clear c28
                                   try clear c28b0
                                   try clear c29
                                   try clear c29b0
                                   try clear c31
                                   try clear c31b0
                                   try clear c32
                                   try clear c32b0
                                   try clear c34
                                   try clear c34b0
                                   try clear c35
                                   try clear c35b0
                                   try clear c37
                                   try clear c37b0
                                   try clear c38
                                   try clear c38b0
                                   try clear c39
                                   try clear c39b0
                                   try clear c39b1
                                   try clear c44
                                   try clear c44b0
                                   try clear c44b1
                                   try clear c46
                                   try clear c46b0
                                   try clear c47
                                   try clear c47b0
                                   try clear c49
                                   try clear c49b0
                                   try clear c50
                                   try clear c50b0
                                   try clear c52
                                   try clear c52b0
                                   try clear c53
                                   try clear c53b0
                                   try clear c55
                                   try clear c55b0
                                   try clear c57
                                   try clear c57b0
                                   try clear c58
                                   try clear c58b0
                                   try clear c60
                                   try clear c60b0
                                   try clear c61
                                   try clear c61b0
                                   try clear c62
                                   try clear c62b0
                                   try clear c64
                                   try clear c64b0
                                   try clear p64
                                   try clear c65
                                   try clear c65b0
                                   try clear p66
                                   try clear q66
                                   try clear hx66
                                   try clear hf66
                                   try clear c67
                                   try clear c67b0
                                   try clear c73
                                   try clear c73b0
                                   try clear c74
                                   try clear c74b0
                                   try clear p75
                                   try clear q75
                                   try clear hx75
                                   try clear hf75
                                   try clear c76
                                   try clear c76b0
                                   try clear hx170_0
                                   try clear hx183_0
                                   try clear hx184_0
                                   try clear hx185_0
                                   try clear hx186_0
                                   try clear hx187_0
                                   try clear hx188_0
                                   try clear hx189_0
                                   try clear hx190_0
                                   try clear hx191_0
                                   try clear hx192_0
                                   try clear hx194_0
                                   try clear hx195_0
                                   try clear hx66_0
                                   try clear hx75_0
                                   try clear p1
                                   try clear p17
                                   try clear p170
                                   try clear p18
                                   try clear p183
                                   try clear p184
                                   try clear p185
                                   try clear p186
                                   try clear p187
                                   try clear p188
                                   try clear p189
                                   try clear p19
                                   try clear p190
                                   try clear p191
                                   try clear p192
                                   try clear p194
                                   try clear p195
                                   try clear p2
                                   try clear p6
                                   try clear p66
                                   try clear p75
                                   try clear q1
                                   try clear q17
                                   try clear q170
                                   try clear q18
                                   try clear q183
                                   try clear q184
                                   try clear q185
                                   try clear q186
                                   try clear q187
                                   try clear q188
                                   try clear q189
                                   try clear q19
                                   try clear q190
                                   try clear q191
                                   try clear q192
                                   try clear q194
                                   try clear q195
                                   try clear q2
                                   try clear q22
                                   try clear q66
                                   try clear q75
                                   obtain ⟨x8_7, x23_7, x209_7, rfl, rfl, HA, HK7, HO_8, HO_9, HO_10, HO_207, HB⟩ := hrel
                                   have hl8_7 := (Kd.R_reads' HO_8.out).1
                                   rw [hl8_7] at HO_8
                                   (try simp only [hl8_7])
                                   (try simp only [hl8_7] at HO_9)
                                   (try simp only [hl8_7] at HO_10)
                                   (try simp only [hl8_7] at HO_207)
                                   cases gk with
                                   | zero => exact absurd HA.out (by simp [impl_divideDigits.l4])
                                   | succ k7 =>
                                    have H := HA.out
                                    clear HA
                                    simp only [impl_divideDigits.l4] at H
                                    by_cases c79 : x209_7 < (y177.length : Int)
                                    ·rw [if_pos c79] at H
                                     have c79b0 : decide (x209_7 < (y177.length : Int)) = true := decide_eq_true c79
                                     try simp only [hl8_7] at c79b0
                                     clear c79
                                     by_cases c80 : 0 ≤ x209_7
                                     ·rw [if_pos c80] at H
                                      have c80b0 : decide (0 ≤ x209_7) = true := decide_eq_true c80
                                      clear c80
                                      by_cases c81 : x209_7 < (y177.length : Int)
                                      ·rw [if_pos c81] at H
                                       have c81b0 : decide (x209_7 < (y177.length : Int)) = true := decide_eq_true c81
                                       try simp only [hl8_7] at c81b0
                                       clear c81
                                       obtain ⟨ji82, hji82⟩ : ∃ j_ : Int, (wrap64 (x209_7 + x12_3)) = j_ := ⟨_, rfl⟩
                                       replace H : (if 0 ≤ (ji82) then (if (ji82) < (x8_7.length : Int) then (impl_divideDigits.l4 k7 (l1.length : Int) x7_1 (x8_7.set ((ji82) : Int).toNat ((IntKind.u64.wrap (x23_7 + (IntKind.u64.wrap ((IntKind.u64.wrap (rd x8_7 (ji82))) + (IntKind.u64.wrap (rd y177 x209_7)))))) % 4294967296)) y177 x10_3 x11_16 x12_3 (IntKind.u64.wrap (x14_47 - 1)) ((IntKind.u64.wrap (x23_7 + (IntKind.u64.wrap ((IntKind.u64.wrap (rd x8_7 (ji82))) + (IntKind.u64.wrap (rd y177 x209_7)))))) / 4294967296) y177 (y177.length : Int) (wrap64 (x209_7 + 1))) else (none)) else (none)) = some (r1, r2) := by first | (rw [hji82] at H; exact H) | (simp only [hji82] at H ⊢; exact H)
                                       have hji82w : (IntKind.i64.wrap (x209_7 + x12_3)) = ji82 := (i64_w _).trans hji82
                                       by_cases c83 : 0 ≤ (ji82)
                                       ·rw [if_pos c83] at H
                                        have c83b0 : decide (0 ≤ (ji82)) = true := decide_eq_true c83
                                        clear c83
                                        by_cases c84 : (ji82) < (x8_7.length : Int)
                                        ·rw [if_pos c84] at H
                                         have c84b0 : decide ((ji82) < (x8_7.length : Int)) = true := decide_eq_true c84
                                         clear c84
                                         obtain ⟨y199, hy199⟩ : ∃ y_ : List Int, y_ = (x8_7.set ((ji82) : Int).toNat ((IntKind.u64.wrap (x23_7 + (IntKind.u64.wrap ((IntKind.u64.wrap (rd x8_7 (ji82))) + (IntKind.u64.wrap (rd y177 x209_7)))))) % 4294967296)) := ⟨_, rfl⟩
                                         replace H : (impl_divideDigits.l4 k7 (l1.length : Int) x7_1 y199 y177 x10_3 x11_16 x12_3 (IntKind.u64.wrap (x14_47 - 1)) ((IntKind.u64.wrap (x23_7 + (IntKind.u64.wrap ((IntKind.u64.wrap (rd x8_7 (ji82))) + (IntKind.u64.wrap (rd y177 x209_7)))))) / 4294967296) y177 (y177.length : Int) (wrap64 (x209_7 + 1))) = some (r1, r2) := by first | (rw [hy199]; with_reducible exact H) | (have H2_ := (Option.bind_some _ _).symm.trans H; rw [hy199]; with_reducible exact H2_) | (have H2_ := (Option.bind_some _ _).symm.trans H; with_reducible exact H2_) | with_reducible exact H | (rw [hy199]; exact H) | exact H
                                         have Ny199 := Aside0.mk hy199
                                         clear hy199
                                         as_aux_lemma =>
                                          have H' := Aside0.mk H
                                          clear H
                                          have p197 : 0 ≤ (x209_7 : Int) := of_decide_eq_true (by first | (with_reducible assumption) | assumption)
                                          have q197 : x209_7 < (y177.length : Int) := of_decide_eq_true (by first | (with_reducible assumption) | assumption)
                                          obtain ⟨ad197, e197, hx197_0⟩ := Kd.at_int (Kd.R_reads' HO_207.out).2.2 x209_7 p197 q197
                                          obtain rfl : ad186 = ad197 := (by injection e197)
                                          replace p197 := eq_true p197
                                          replace q197 := eq_true q197
                                          have p198 : 0 ≤ ((ji82) : Int) := of_decide_eq_true (by first | (with_reducible assumption) | assumption)
                                          have q198 : (ji82) < (x8_7.length : Int) := of_decide_eq_true (by first | (with_reducible assumption) | assumption)
                                          obtain ⟨ad198, e198, hx198_0⟩ := Kd.at_int (Kd.R_reads' HO_8.out).2.2 (ji82) p198 q198
                                          obtain rfl : (⟨go75, 0, none⟩ : Addr) = ad198 := (by injection e198)
                                          (first | simp only [add_plain] at hx198_0 | simp only [add_at] at hx198_0 | simp only [Addr.add, Nat.zero_add] at hx198_0 | skip)
                                          replace p198 := eq_true p198
                                          replace q198 := eq_true q198
                                          have p85 : 0 ≤ ((ji82) : Int) := of_decide_eq_true (by first | (with_reducible assumption) | assumption)
                                          have q85 : ((ji82) : Int) < ((x8_7.length : Int) : Int) := of_decide_eq_true (by first | (with_reducible assumption) | assumption)
                                          obtain ⟨hx85_0, hf85_0⟩ := Kd.R_celln 0 HO_8.out ((ji82) : Int) p85 q85
                                          replace p85 := eq_true p85
                                          replace q85 := eq_true q85
                                          have HP86 := Kd.R_putg HO_8.out ((ji82) : Int) ((IntKind.u64.wrap (x23_7 + (IntKind.u64.wrap ((IntKind.u64.wrap (rd x8_7 (ji82))) + (IntKind.u64.wrap (rd y177 x209_7)))))) % 4294967296)
                                          go_wp2_with (first | ((with_reducible refine gate_store (t := 85) (p := 232) rfl ?_); refine store_event (t := 85) (p := 232) (v := ?vo_w87) (w1 := (wr.setCell ⟨go75, ((ji82) : Int).toNat, none⟩ (.int .u32 ((IntKind.u64.wrap (x23_7 + (IntKind.u64.wrap ((IntKind.u64.wrap (rd x8_7 (ji82))) + (IntKind.u64.wrap (rd y177 x209_7)))))) % 4294967296)))) ?hg ?ho ?hn ?hr ?_; (case ho => rfl); (case hg => rfl); (case hn => rfl); (case hr => first | (go_simp; done) | (go_simp; rfl)); intro w87 hw; have hg : wr.grownBy w87 (some go75) := (by rw [hw]; exact HP86.2); have hp_ : Kd.R (Kd.int .u32) 85 w87 w.heap.size (fun k_ => some k_ ≠ (.slice (some ad186) y177.length co21 : Value).ownBlock ∧ some k_ ≠ (v181 : Value).ownBlock ∧ some k_ ≠ (.slice (some ad186) y177.length co21 : Value).ownBlock) (.slice (some ⟨go75, 0, none⟩) x8_7.length co42) y199 := (by rw [hw, Ny199.out]; exact HP86.1); clear HP86; have n0_ := Aside0.mk (hp_); have n1_ := Aside0.mk (Kd.R_after (v := (.slice (some ⟨go75, 0, none⟩) x8_7.length co42)) (v1 := (.slice (some ⟨go75, 0, none⟩) x8_7.length co42)) (ok := (fun k_ => some k_ ≠ (v181 : Value).ownBlock)) (by (with_reducible repeat (first | apply Kd.R_alloc | apply Kd.R_drewN | apply Kd.R_drew)); (first | exact Kd.R_mono HO_9.out (fun _ hk => ⟨hk.2, hk.1⟩) | exact Kd.R_mono HO_9.out (fun _ hk => by simp only [own_len] at hk ⊢; exact ⟨hk.2, hk.1⟩))) hg (.inl rfl)); have n2_ := Aside0.mk (Kd.R_after (v := (.slice (some ⟨go75, 0, none⟩) x8_7.length co42)) (v1 := (.slice (some ⟨go75, 0, none⟩) x8_7.length co42)) (ok := (fun k_ => some k_ ≠ (.slice (some ad186) y177.length co21 : Value).ownBlock ∧ some k_ ≠ (.slice (some ad186) y177.length co21 : Value).ownBlock)) (by (with_reducible repeat (first | apply Kd.R_alloc | apply Kd.R_drewN | apply Kd.R_drew)); exact Kd.R_mono HO_10.out (fun _ hk => ⟨⟨hk.2.1, hk.2.2⟩, hk.1⟩)) hg (.inl rfl)); have n3_ := Aside0.mk (Kd.R_after (v := (.slice (some ⟨go75, 0, none⟩) x8_7.length co42)) (v1 := (.slice (some ⟨go75, 0, none⟩) x8_7.length co42)) (ok := (fun k_ => some k_ ≠ (v181 : Value).ownBlock)) (by (with_reducible repeat (first | apply Kd.R_alloc | apply Kd.R_drewN | apply Kd.R_drew)); (first | exact Kd.R_mono HO_207.out (fun _ hk => ⟨hk.2, hk.1⟩) | exact Kd.R_mono HO_207.out (fun _ hk => by simp only [own_len] at hk ⊢; exact ⟨hk.2, hk.1⟩))) hg (.inl rfl)); have n4_ := Aside0.mk ((by rw [hw]; exact below_set (HB.out) GB75.out : Below w.heap.size w w87)); clear HO_8; clear HO_9; clear HO_10; clear HO_207; clear HB; have HO_8 := n0_; have HO_9 := n1_; have HO_10 := n2_; have HO_207 := n3_; have HB := n4_; clear n0_ n1_ n2_ n3_ n4_; clear hg hw hp_))
                                          (try simp only [← hl8_7])
                                          go_roundg k7
                                          case measure => have := HK1.out; have := HJ16.out; have := HK3.out; have := HJ39.out; have := HJ47.out; have := HK6.out; have := HK7.out; omega
                                          case rel => exact ⟨(y199), ((IntKind.u64.wrap (x23_7 + (IntKind.u64.wrap ((IntKind.u64.wrap (rd x8_7 (ji82))) + (IntKind.u64.wrap (rd y177 x209_7)))))) / 4294967296), (wrap64 (x209_7 + 1)), (by first | rfl | (simp; done) | (simp only [← hji82] <;> (first | rfl | simp)) | (simp [*]; done)), (by first | rfl | (simp; done) | (simp [*]; done)), H', ⟨by have := HK1.out; have := HJ16.out; have := HK3.out; have := HJ39.out; have := HJ47.out; have := HK6.out; have := HK7.out; omega⟩, ⟨by (try simp only [hl8_6]); (try simp only [hl8_7]); (with_reducible repeat (first | apply Kd.R_alloc | apply Kd.R_drewN | apply Kd.R_drew)); exact HO_8.out⟩, ⟨by (try simp only [hl8_6]); (try simp only [hl8_7]); (with_reducible repeat (first | apply Kd.R_alloc | apply Kd.R_drewN | apply Kd.R_drew)); (first | exact Kd.R_mono HO_9.out (fun _ hk => ⟨hk.2, hk.1⟩) | exact Kd.R_mono HO_9.out (fun _ hk => by simp only [own_len] at hk ⊢; exact ⟨hk.2, hk.1⟩))⟩, ⟨by (try simp only [hl8_6]); (try simp only [hl8_7]); (with_reducible repeat (first | apply Kd.R_alloc | apply Kd.R_drewN | apply Kd.R_drew)); exact Kd.R_mono HO_10.out (fun _ hk => ⟨hk.2, ⟨hk.1.1, hk.1.2⟩⟩)⟩, ⟨by (try simp only [hl8_6]); (try simp only [hl8_7]); (with_reducible repeat (first | apply Kd.R_alloc | apply Kd.R_drewN | apply Kd.R_drew)); (first | exact Kd.R_mono HO_207.out (fun _ hk => ⟨hk.2, hk.1⟩) | exact Kd.R_mono HO_207.out (fun _ hk => by simp only [own_len] at hk ⊢; exact ⟨hk.2, hk.1⟩))⟩, ⟨by repeat (first | (with_reducible first | exact HB.out | apply below_alloc | apply pw_below_drewN | apply below_drew1) | exact HB.out)⟩⟩
                                        ·rw [if_neg c84] at H
                                         exact absurd H (by simp)
                                       ·rw [if_neg c83] at H
                                        exact absurd H (by simp)
                                      ·rw [if_neg c81] at H
                                       exact absurd H (by simp)
                                     ·rw [if_neg c80] at H
                                      exact absurd H (by simp)
                                    ·rw [if_neg c79] at H
                                     have c79b0 : decide (x209_7 < (y177.length : Int)) = false := decide_eq_false c79
                                     try simp only [hl8_7] at c79b0
                                     clear c79
                                     obtain ⟨ji88, hji88⟩ : ∃ j_ : Int, (wrap64 (x12_3 + (l1.length : Int))) = j_ := ⟨_, rfl⟩
                                     obtain rfl : ji88 = ji72 := hji88.symm.trans hji72
                                     replace H : (if 0 ≤ (ji88) then (if (ji88) < (x8_7.length : Int) then (if 0 ≤ x12_3 then (if x12_3 < (x10_3.length : Int) then (impl_divideDigits.l1 k7 (l1.length : Int) x7_1 (x8_7.set ((ji88) : Int).toNat (((rd x8_7 (ji88)) + ((x23_7) % 4294967296)) % 4294967296)) y177 (x10_3.set (x12_3 : Int).toNat (((IntKind.u64.wrap (x14_47 - 1))) % 4294967296)) x11_16 (wrap64 (x12_3 - 1))) else (none)) else (none)) else (none)) else (none)) = some (r1, r2) := by first | (rw [hji88] at H; exact H) | (simp only [hji88] at H ⊢; exact H)
                                     have hji88w : (IntKind.i64.wrap (x12_3 + (l1.length : Int))) = ji88 := (i64_w _).trans hji88
                                     by_cases c89 : 0 ≤ (ji88)
                                     ·rw [if_pos c89] at H
                                      have c89b0 : decide (0 ≤ (ji88)) = true := decide_eq_true c89
                                      clear c89
                                      by_cases c90 : (ji88) < (x8_7.length : Int)
                                      ·rw [if_pos c90] at H
                                       have c90b0 : decide ((ji88) < (x8_7.length : Int)) = true := decide_eq_true c90
                                       clear c90
                                       obtain ⟨y201, hy201⟩ : ∃ y_ : List Int, y_ = (x8_7.set ((ji88) : Int).toNat (((rd x8_7 (ji88)) + ((x23_7) % 4294967296)) % 4294967296)) := ⟨_, rfl⟩
                                       replace H : (if 0 ≤ x12_3 then (if x12_3 < (x10_3.length : Int) then (impl_divideDigits.l1 k7 (l1.length : Int) x7_1 y201 y177 (x10_3.set (x12_3 : Int).toNat (((IntKind.u64.wrap (x14_47 - 1))) % 4294967296)) x11_16 (wrap64 (x12_3 - 1))) else (none)) else (none)) = some (r1, r2) := by first | (rw [hy201]; with_reducible exact H) | (have H2_ := (Option.bind_some _ _).symm.trans H; rw [hy201]; with_reducible exact H2_) | (have H2_ := (Option.bind_some _ _).symm.trans H; with_reducible exact H2_) | with_reducible exact H | (rw [hy201]; exact H) | exact H
                                       have Ny201 := Aside0.mk hy201
                                       clear hy201
                                       by_cases c92 : 0 ≤ x12_3
                                       ·rw [if_pos c92] at H
                                        have c92b0 : decide (0 ≤ x12_3) = true := decide_eq_true c92
                                        clear c92
                                        by_cases c93 : x12_3 < (x10_3.length : Int)
                                        ·rw [if_pos c93] at H
                                         have c93b0 : decide (x12_3 < (x10_3.length : Int)) = true := decide_eq_true c93
                                         clear c93
                                         obtain ⟨y202, hy202⟩ : ∃ y_ : List Int, y_ = (x10_3.set (x12_3 : Int).toNat (((IntKind.u64.wrap (x14_47 - 1))) % 4294967296)) := ⟨_, rfl⟩
                                         replace H : (impl_divideDigits.l1 k7 (l1.length : Int) x7_1 y201 y177 y202 x11_16 (wrap64 (x12_3 - 1))) = some (r1, r2) := by first | (rw [hy202]; with_reducible exact H) | (have H2_ := (Option.bind_some _ _).symm.trans H; rw [hy202]; with_reducible exact H2_) | (have H2_ := (Option.bind_some _ _).symm.trans H; with_reducible exact H2_) | with_reducible exact H | (rw [hy202]; exact H) | exact H
                                         have Ny202 := Aside0.mk hy202
                                         clear hy202
                                         as_aux_lemma =>
                                          have H' := Aside0.mk H
                                          clear H
                                          have p200 : 0 ≤ ((ji88) : Int) := of_decide_eq_true (by first | (with_reducible assumption) | assumption)
                                          have q200 : (ji88) < (x8_7.length : Int) := of_decide_eq_true (by first | (with_reducible assumption) | assumption)
                                          obtain ⟨ad200, e200, hx200_0⟩ := Kd.at_int (Kd.R_reads' HO_8.out).2.2 (ji88) p200 q200
                                          obtain rfl : (⟨go75, 0, none⟩ : Addr) = ad200 := (by injection e200)
                                          (first | simp only [add_plain] at hx200_0 | simp only [add_at] at hx200_0 | simp only [Addr.add, Nat.zero_add] at hx200_0 | skip)
                                          replace p200 := eq_true p200
                                          replace q200 := eq_true q200
                                          have p91 : 0 ≤ ((ji88) : Int) := of_decide_eq_true (by first | (with_reducible assumption) | assumption)
                                          have q91 : ((ji88) : Int) < ((x8_7.length : Int) : Int) := of_decide_eq_true (by first | (with_reducible assumption) | assumption)
                                          obtain ⟨hx91_0, hf91_0⟩ := Kd.R_celln 0 HO_8.out ((ji88) : Int) p91 q91
                                          replace p91 := eq_true p91
                                          replace q91 := eq_true q91
                                          have HP95 := Kd.R_putg HO_8.out ((ji88) : Int) (((rd x8_7 (ji88)) + ((x23_7) % 4294967296)) % 4294967296)
                                          go_wp2_with (first | ((with_reducible refine gate_store (t := 85) (p := 245) rfl ?_); refine store_event (t := 85) (p := 245) (v := ?vo_w96) (w1 := (wr.setCell ⟨go75, ((ji88) : Int).toNat, none⟩ (.int .u32 (((rd x8_7 (ji88)) + ((x23_7) % 4294967296)) % 4294967296)))) ?hg ?ho ?hn ?hr ?_; (case ho => rfl); (case hg => rfl); (case hn => rfl); (case hr => first | (go_simp; done) | (go_simp; rfl)); intro w96 hw; have hg : wr.grownBy w96 (some go75) := (by rw [hw]; exact HP95.2); have hp_ : Kd.R (Kd.int .u32) 85 w96 w.heap.size (fun k_ => some k_ ≠ (.slice (some ad186) y177.length co21 : Value).ownBlock ∧ some k_ ≠ (v181 : Value).ownBlock ∧ some k_ ≠ (.slice (some ad186) y177.length co21 : Value).ownBlock) (.slice (some ⟨go75, 0, none⟩) x8_7.length co42) y201 := (by rw [hw, Ny201.out]; exact HP95.1); clear HP95; have n0_ := Aside0.mk (hp_); have n1_ := Aside0.mk (Kd.R_after (v := (.slice (some ⟨go75, 0, none⟩) x8_7.length co42)) (v1 := (.slice (some ⟨go75, 0, none⟩) x8_7.length co42)) (ok := (fun k_ => some k_ ≠ (v181 : Value).ownBlock)) (by (with_reducible repeat (first | apply Kd.R_alloc | apply Kd.R_drewN | apply Kd.R_drew)); (first | exact Kd.R_mono HO_9.out (fun _ hk => ⟨hk.2, hk.1⟩) | exact Kd.R_mono HO_9.out (fun _ hk => by simp only [own_len] at hk ⊢; exact ⟨hk.2, hk.1⟩))) hg (.inl rfl)); have n2_ := Aside0.mk (Kd.R_after (v := (.slice (some ⟨go75, 0, none⟩) x8_7.length co42)) (v1 := (.slice (some ⟨go75, 0, none⟩) x8_7.length co42)) (ok := (fun k_ => some k_ ≠ (.slice (some ad186) y177.length co21 : Value).ownBlock ∧ some k_ ≠ (.slice (some ad186) y177.length co21 : Value).ownBlock)) (by (with_reducible repeat (first | apply Kd.R_alloc | apply Kd.R_drewN | apply Kd.R_drew)); exact Kd.R_mono HO_10.out (fun _ hk => ⟨⟨hk.2.1, hk.2.2⟩, hk.1⟩)) hg (.inl rfl)); have n3_ := Aside0.mk (Kd.R_after (v := (.slice (some ⟨go75, 0, none⟩) x8_7.length co42)) (v1 := (.slice (some ⟨go75, 0, none⟩) x8_7.length co42)) (ok := (fun k_ => some k_ ≠ (v181 : Value).ownBlock)) (by (with_reducible repeat (first | apply Kd.R_alloc | apply Kd.R_drewN | apply Kd.R_drew)); (first | exact Kd.R_mono HO_207.out (fun _ hk => ⟨hk.2, hk.1⟩) | exact Kd.R_mono HO_207.out (fun _ hk => by simp only [own_len] at hk ⊢; exact ⟨hk.2, hk.1⟩))) hg (.inl rfl)); have n4_ := Aside0.mk ((by rw [hw]; exact below_set (HB.out) GB75.out : Below w.heap.size w w96)); clear HO_8; clear HO_9; clear HO_10; clear HO_207; clear HB; have HO_8 := n0_; have HO_9 := n1_; have HO_10 := n2_; have HO_207 := n3_; have HB := n4_; clear n0_ n1_ n2_ n3_ n4_; clear hg hw hp_; have p94 : 0 ≤ (x12_3 : Int) := of_decide_eq_true (by first | (with_reducible assumption) | assumption); have q94 : (x12_3 : Int) < ((x10_3.length : Int) : Int) := of_decide_eq_true (by first | (with_reducible assumption) | assumption); obtain ⟨go94, co94, eo94, gb94, gl94, cl94, HG94⟩ := Kd.R_form HO_10.out (by omega); (first | cases eo94 | (injection eo94 with ea_ en_ ec_; (first | subst ea_ | (injection ea_ with ea_; subst ea_)); subst ec_; clear en_)); have GB94 := Aside0.mk gb94; have GG94 := Aside0.mk HG94; clear gb94 gl94 HG94; obtain ⟨hx94_0, hf94_0⟩ := Kd.R_celln 0 HO_10.out (x12_3 : Int) p94 q94; replace p94 := eq_true p94; replace q94 := eq_true q94; have n_ := Aside0.mk (Kd.R_mono (ok' := (fun k_ => some k_ ≠ (.slice (some ⟨go75, 0, none⟩) x8_7.length co42 : Value).ownBlock ∧ some k_ ≠ (.slice (some ad186) y177.length co21 : Value).ownBlock ∧ some k_ ≠ (.slice (some ad186) y177.length co21 : Value).ownBlock)) HO_10.out (fun k_ hk => ⟨hk.2, ⟨hk.1.1, hk.1.2⟩⟩)); clear HO_10; have HO_10 := n_; clear n_; obtain ⟨hy97_, hz97_⟩ := Kd.R_celln 0 HO_10.out (x12_3 : Int) (of_decide_eq_true (by first | (with_reducible assumption) | assumption)) (of_decide_eq_true (by first | (with_reducible assumption) | assumption)); have HP97 := Kd.R_putg HO_10.out (x12_3 : Int) (((IntKind.u64.wrap (x14_47 - 1))) % 4294967296)) | ((with_reducible refine gate_store (t := 85) (p := 250) rfl ?_); refine store_event (t := 85) (p := 250) (v := ?vo_w98) (w1 := (w96.setCell ⟨go94, (x12_3 : Int).toNat, none⟩ (.int .u32 (((IntKind.u64.wrap (x14_47 - 1))) % 4294967296)))) ?hg ?ho ?hn ?hr ?_; (case ho => rfl); (case hg => rfl); (case hn => rfl); (case hr => first | (go_simp; done) | (go_simp; rfl)); intro w98 hw; have hg : w96.grownBy w98 (some go94) := (by rw [hw]; exact HP97.2); have hp_ : Kd.R (Kd.int .u32) 85 w98 w.heap.size (fun k_ => some k_ ≠ (.slice (some ⟨go75, 0, none⟩) x8_7.length co42 : Value).ownBlock ∧ some k_ ≠ (.slice (some ad186) y177.length co21 : Value).ownBlock ∧ some k_ ≠ (.slice (some ad186) y177.length co21 : Value).ownBlock) (.slice (some ⟨go94, 0, none⟩) x10_3.length co94) y202 := (by rw [hw, Ny202.out]; exact HP97.1); clear HP97; have n0_ := Aside0.mk (Kd.R_after (v := (.slice (some ⟨go94, 0, none⟩) x10_3.length co94)) (v1 := (.slice (some ⟨go94, 0, none⟩) x10_3.length co94)) (ok := (fun k_ => some k_ ≠ (.slice (some ad186) y177.length co21 : Value).ownBlock ∧ some k_ ≠ (.slice (some ad186) y177.length co21 : Value).ownBlock)) (by (with_reducible repeat (first | apply Kd.R_alloc | apply Kd.R_drewN | apply Kd.R_drew)); exact Kd.R_mono HO_8.out (fun _ hk => ⟨⟨hk.1, hk.2.2⟩, hk.2.1⟩)) hg (.inl rfl)); have n1_ := Aside0.mk (Kd.R_after (v := (.slice (some ⟨go94, 0, none⟩) x10_3.length co94)) (v1 := (.slice (some ⟨go94, 0, none⟩) x10_3.length co94)) (ok := (fun k_ => some k_ ≠ (.slice (some ⟨go75, 0, none⟩) x8_7.length co42 : Value).ownBlock)) (by (with_reducible repeat (first | apply Kd.R_alloc | apply Kd.R_drewN | apply Kd.R_drew)); (first | exact Kd.R_mono HO_9.out (fun _ hk => ⟨hk.2, hk.1⟩) | exact Kd.R_mono HO_9.out (fun _ hk => by simp only [own_len] at hk ⊢; exact ⟨hk.2, hk.1⟩))) hg (.inl rfl)); have n2_ := Aside0.mk (hp_); have n3_ := Aside0.mk (Kd.R_after (v := (.slice (some ⟨go94, 0, none⟩) x10_3.length co94)) (v1 := (.slice (some ⟨go94, 0, none⟩) x10_3.length co94)) (ok := (fun k_ => some k_ ≠ (.slice (some ⟨go75, 0, none⟩) x8_7.length co42 : Value).ownBlock)) (by (with_reducible repeat (first | apply Kd.R_alloc | apply Kd.R_drewN | apply Kd.R_drew)); (first | exact Kd.R_mono HO_207.out (fun _ hk => ⟨hk.2, hk.1⟩) | exact Kd.R_mono HO_207.out (fun _ hk => by simp only [own_len] at hk ⊢; exact ⟨hk.2, hk.1⟩))) hg (.inl rfl)); have n4_ := Aside0.mk ((by rw [hw]; exact below_set (HB.out) GB94.out : Below w.heap.size w w98)); clear HO_8; clear HO_9; clear HO_10; clear HO_207; clear HB; have HO_8 := n0_; have HO_9 := n1_; have HO_10 := n2_; have HO_207 := n3_; have HB := n4_; clear n0_ n1_ n2_ n3_ n4_; clear hg hw hp_))
                                          (try simp only [← hl8_6, ← hl8_7])
                                          go_roundg k7
                                          case measure => have := HK1.out; have := HJ16.out; have := HK3.out; have := HJ39.out; have := HJ47.out; have := HK6.out; have := HK7.out; omega
                                          case rel => exact ⟨(y201), (y202), (wrap64 (x12_3 - 1)), (by first | rfl | (simp; done) | (simp [*]; done)), H', ⟨by have := HK1.out; have := HJ16.out; have := HK3.out; have := HJ39.out; have := HJ47.out; have := HK6.out; have := HK7.out; omega⟩, ⟨by (try simp only [hl8_6]); (try simp only [hl8_7]); (with_reducible repeat (first | apply Kd.R_alloc | apply Kd.R_drewN | apply Kd.R_drew)); (first | exact Kd.R_mono HO_8.out (fun _ hk => ⟨hk.1.1, hk.2⟩) | exact Kd.R_mono HO_8.out (fun _ hk => by simp only [own_len] at hk ⊢; exact ⟨hk.1.1, hk.2⟩))⟩, ⟨by (try simp only [hl8_6]); (try simp only [hl8_7]); (with_reducible repeat (first | apply Kd.R_alloc | apply Kd.R_drewN | apply Kd.R_drew)); exact HO_9.out⟩, ⟨by (try simp only [hl8_6]); (try simp only [hl8_7]); (with_reducible repeat (first | apply Kd.R_alloc | apply Kd.R_drewN | apply Kd.R_drew)); (first | exact Kd.R_mono HO_10.out (fun _ hk => ⟨hk.1, hk.2.1⟩) | exact Kd.R_mono HO_10.out (fun _ hk => by simp only [own_len] at hk ⊢; exact ⟨hk.1, hk.2.1⟩))⟩, ⟨by repeat (first | (with_reducible first | exact HB.out | apply below_alloc | apply pw_below_drewN | apply below_drew1) | exact HB.out)⟩⟩
                                        ·rw [if_neg c93] at H
                                         exact absurd H (by simp)
                                       ·rw [if_neg c92] at H
                                        exact absurd H (by simp)
                                      ·rw [if_neg c90] at H
                                       exact absurd H (by simp)
                                     ·rw [if_neg c89] at H
                                      exact absurd H (by simp)
                                 ·rw [if_neg c76] at H
                                  have c76b0 : decide ((IntKind.u64.wrap (rd x8_6 (ji72))) < x17_6) = false := decide_eq_false c76
                                  clear c76
                                  by_cases c99 : 0 ≤ x12_3
                                  ·rw [if_pos c99] at H
                                   have c99b0 : decide (0 ≤ x12_3) = true := decide_eq_true c99
                                   clear c99
                                   by_cases c100 : x12_3 < (x10_3.length : Int)
                                   ·rw [if_pos c100] at H
                                    have c100b0 : decide (x12_3 < (x10_3.length : Int)) = true := decide_eq_true c100
                                    clear c100
                                    obtain ⟨y203, hy203⟩ : ∃ y_ : List Int, y_ = (x10_3.set (x12_3 : Int).toNat ((x14_47) % 4294967296)) := ⟨_, rfl⟩
                                    replace H : (impl_divideDigits.l1 k6 (l1.length : Int) x7_1 y196 y177 y203 x11_16 (wrap64 (x12_3 - 1))) = some (r1, r2) := by first | (rw [hy203]; with_reducible exact H) | (have H2_ := (Option.bind_some _ _).symm.trans H; rw [hy203]; with_reducible exact H2_) | (have H2_ := (Option.bind_some _ _).symm.trans H; with_reducible exact H2_) | with_reducible exact H | (rw [hy203]; exact H) | exact H
                                    have Ny203 := Aside0.mk hy203
                                    clear hy203
                                    as_aux_lemma =>
                                     have H' := Aside0.mk H
                                     clear H
                                     have p194 : 0 ≤ ((ji72) : Int) := of_decide_eq_true (by first | (with_reducible assumption) | assumption)
                                     have q194 : (ji72) < (x8_6.length : Int) := of_decide_eq_true (by first | (with_reducible assumption) | assumption)
                                     obtain ⟨ad194, e194, hx194_0⟩ := Kd.at_int (Kd.R_reads' HO_8.out).2.2 (ji72) p194 q194
                                     obtain rfl : ad184 = ad194 := (by injection e194)
                                     replace p194 := eq_true p194
                                     replace q194 := eq_true q194
                                     have p195 : 0 ≤ ((ji72) : Int) := of_decide_eq_true (by first | (with_reducible assumption) | assumption)
                                     have q195 : (ji72) < (x8_6.length : Int) := of_decide_eq_true (by first | (with_reducible assumption) | assumption)
                                     obtain ⟨ad195, e195, hx195_0⟩ := Kd.at_int (Kd.R_reads' HO_8.out).2.2 (ji72) p195 q195
                                     obtain rfl : ad184 = ad195 := (by injection e195)
                                     replace p195 := eq_true p195
                                     replace q195 := eq_true q195
                                     have p75 : 0 ≤ ((ji72) : Int) := of_decide_eq_true (by first | (with_reducible assumption) | assumption)
                                     have q75 : ((ji72) : Int) < ((x8_6.length : Int) : Int) := of_decide_eq_true (by first | (with_reducible assumption) | assumption)
                                     obtain ⟨go75, co75, eo75, gb75, gl75, cl75, HG75⟩ := Kd.R_form HO_8.out (by omega)
                                     (first | cases eo75 | (injection eo75 with ea_ en_ ec_; (first | subst ea_ | (injection ea_ with ea_; subst ea_)); subst ec_; clear en_))
                                     have GB75 := Aside0.mk gb75
                                     have GG75 := Aside0.mk HG75
                                     clear gb75 gl75 HG75
                                     (first | simp only [add_plain] at hx194_0 | skip)
                                     (first | simp only [add_plain] at hx195_0 | skip)
                                     obtain ⟨hx75_0, hf75_0⟩ := Kd.R_celln 0 HO_8.out ((ji72) : Int) p75 q75
                                     replace p75 := eq_true p75
                                     replace q75 := eq_true q75
                                     have HP102 := Kd.R_putg HO_8.out ((ji72) : Int) (((rd x8_6 (ji72)) - ((x17_6) % 4294967296)) % 4294967296)
                                     go_wp2_with (first | ((with_reducible refine gate_store (t := 85) (p := 203) rfl ?_); refine store_event (t := 85) (p := 203) (v := ?vo_w103) (w1 := (wr.setCell ⟨go75, ((ji72) : Int).toNat, none⟩ (.int .u32 (((rd x8_6 (ji72)) - ((x17_6) % 4294967296)) % 4294967296)))) ?hg ?ho ?hn ?hr ?_; (case ho => rfl); (case hg => rfl); (case hn => rfl); (case hr => first | (go_simp; done) | (go_simp; rfl)); intro w103 hw; have hg : wr.grownBy w103 (some go75) := (by rw [hw]; exact HP102.2); have hp_ : Kd.R (Kd.int .u32) 85 w103 w.heap.size (fun k_ => some k_ ≠ (.slice (some ad186) y177.length co21 : Value).ownBlock ∧ some k_ ≠ (v181 : Value).ownBlock ∧ some k_ ≠ (.slice (some ad186) y177.length co21 : Value).ownBlock) (.slice (some ⟨go75, 0, none⟩) x8_6.length co42) y196 := (by rw [hw, Ny196.out]; exact HP102.1); clear HP102; have n0_ := Aside0.mk (hp_); have n1_ := Aside0.mk (Kd.R_after (v := (.slice (some ⟨go75, 0, none⟩) x8_6.length co42)) (v1 := (.slice (some ⟨go75, 0, none⟩) x8_6.length co42)) (ok := (fun k_ => some k_ ≠ (v181 : Value).ownBlock)) (by (with_reducible repeat (first | apply Kd.R_alloc | apply Kd.R_drewN | apply Kd.R_drew)); (first | exact Kd.R_mono HO_9.out (fun _ hk => ⟨hk.2, hk.1⟩) | exact Kd.R_mono HO_9.out (fun _ hk => by simp only [own_len] at hk ⊢; exact ⟨hk.2, hk.1⟩))) hg (.inl rfl)); have n2_ := Aside0.mk (Kd.R_after (v := (.slice (some ⟨go75, 0, none⟩) x8_6.length co42)) (v1 := (.slice (some ⟨go75, 0, none⟩) x8_6.length co42)) (ok := (fun k_ => some k_ ≠ (.slice (some ad186) y177.length co21 : Value).ownBlock ∧ some k_ ≠ (.slice (some ad186) y177.length co21 : Value).ownBlock)) (by (with_reducible repeat (first | apply Kd.R_alloc | apply Kd.R_drewN | apply Kd.R_drew)); exact Kd.R_mono HO_10.out (fun _ hk => ⟨⟨hk.2.1, hk.2.2⟩, hk.1⟩)) hg (.inl rfl)); have n3_ := Aside0.mk (Kd.R_after (v := (.slice (some ⟨go75, 0, none⟩) x8_6.length co42)) (v1 := (.slice (some ⟨go75, 0, none⟩) x8_6.length co42)) (ok := (fun k_ => some k_ ≠ (v181 : Value).ownBlock)) (by (with_reducible repeat (first | apply Kd.R_alloc | apply Kd.R_drewN | apply Kd.R_drew)); (first | exact Kd.R_mono HO_145.out (fun _ hk => ⟨hk.2, hk.1⟩) | exact Kd.R_mono HO_145.out (fun _ hk => by simp only [own_len] at hk ⊢; exact ⟨hk.2, hk.1⟩))) hg (.inl rfl)); have n4_ := Aside0.mk ((by rw [hw]; exact below_set (HB.out) GB75.out : Below w.heap.size w w103)); clear HO_8; clear HO_9; clear HO_10; clear HO_145; clear HB; have HO_8 := n0_; have HO_9 := n1_; have HO_10 := n2_; have HO_145 := n3_; have HB := n4_; clear n0_ n1_ n2_ n3_ n4_; clear hg hw hp_; have p101 : 0 ≤ (x12_3 : Int) := of_decide_eq_true (by first | (with_reducible assumption) | assumption); have q101 : (x12_3 : Int) < ((x10_3.length : Int) : Int) := of_decide_eq_true (by first | (with_reducible assumption) | assumption); obtain ⟨go101, co101, eo101, gb101, gl101, cl101, HG101⟩ := Kd.R_form HO_10.out (by omega); (first | cases eo101 | (injection eo101 with ea_ en_ ec_; (first | subst ea_ | (injection ea_ with ea_; subst ea_)); subst ec_; clear en_)); have GB101 := Aside0.mk gb101; have GG101 := Aside0.mk HG101; clear gb101 gl101 HG101; obtain ⟨hx101_0, hf101_0⟩ := Kd.R_celln 0 HO_10.out (x12_3 : Int) p101 q101; replace p101 := eq_true p101; replace q101 := eq_true q101; have n_ := Aside0.mk (Kd.R_mono (ok' := (fun k_ => some k_ ≠ (.slice (some ⟨go75, 0, none⟩) x8_6.length co42 : Value).ownBlock ∧ some k_ ≠ (.slice (some ad186) y177.length co21 : Value).ownBlock ∧ some k_ ≠ (.slice (some ad186) y177.length co21 : Value).ownBlock)) HO_10.out (fun k_ hk => ⟨hk.2, ⟨hk.1.1, hk.1.2⟩⟩)); clear HO_10; have HO_10 := n_; clear n_; obtain ⟨hy104_, hz104_⟩ := Kd.R_celln 0 HO_10.out (x12_3 : Int) (of_decide_eq_true (by first | (with_reducible assumption) | assumption)) (of_decide_eq_true (by first | (with_reducible assumption) | assumption)); have HP104 := Kd.R_putg HO_10.out (x12_3 : Int) ((x14_47) % 4294967296)) | ((with_reducible refine gate_store (t := 85) (p := 250) rfl ?_); refine store_event (t := 85) (p := 250) (v := ?vo_w105) (w1 := (w103.setCell ⟨go101, (x12_3 : Int).toNat, none⟩ (.int .u32 ((x14_47) % 4294967296)))) ?hg ?ho ?hn ?hr ?_; (case ho => rfl); (case hg => rfl); (case hn => rfl); (case hr => first | (go_simp; done) | (go_simp; rfl)); intro w105 hw; have hg : w103.grownBy w105 (some go101) := (by rw [hw]; exact HP104.2); have hp_ : Kd.R (Kd.int .u32) 85 w105 w.heap.size (fun k_ => some k_ ≠ (.slice (some ⟨go75, 0, none⟩) x8_6.length co42 : Value).ownBlock ∧ some k_ ≠ (.slice (some ad186) y177.length co21 : Value).ownBlock ∧ some k_ ≠ (.slice (some ad186) y177.length co21 : Value).ownBlock) (.slice (some ⟨go101, 0, none⟩) x10_3.length co101) y203 := (by rw [hw, Ny203.out]; exact HP104.1); clear HP104; have n0_ := Aside0.mk (Kd.R_after (v := (.slice (some ⟨go101, 0, none⟩) x10_3.length co101)) (v1 := (.slice (some ⟨go101, 0, none⟩) x10_3.length co101)) (ok := (fun k_ => some k_ ≠ (.slice (some ad186) y177.length co21 : Value).ownBlock ∧ some k_ ≠ (.slice (some ad186) y177.length co21 : Value).ownBlock)) (by (with_reducible repeat (first | apply Kd.R_alloc | apply Kd.R_drewN | apply Kd.R_drew)); exact Kd.R_mono HO_8.out (fun _ hk => ⟨⟨hk.1, hk.2.2⟩, hk.2.1⟩)) hg (.inl rfl)); have n1_ := Aside0.mk (Kd.R_after (v := (.slice (some ⟨go101, 0, none⟩) x10_3.length co101)) (v1 := (.slice (some ⟨go101, 0, none⟩) x10_3.length co101)) (ok := (fun k_ => some k_ ≠ (.slice (some ⟨go75, 0, none⟩) x8_6.length co42 : Value).ownBlock)) (by (with_reducible repeat (first | apply Kd.R_alloc | apply Kd.R_drewN | apply Kd.R_drew)); (first | exact Kd.R_mono HO_9.out (fun _ hk => ⟨hk.2, hk.1⟩) | exact Kd.R_mono HO_9.out (fun _ hk => by simp only [own_len] at hk ⊢; exact ⟨hk.2, hk.1⟩))) hg (.inl rfl)); have n2_ := Aside0.mk (hp_); have n3_ := Aside0.mk (Kd.R_after (v := (.slice (some ⟨go101, 0, none⟩) x10_3.length co101)) (v1 := (.slice (some ⟨go101, 0, none⟩) x10_3.length co101)) (ok := (fun k_ => some k_ ≠ (.slice (some ⟨go75, 0, none⟩) x8_6.length co42 : Value).ownBlock)) (by (with_reducible repeat (first | apply Kd.R_alloc | apply Kd.R_drewN | apply Kd.R_drew)); (first | exact Kd.R_mono HO_145.out (fun _ hk => ⟨hk.2, hk.1⟩) | exact Kd.R_mono HO_145.out (fun _ hk => by simp only [own_len] at hk ⊢; exact ⟨hk.2, hk.1⟩))) hg (.inl rfl)); have n4_ := Aside0.mk ((by rw [hw]; exact below_set (HB.out) GB101.out : Below w.heap.size w w105)); clear HO_8; clear HO_9; clear HO_10; clear HO_145; clear HB; have HO_8 := n0_; have HO_9 := n1_; have HO_10 := n2_; have HO_145 := n3_; have HB := n4_; clear n0_ n1_ n2_ n3_ n4_; clear hg hw hp_))
                                     (try simp only [← hl8_6])
                                     go_roundg k6
                                     case measure => have := HK1.out; have := HJ16.out; have := HK3.out; have := HJ39.out; have := HJ47.out; have := HK6.out; omega
                                     case rel => exact ⟨(y196), (y203), (wrap64 (x12_3 - 1)), (by first | rfl | (simp; done) | (simp [*]; done)), H', ⟨by have := HK1.out; have := HJ16.out; have := HK3.out; have := HJ39.out; have := HJ47.out; have := HK6.out; omega⟩, ⟨by (try simp only [hl8_6]); (with_reducible repeat (first | apply Kd.R_alloc | apply Kd.R_drewN | apply Kd.R_drew)); (first | exact Kd.R_mono HO_8.out (fun _ hk => ⟨hk.1.1, hk.2⟩) | exact Kd.R_mono HO_8.out (fun _ hk => by simp only [own_len] at hk ⊢; exact ⟨hk.1.1, hk.2⟩))⟩, ⟨by (try simp only [hl8_6]); (with_reducible repeat (first | apply Kd.R_alloc | apply Kd.R_drewN | apply Kd.R_drew)); exact HO_9.out⟩, ⟨by (try simp only [hl8_6]); (with_reducible repeat (first | apply Kd.R_alloc | apply Kd.R_drewN | apply Kd.R_drew)); (first | exact Kd.R_mono HO_10.out (fun _ hk => ⟨hk.1, hk.2.1⟩) | exact Kd.R_mono HO_10.out (fun _ hk => by simp only [own_len] at hk ⊢; exact ⟨hk.1, hk.2.1⟩))⟩, ⟨by repeat (first | (with_reducible first | exact HB.out | apply below_alloc | apply pw_below_drewN | apply below_drew1) | exact HB.out)⟩⟩
                                   ·rw [if_neg c100] at H
                                    exact absurd H (by simp)
                                  ·rw [if_neg c99] at H
                                   exact absurd H (by simp)
                                ·rw [if_neg c74] at H
                                 exact absurd H (by simp)
                               ·rw [if_neg c73] at H
                                exact absurd H (by simp)
                      ·rw [if_neg c38] at H
                       exact absurd H (by simp)
                     ·rw [if_neg c37] at H
                      exact absurd H (by simp)
                    ·rw [if_neg c35] at H
                     exact absurd H (by simp)
                   ·rw [if_neg c34] at H
                    exact absurd H (by simp)
                  ·rw [if_neg c32] at H
                   exact absurd H (by simp)
                 ·rw [if_neg c31] at H
                  exact absurd H (by simp)
                ·rw [if_neg c29] at H
                 have c29b0 : decide (0 ≤ x12_3) = false := decide_eq_false c29
                 clear c29
                 by_cases c106 : 0 ≤ (l1.length : Int)
                 ·rw [if_pos c106] at H
                  have c106b0 := eq_true c106
                  have c106b1 : decide (0 ≤ (l1.length : Int)) = true := decide_eq_true c106
                  clear c106
                  by_cases c107 : (l1.length : Int) ≤ (x8_3.length : Int)
                  ·rw [if_pos c107] at H
                   have c107b0 := eq_true c107
                   have c107b1 : decide ((l1.length : Int) ≤ (x8_3.length : Int)) = true := decide_eq_true c107
                   clear c107
                   obtain ⟨y204, hy204⟩ : ∃ y_ : List Int, y_ = (x8_3.take ((l1.length : Int) : Int).toNat) := ⟨_, rfl⟩
                   replace H : (impl_divideDigits.l5 k3 (l1.length : Int) x7_1 x10_3 y204 (y204.length : Int) 0) = some (r1, r2) := by first | (rw [hy204]; with_reducible exact H) | (have H2_ := (Option.bind_some _ _).symm.trans H; rw [hy204]; with_reducible exact H2_) | (have H2_ := (Option.bind_some _ _).symm.trans H; with_reducible exact H2_) | with_reducible exact H | (rw [hy204]; exact H) | exact H
                   have Ny204 := Aside0.mk hy204
                   clear hy204
                   have H' := Aside0.mk H
                   clear H
                   obtain ⟨Ao108, co108, eo108⟩ := Kd.R_slice HO_8.out
                   subst eo108
                   have q109 : ((l1.length : Int) : Int) ≤ ((x8_3.length : Int) : Int) := of_decide_eq_true (by first | (with_reducible assumption) | assumption)
                   obtain ⟨i0109, hi0109, _, hsz109, _⟩ := info_parts info85
                   have hcut109 := cut_to (P := Tryz.prog) 46 85 .i64 Tryz.underlying46 hi0109 Ao108 x8_3.length co108 (l1.length : Int) (of_decide_eq_true (by first | (with_reducible assumption) | assumption)) q109 (Kd.R_reads' HO_8.out).2.1
                   have hr109 := Kd.R_take (m := ((l1.length : Int) : Int).toNat) HO_8.out (by omega)
                   have hy109 : y204.length = ((l1.length : Int) : Int).toNat := (by rw [Ny204.out, List.length_take]; omega)
                   rw [← Ny204.out] at hr109
                   rw [← hy109] at hr109 hcut109
                   clear hy109 hi0109 hsz109 HO_8
                   have HO206 := Aside0.mk hr109
                   clear hr109
                   replace q109 := eq_true q109
                   go_wp2
                   go_loopg [256] k3 (fun kq v256 w' => ∃ (x26_4 : List Int) (x256_4 : Int), v256 = .int .i64 x256_4 ∧ Aside0 (impl_divideDigits.l5 kq (l1.length : Int) x7_1 x10_3 x26_4 (y204.length : Int) x256_4 = some (r1, r2)) ∧ Aside0 (kq ≤ k3) ∧ Aside0 (Kd.R (Kd.int .u32) 85 w' w.heap.size (fun k_ => some k_ ≠ ((.slice Ao108 y204.length co108) : Value).ownBlock) v181 x10_3) ∧ Aside0 (Kd.R (Kd.int .u32) 85 w' w.heap.size (fun k_ => some k_ ≠ (v181 : Value).ownBlock) (.slice Ao108 y204.length co108) x26_4) ∧ Aside0 (Below w.heap.size w w'))
                   case atStart => exact ⟨(y204), (0), (by first | rfl | (simp; done) | (simp [*]; done)), H', ⟨Nat.le_refl _⟩, ⟨by (with_reducible repeat (first | apply Kd.R_alloc | apply Kd.R_drewN | apply Kd.R_drew)); (first | exact Kd.R_mono HO_10.out (fun _ hk => hk.1) | exact Kd.R_mono HO_10.out (fun _ hk => by simp only [own_len] at hk ⊢; exact hk.1))⟩, ⟨by (with_reducible repeat (first | apply Kd.R_alloc | apply Kd.R_drewN | apply Kd.R_drew)); (first | exact Kd.R_mono HO206.out (fun _ hk => hk.2) | exact Kd.R_mono HO206.out (fun _ hk => by simp only [own_len] at hk ⊢; exact hk.2))⟩, ⟨by repeat (first | (with_reducible first | exact HB.out | apply below_alloc | apply pw_below_drewN | apply below_drew1) | exact HB.out)⟩⟩
                   case round =>
                    clear H'
                    try clear c1
                    try clear p1
                    try clear q1
                    try clear hx1
                    try clear c2
                    try clear p2
                    try clear q2
                    try clear hx2
                    try clear c3
                    try clear c3b0
                    try clear c3b1
                    try clear c4
                    try clear c5
                    try clear c5b0
                    try clear c6
                    try clear c6b0
                    try clear p6
                    try clear q6
                    try clear hx6
                    try clear hf6
                    try clear c7
                    try clear c7b0
                    try clear c7b1
                    try clear p7
                    try clear q7
                    try clear hx7
                    try clear hf7
                    try clear c8
                    try clear p8
                    try clear q8
                    try clear hx8
                    try clear hf8
                    try clear c9
                    try clear c9b0
                    try clear p9
                    try clear q9
                    try clear hx9
                    try clear hf9
                    try clear c10
                    try clear p10
                    try clear q10
                    try clear hx10
                    try clear hf10
                    try clear c12
                    try clear c12b0
                    try clear c12b1
                    try clear c13
                    try clear c13b0
                    try clear c13b1
                    try clear c15
                    try clear c15b0
                    try clear c15b1
                    try clear c16
                    try clear c16b0
                    try clear c16b1
                    try clear p17
                    try clear q17
                    try clear hx17
                    try clear p18
                    try clear q18
                    try clear hx18
                    try clear p19
                    try clear q19
                    try clear hx19
                    try clear p20
                    try clear q20
                    try clear hx20
                    try clear q22
                    try clear c25
                    try clear c25b0
                    try clear c25b1
                    try clear c27
                    try clear c27b0
                    try clear c28
                    try clear c28b0
                    try clear c29
                    try clear c29b0
                    try clear c31
                    try clear c31b0
                    try clear c32
                    try clear c32b0
                    try clear c34
                    try clear c34b0
                    try clear c35
                    try clear c35b0
                    try clear c37
                    try clear c37b0
                    try clear c38
                    try clear c38b0
                    try clear c39
                    try clear c39b0
                    try clear c39b1
                    try clear c44
                    try clear c44b0
                    try clear c44b1
                    try clear c46
                    try clear c46b0
                    try clear c47
                    try clear c47b0
                    try clear c49
                    try clear c49b0
                    try clear c50
                    try clear c50b0
                    try clear c52
                    try clear c52b0
                    try clear c53
                    try clear c53b0
                    try clear c55
                    try clear c55b0
                    try clear c57
                    try clear c57b0
                    try clear c58
                    try clear c58b0
                    try clear c60
                    try clear c60b0
                    try clear c61
                    try clear c61b0
                    try clear c62
                    try clear c62b0
                    try clear c64
                    try clear c64b0
                    try clear p64
                    try clear c65
                    try clear c65b0
                    try clear p66
                    try clear q66
                    try clear hx66
                    try clear hf66
                    try clear c67
                    try clear c67b0
                    try clear c73
                    try clear c73b0
                    try clear c74
                    try clear c74b0
                    try clear p75
                    try clear q75
                    try clear hx75
                    try clear hf75
                    try clear c76
                    try clear c76b0
                    try clear c79
                    try clear c79b0
                    try clear c80
                    try clear c80b0
                    try clear c81
                    try clear c81b0
                    try clear c83
                    try clear c83b0
                    try clear c84
                    try clear c84b0
                    try clear p85
                    try clear q85
                    try clear hx85
                    try clear hf85
                    try clear c89
                    try clear c89b0
                    try clear c90
                    try clear c90b0
                    try clear p91
                    try clear q91
                    try clear hx91
                    try clear hf91
                    try clear c92
                    try clear c92b0
                    try clear c93
                    try clear c93b0
                    try clear p94
                    try clear q94
                    try clear hx94
                    try clear hf94
                    try clear c99
                    try clear c99b0
                    try clear c100
                    try clear c100b0
                    try clear p101
                    try clear q101
                    try clear hx101
                    try clear hf101
                    try clear c106
                    try clear c106b0
                    try clear c106b1
                    try clear c107
                    try clear c107b0
                    try clear c107b1
                    try clear q109
                    try clear hx101_0
                    try clear hx170_0
                    try clear hx183_0
                    try clear hx184_0
                    try clear hx185_0
                    try clear hx186_0
                    try clear hx187_0
                    try clear hx188_0
                    try clear hx189_0
                    try clear hx190_0
                    try clear hx191_0
                    try clear hx192_0
                    try clear hx194_0
                    try clear hx195_0
                    try clear hx197_0
                    try clear hx198_0
                    try clear hx200_0
                    try clear hx66_0
                    try clear hx75_0
                    try clear hx85_0
                    try clear hx91_0
                    try clear hx94_0
                    try clear p1
                    try clear p101
                    try clear p17
                    try clear p170
                    try clear p18
                    try clear p183
                    try clear p184
                    try clear p185
                    try clear p186
                    try clear p187
                    try clear p188
                    try clear p189
                    try clear p19
                    try clear p190
                    try clear p191
                    try clear p192
                    try clear p194
                    try clear p195
                    try clear p197
                    try clear p198
                    try clear p2
                    try clear p200
                    try clear p6
                    try clear p64
                    try clear p66
                    try clear p7
                    try clear p75
                    try clear p85
                    try clear p91
                    try clear p94
                    try clear q1
                    try clear q101
                    try clear q109
                    try clear q17
                    try clear q170
                    try clear q18
                    try clear q183
                    try clear q184
                    try clear q185
                    try clear q186
                    try clear q187
                    try clear q188
                    try clear q189
                    try clear q19
                    try clear q190
                    try clear q191
                    try clear q192
                    try clear q194
                    try clear q195
                    try clear q197
                    try clear q198
                    try clear q2
                    try clear q200
                    try clear q22
                    try clear q6
                    try clear q66
                    try clear q7
                    try clear q75
                    try clear q85
                    try clear q91
                    try clear q94
                    obtain ⟨x26_4, x256_4, rfl, HA, HK4, HO_10, HO_26, HB⟩ := hrel
                    have hl26_4 := (Kd.R_reads' HO_26.out).1
                    rw [hl26_4] at HO_26
                    (try simp only [hl26_4])
                    (try simp only [hl26_4] at HO_10)
                    cases gk with
                    | zero => exact absurd HA.out (by simp [impl_divideDigits.l5])
                    | succ k4 =>
                     have H := HA.out
                     clear HA
                     simp only [impl_divideDigits.l5] at H
                     by_cases c110 : x256_4 < (y204.length : Int)
                     ·rw [if_pos c110] at H
                      have c110b0 : decide (x256_4 < (y204.length : Int)) = true := decide_eq_true c110
                      try simp only [hl26_4] at c110b0
                      clear c110
                      by_cases c111 : (wrap64 (x256_4 + 1)) < (l1.length : Int)
                      ·rw [if_pos c111] at H
                       have c111b0 : decide ((wrap64 (x256_4 + 1)) < (l1.length : Int)) = true := decide_eq_true c111
                       clear c111
                       obtain ⟨ji112, hji112⟩ : ∃ j_ : Int, (wrap64 (x256_4 + 1)) = j_ := ⟨_, rfl⟩
                       replace H : (if 0 ≤ (ji112) then (if (ji112) < (x26_4.length : Int) then (if 0 ≤ x256_4 then (if x256_4 < (x26_4.length : Int) then (if 0 ≤ x7_1 then (impl_divideDigits.l5 k4 (l1.length : Int) x7_1 x10_3 (x26_4.set (x256_4 : Int).toNat ((shr .u64 (Go.bits .or .u64 (IntKind.u64.wrap ((IntKind.u64.wrap (rd x26_4 (ji112))) * 4294967296)) (IntKind.u64.wrap (rd x26_4 x256_4))) x7_1) % 4294967296)) (y204.length : Int) ji112) else (none)) else (none)) else (none)) else (none)) else (none)) = some (r1, r2) := by first | (rw [hji112] at H; exact H) | (simp only [hji112] at H ⊢; exact H)
                       (try rw [hji112] at c111b0)
                       have hji112w : (IntKind.i64.wrap (x256_4 + 1)) = ji112 := (i64_w _).trans hji112
                       by_cases c113 : 0 ≤ (ji112)
                       ·rw [if_pos c113] at H
                        have c113b0 : decide (0 ≤ (ji112)) = true := decide_eq_true c113
                        clear c113
                        by_cases c114 : (ji112) < (x26_4.length : Int)
                        ·rw [if_pos c114] at H
                         have c114b0 : decide ((ji112) < (x26_4.length : Int)) = true := decide_eq_true c114
                         clear c114
                         by_cases c115 : 0 ≤ x256_4
                         ·rw [if_pos c115] at H
                          have c115b0 : decide (0 ≤ x256_4) = true := decide_eq_true c115
                          clear c115
                          by_cases c116 : x256_4 < (x26_4.length : Int)
                          ·rw [if_pos c116] at H
                           have c116b0 : decide (x256_4 < (x26_4.length : Int)) = true := decide_eq_true c116
                           clear c116
                           by_cases c117 : 0 ≤ x7_1
                           ·rw [if_pos c117] at H
                            have c117b0 := eq_true c117
                            have c117b1 : decide (0 ≤ x7_1) = true := decide_eq_true c117
                            clear c117
                            obtain ⟨ji118, hji118⟩ : ∃ j_ : Int, (shr .u64 (Go.bits .or .u64 (IntKind.u64.wrap ((IntKind.u64.wrap (rd x26_4 (ji112))) * 4294967296)) (IntKind.u64.wrap (rd x26_4 x256_4))) x7_1) = j_ := ⟨_, rfl⟩
                            replace H : (impl_divideDigits.l5 k4 (l1.length : Int) x7_1 x10_3 (x26_4.set (x256_4 : Int).toNat ((ji118) % 4294967296)) (y204.length : Int) ji112) = some (r1, r2) := by first | (rw [hji118] at H; exact H) | (simp only [hji118] at H ⊢; exact H)
                            have hji118_ : ((Go.bits .or .u64 (IntKind.u64.wrap ((IntKind.u64.wrap (rd x26_4 (ji112))) * 4294967296)) (IntKind.u64.wrap (rd x26_4 x256_4))) / 2 ^ min x7_1.toNat 64) = ji118 := hji118
                            have hji118z : x7_1 ≤ 64 → ((Go.bits .or .u64 (IntKind.u64.wrap ((IntKind.u64.wrap (rd x26_4 (ji112))) * 4294967296)) (IntKind.u64.wrap (rd x26_4 x256_4))) / 2 ^ x7_1.toNat) = ji118 := shr_small hji118
                            obtain ⟨y209, hy209⟩ : ∃ y_ : List Int, y_ = (x26_4.set (x256_4 : Int).toNat ((ji118) % 4294967296)) := ⟨_, rfl⟩
                            replace H : (impl_divideDigits.l5 k4 (l1.length : Int) x7_1 x10_3 y209 (y204.length : Int) ji112) = some (r1, r2) := by first | (rw [hy209]; with_reducible exact H) | (have H2_ := (Option.bind_some _ _).symm.trans H; rw [hy209]; with_reducible exact H2_) | (have H2_ := (Option.bind_some _ _).symm.trans H; with_reducible exact H2_) | with_reducible exact H | (rw [hy209]; exact H) | exact H
                            have Ny209 := Aside0.mk hy209
                            clear hy209
                            as_aux_lemma =>
                             have H' := Aside0.mk H
                             clear H
                             have p207 : 0 ≤ ((ji112) : Int) := of_decide_eq_true (by first | (with_reducible assumption) | assumption)
                             have q207 : (ji112) < (x26_4.length : Int) := of_decide_eq_true (by first | (with_reducible assumption) | assumption)
                             obtain ⟨ad207, e207, hx207_0⟩ := Kd.at_int (Kd.R_reads' HO_26.out).2.2 (ji112) p207 q207
                             cases e207
                             replace p207 := eq_true p207
                             replace q207 := eq_true q207
                             have p208 : 0 ≤ (x256_4 : Int) := of_decide_eq_true (by first | (with_reducible assumption) | assumption)
                             have q208 : x256_4 < (x26_4.length : Int) := of_decide_eq_true (by first | (with_reducible assumption) | assumption)
                             obtain ⟨ad208, e208, hx208_0⟩ := Kd.at_int (Kd.R_reads' HO_26.out).2.2 x256_4 p208 q208
                             obtain rfl : ad207 = ad208 := (by injection e208)
                             replace p208 := eq_true p208
                             replace q208 := eq_true q208
                             have p119 : 0 ≤ (x256_4 : Int) := of_decide_eq_true (by first | (with_reducible assumption) | assumption)
                             have q119 : (x256_4 : Int) < ((x26_4.length : Int) : Int) := of_decide_eq_true (by first | (with_reducible assumption) | assumption)
                             obtain ⟨go119, co119, eo119, gb119, gl119, cl119, HG119⟩ := Kd.R_form HO_26.out (by omega)
                             (first | cases eo119 | (injection eo119 with ea_ en_ ec_; (first | subst ea_ | (injection ea_ with ea_; subst ea_)); subst ec_; clear en_))
                             have GB119 := Aside0.mk gb119
                             have GG119 := Aside0.mk HG119
                             clear gb119 gl119 HG119
                             (first | simp only [add_plain] at hx207_0 | skip)
                             (first | simp only [add_plain] at hx208_0 | skip)
                             obtain ⟨hx119_0, hf119_0⟩ := Kd.R_celln 0 HO_26.out (x256_4 : Int) p119 q119
                             replace p119 := eq_true p119
                             replace q119 := eq_true q119
                             have HP120 := Kd.R_putg HO_26.out (x256_4 : Int) ((ji118) % 4294967296)
                             go_wp2_with (first | ((with_reducible refine gate_store (t := 85) (p := 282) rfl ?_); refine store_event (t := 85) (p := 282) (v := ?vo_w121) (w1 := (wr.setCell ⟨go119, (x256_4 : Int).toNat, none⟩ (.int .u32 ((ji118) % 4294967296)))) ?hg ?ho ?hn ?hr ?_; (case ho => rfl); (case hg => rfl); (case hn => rfl); (case hr => first | (go_simp; done) | (go_simp; rfl)); intro w121 hw; have hg : wr.grownBy w121 (some go119) := (by rw [hw]; exact HP120.2); have hp_ : Kd.R (Kd.int .u32) 85 w121 w.heap.size (fun k_ => some k_ ≠ (v181 : Value).ownBlock) (.slice (some ⟨go119, 0, none⟩) x26_4.length co108) y209 := (by rw [hw, Ny209.out]; exact HP120.1); clear HP120; have n0_ := Aside0.mk (Kd.R_after (v := (.slice (some ⟨go119, 0, none⟩) x26_4.length co108)) (v1 := (.slice (some ⟨go119, 0, none⟩) x26_4.length co108)) (ok := (fun _ => True)) (by (with_reducible repeat (first | apply Kd.R_alloc | apply Kd.R_drewN | apply Kd.R_drew)); exact Kd.R_mono HO_10.out (fun _ hk => ⟨trivial, hk⟩)) hg (.inl rfl)); have n1_ := Aside0.mk (hp_); have n2_ := Aside0.mk ((by rw [hw]; exact below_set (HB.out) GB119.out : Below w.heap.size w w121)); clear HO_10; clear HO_26; clear HB; have HO_10 := n0_; have HO_26 := n1_; have HB := n2_; clear n0_ n1_ n2_; clear hg hw hp_))
                             (try simp only [← hl26_4])
                             go_roundg k4
                             case measure => have := HK1.out; have := HJ16.out; have := HK3.out; have := HK4.out; omega
                             case rel => exact ⟨(y209), (ji112), (by first | rfl | (simp; done) | (simp only [← hji112] <;> (first | rfl | simp)) | (simp [*]; done)), H', ⟨by have := HK1.out; have := HJ16.out; have := HK3.out; have := HK4.out; omega⟩, ⟨by (try simp only [hl26_4]); (with_reducible repeat (first | apply Kd.R_alloc | apply Kd.R_drewN | apply Kd.R_drew)); (first | exact Kd.R_mono HO_10.out (fun _ hk => hk.2) | exact Kd.R_mono HO_10.out (fun _ hk => by simp only [own_len] at hk ⊢; exact hk.2))⟩, ⟨by (try simp only [hl26_4]); (with_reducible repeat (first | apply Kd.R_alloc | apply Kd.R_drewN | apply Kd.R_drew)); exact HO_26.out⟩, ⟨by repeat (first | (with_reducible first | exact HB.out | apply below_alloc | apply pw_below_drewN | apply below_drew1) | exact HB.out)⟩⟩
                           ·rw [if_neg c117] at H
                            exact absurd H (by simp)
                          ·rw [if_neg c116] at H
                           exact absurd H (by simp)
                         ·rw [if_neg c115] at H
                          exact absurd H (by simp)
                        ·rw [if_neg c114] at H
                         exact absurd H (by simp)
                       ·rw [if_neg c113] at H
                        exact absurd H (by simp)
                      ·rw [if_neg c111] at H
                       have c111b0 : decide ((wrap64 (x256_4 + 1)) < (l1.length : Int)) = false := decide_eq_false c111
                       clear c111
                       by_cases c122 : 0 ≤ x256_4
                       ·rw [if_pos c122] at H
                        have c122b0 : decide (0 ≤ x256_4) = true := decide_eq_true c122
                        clear c122
                        by_cases c123 : x256_4 < (x26_4.length : Int)
                        ·rw [if_pos c123] at H
                         have c123b0 : decide (x256_4 < (x26_4.length : Int)) = true := decide_eq_true c123
                         clear c123
                         by_cases c124 : 0 ≤ x7_1
                         ·rw [if_pos c124] at H
                          have c124b0 := eq_true c124
                          have c124b1 : decide (0 ≤ x7_1) = true := decide_eq_true c124
                          clear c124
                          obtain ⟨ji125, hji125⟩ : ∃ j_ : Int, (shr .u64 (Go.bits .or .u64 0 (IntKind.u64.wrap (rd x26_4 x256_4))) x7_1) = j_ := ⟨_, rfl⟩
                          replace H : (impl_divideDigits.l5 k4 (l1.length : Int) x7_1 x10_3 (x26_4.set (x256_4 : Int).toNat ((ji125) % 4294967296)) (y204.length : Int) (wrap64 (x256_4 + 1))) = some (r1, r2) := by first | (rw [hji125] at H; exact H) | (simp only [hji125] at H ⊢; exact H)
                          have hji125_ : ((Go.bits .or .u64 0 (IntKind.u64.wrap (rd x26_4 x256_4))) / 2 ^ min x7_1.toNat 64) = ji125 := hji125
                          have hji125z : x7_1 ≤ 64 → ((Go.bits .or .u64 0 (IntKind.u64.wrap (rd x26_4 x256_4))) / 2 ^ x7_1.toNat) = ji125 := shr_small hji125
                          obtain ⟨y211, hy211⟩ : ∃ y_ : List Int, y_ = (x26_4.set (x256_4 : Int).toNat ((ji125) % 4294967296)) := ⟨_, rfl⟩
                          replace H : (impl_divideDigits.l5 k4 (l1.length : Int) x7_1 x10_3 y211 (y204.length : Int) (wrap64 (x256_4 + 1))) = some (r1, r2) := by first | (rw [hy211]; with_reducible exact H) | (have H2_ := (Option.bind_some _ _).symm.trans H; rw [hy211]; with_reducible exact H2_) | (have H2_ := (Option.bind_some _ _).symm.trans H; with_reducible exact H2_) | with_reducible exact H | (rw [hy211]; exact H) | exact H
                          have Ny211 := Aside0.mk hy211
                          clear hy211
                          as_aux_lemma =>
                           have H' := Aside0.mk H
                           clear H
                           have p210 : 0 ≤ (x256_4 : Int) := of_decide_eq_true (by first | (with_reducible assumption) | assumption)
                           have q210 : x256_4 < (x26_4.length : Int) := of_decide_eq_true (by first | (with_reducible assumption) | assumption)
                           obtain ⟨ad210, e210, hx210_0⟩ := Kd.at_int (Kd.R_reads' HO_26.out).2.2 x256_4 p210 q210
                           cases e210
                           replace p210 := eq_true p210
                           replace q210 := eq_true q210
                           have p126 : 0 ≤ (x256_4 : Int) := of_decide_eq_true (by first | (with_reducible assumption) | assumption)
                           have q126 : (x256_4 : Int) < ((x26_4.length : Int) : Int) := of_decide_eq_true (by first | (with_reducible assumption) | assumption)
                           obtain ⟨go126, co126, eo126, gb126, gl126, cl126, HG126⟩ := Kd.R_form HO_26.out (by omega)
                           (first | cases eo126 | (injection eo126 with ea_ en_ ec_; (first | subst ea_ | (injection ea_ with ea_; subst ea_)); subst ec_; clear en_))
                           have GB126 := Aside0.mk gb126
                           have GG126 := Aside0.mk HG126
                           clear gb126 gl126 HG126
                           (first | simp only [add_plain] at hx210_0 | skip)
                           obtain ⟨hx126_0, hf126_0⟩ := Kd.R_celln 0 HO_26.out (x256_4 : Int) p126 q126
                           replace p126 := eq_true p126
                           replace q126 := eq_true q126
                           have HP127 := Kd.R_putg HO_26.out (x256_4 : Int) ((ji125) % 4294967296)
                           go_wp2_with (first | ((with_reducible refine gate_store (t := 85) (p := 282) rfl ?_); refine store_event (t := 85) (p := 282) (v := ?vo_w128) (w1 := (wr.setCell ⟨go126, (x256_4 : Int).toNat, none⟩ (.int .u32 ((ji125) % 4294967296)))) ?hg ?ho ?hn ?hr ?_; (case ho => rfl); (case hg => rfl); (case hn => rfl); (case hr => first | (go_simp; done) | (go_simp; rfl)); intro w128 hw; have hg : wr.grownBy w128 (some go126) := (by rw [hw]; exact HP127.2); have hp_ : Kd.R (Kd.int .u32) 85 w128 w.heap.size (fun k_ => some k_ ≠ (v181 : Value).ownBlock) (.slice (some ⟨go126, 0, none⟩) x26_4.length co108) y211 := (by rw [hw, Ny211.out]; exact HP127.1); clear HP127; have n0_ := Aside0.mk (Kd.R_after (v := (.slice (some ⟨go126, 0, none⟩) x26_4.length co108)) (v1 := (.slice (some ⟨go126, 0, none⟩) x26_4.length co108)) (ok := (fun _ => True)) (by (with_reducible repeat (first | apply Kd.R_alloc | apply Kd.R_drewN | apply Kd.R_drew)); exact Kd.R_mono HO_10.out (fun _ hk => ⟨trivial, hk⟩)) hg (.inl rfl)); have n1_ := Aside0.mk (hp_); have n2_ := Aside0.mk ((by rw [hw]; exact below_set (HB.out) GB126.out : Below w.heap.size w w128)); clear HO_10; clear HO_26; clear HB; have HO_10 := n0_; have HO_26 := n1_; have HB := n2_; clear n0_ n1_ n2_; clear hg hw hp_))
                           (try simp only [← hl26_4])
                           go_roundg k4
                           case measure => have := HK1.out; have := HJ16.out; have := HK3.out; have := HK4.out; omega
                           case rel => exact ⟨(y211), (wrap64 (x256_4 + 1)), (by first | rfl | (simp; done) | (simp [*]; done)), H', ⟨by have := HK1.out; have := HJ16.out; have := HK3.out; have := HK4.out; omega⟩, ⟨by (try simp only [hl26_4]); (with_reducible repeat (first | apply Kd.R_alloc | apply Kd.R_drewN | apply Kd.R_drew)); (first | exact Kd.R_mono HO_10.out (fun _ hk => hk.2) | exact Kd.R_mono HO_10.out (fun _ hk => by simp only [own_len] at hk ⊢; exact hk.2))⟩, ⟨by (try simp only [hl26_4]); (with_reducible repeat (first | apply Kd.R_alloc | apply Kd.R_drewN | apply Kd.R_drew)); exact HO_26.out⟩, ⟨by repeat (first | (with_reducible first | exact HB.out | apply below_alloc | apply pw_below_drewN | apply below_drew1) | exact HB.out)⟩⟩
                         ·rw [if_neg c124] at H
                          exact absurd H (by simp)
                        ·rw [if_neg c123] at H
                         exact absurd H (by simp)
                       ·rw [if_neg c122] at H
                        exact absurd H (by simp)
                     ·rw [if_neg c110] at H
                      have c110b0 : decide (x256_4 < (y204.length : Int)) = false := decide_eq_false c110
                      try simp only [hl26_4] at c110b0
                      clear c110
                      as_aux_lemma =>
                       simp only [Option.some.injEq, Prod.mk.injEq] at H
                       obtain ⟨rfl, rfl⟩ := H
                       go_wp2
                       go_ret2
                       exact ⟨_, _, by first | rfl | (simp [errW_none, errW_some] <;> rfl) | (simp only [← hji4, ← hji8, ← hji14]; first | rfl | (simp [errW_none, errW_some] <;> rfl)) | (simp [*, errW_none, errW_some] <;> rfl), by (with_reducible repeat (first | apply Kd.R_alloc | apply Kd.R_drewN | apply Kd.R_drew)); exact HO_10.out, by (with_reducible repeat (first | apply Kd.R_alloc | apply Kd.R_drewN | apply Kd.R_drew)); exact HO_26.out, by repeat (first | (with_reducible first | exact HB.out | apply below_alloc | apply pw_below_drewN | apply below_drew1) | exact HB.out)⟩
                  ·rw [if_neg c107] at H
                   exact absurd H (by simp)
                 ·rw [if_neg c106] at H
                  exact absurd H (by simp)
           ·rw [if_neg c16] at H
            exact absurd H (by simp)
          ·rw [if_neg c15] at H
           exact absurd H (by simp)
         ·rw [if_neg c13] at H
          exact absurd H (by simp)
        ·rw [if_neg c12] at H
         exact absurd H (by simp)
      ·rw [if_neg c7] at H
       exact absurd H (by simp)
     ·rw [if_neg c6] at H
      exact absurd H (by simp)
    ·rw [if_neg c5] at H
     exact absurd H (by simp)

end Go.Proofs.YtbemhcdklmcbcaaGreatDoor.A
