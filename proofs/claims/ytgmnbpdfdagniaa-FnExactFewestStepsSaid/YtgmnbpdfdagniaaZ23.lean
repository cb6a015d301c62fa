/- Texts of this claim, put together by this session's pack2.py: each part is introduced by its own comment. No conditions. -/
import Derived.Test.YtgmnbpdfdagniaaProg
import Derived.Below
import Derived.Deep.Draws
import Derived.Deep.AppendLies
import Derived.Maps.AppendAt
import Derived.OwnWalk
import Derived.Laws.BytesArg
import Derived.Laws.MakeOwn
import Derived.Laws.OwnMore
import Derived.Deep.OwnRows
import Derived.Tactics
import Derived.Lib.ConvBytes
import Derived.Laws.Slices
import Derived.WalkKit
import Derived.KernelRfl
import Derived.RowKit3
import Derived.Deep.LoopGhost
import Derived.Deep.QuietTactic
import Derived.BigQuiet
import Derived.WideLaws
import Derived.Deep.DeepCutAuto
import Derived.Deep.CutBlock
import Derived.Deep.RegionHeld3
import Derived.Laws.Rows
import Derived.Lib.AppendStr
import Derived.ArgAppend
import Derived.Laws.IdiomCopy
import Derived.OrdersHeld
import Derived.Laws.BitsLemmas
import Derived.RowKit
import Derived.Shelf.Abstract
import Derived.Test.YtgmnbpdfdagniaaZ11
import Derived.Test.YtgmnbpdfdagniaaWWords
import Derived.Test.YtgmnbpdfdagniaaWLast
import Derived.Test.YtgmnbpdfdagniaaWTab
import Derived.Test.YtgmnbpdfdagniaaWFour
import Derived.Test.YtgmnbpdfdagniaaWQPut
import Derived.Test.YtgmnbpdfdagniaaWApart
import Derived.Test.YtgmnbpdfdagniaaWArr
import Derived.Test.YtgmnbpdfdagniaaWZeros
import Derived.Test.YtgmnbpdfdagniaaWFoot
import Derived.Test.YtgmnbpdfdagniaaWKept
import Derived.Test.YtgmnbpdfdagniaaWShare
import Derived.Test.YtgmnbpdfdagniaaWN
import Derived.Test.YtgmnbpdfdagniaaWFootNe
import Derived.Test.YtgmnbpdfdagniaaWAt
import Derived.Test.YtgmnbpdfdagniaaWEqStruct
import Derived.Test.YtgmnbpdfdagniaaWRepsOne
import Derived.Test.YtgmnbpdfdagniaaWInv
import Derived.Test.YtgmnbpdfdagniaaWInvWords
import Derived.Test.YtgmnbpdfdagniaaWGuard
import Derived.Test.YtgmnbpdfdagniaaWNEv
import Derived.Test.YtgmnbpdfdagniaaWMore
import Derived.Laws.Tables
import Derived.Deep.RegionLaw
-- Printed by this session's oprint.py through the kit's printer.
namespace Go.Proofs.Ytgmnbpdfdagniaa.A
open Go.RowKit Go.Proofs.YtgmnbpdfdagniaaW.PrintWords Go.Proofs.YtgmnbpdfdagniaaW.PrintLast Go.Proofs.YtgmnbpdfdagniaaW.PrintMore
attribute [local go_sem] max2_int min2_int max_two min_two max_three min_three max_four min_four   -- for this text's walks alone
set_option linter.unusedVariables false
set_option linter.unusedSimpArgs false



def errW : Option Int → Value
  | none => .nilIface
  | some c => .iface 0 (.int .i64 c)
theorem errW_none : errW none = .nilIface := rfl
theorem errW_some (c : Int) : errW (some c) = .iface 0 (.int .i64 c) := rfl

theorem info57 : (Try.prog.info? 57).map (fun i => (i.zero, i.size, i.bytes)) = some (some (.agg #[(.int .i64 0), (.int .i64 0), (.int .i64 0), (.int .i64 0), (.int .i64 0), (.int .i64 0), (.int .i64 0), (.int .i64 0), (.int .i64 0), (.int .i64 0), (.int .i64 0), (.int .i64 0)]), 12, 96) := by kernel_rfl
-- the values' own types
/-! #### struct type 57 -/
structure S57 where
  f0 : Int
  f1 : Int
  f2 : Int
  f3 : Int
  f4 : Int
  f5 : Int
  f6 : Int
  f7 : Int
  f8 : Int
  f9 : Int
  f10 : Int
  f11 : Int
def z57 : S57 := ⟨(0 : Int), (0 : Int), (0 : Int), (0 : Int), (0 : Int), (0 : Int), (0 : Int), (0 : Int), (0 : Int), (0 : Int), (0 : Int), (0 : Int)⟩
def k57 : Kd S57 := Kd.iso (Kd.pair (Kd.int .i64) (Kd.pair (Kd.int .i64) (Kd.pair (Kd.int .i64) (Kd.pair (Kd.int .i64) (Kd.pair (Kd.int .i64) (Kd.pair (Kd.int .i64) (Kd.pair (Kd.int .i64) (Kd.pair (Kd.int .i64) (Kd.pair (Kd.int .i64) (Kd.pair (Kd.int .i64) (Kd.pair (Kd.int .i64) (Kd.int .i64)))))))))))) (fun x : S57 => (x.f0, x.f1, x.f2, x.f3, x.f4, x.f5, x.f6, x.f7, x.f8, x.f9, x.f10, x.f11))
theorem k57_open {w : World} {x : S57} {cs : List Value} (h : k57.K w x cs) : cs = [.int .i64 x.f0, .int .i64 x.f1, .int .i64 x.f2, .int .i64 x.f3, .int .i64 x.f4, .int .i64 x.f5, .int .i64 x.f6, .int .i64 x.f7, .int .i64 x.f8, .int .i64 x.f9, .int .i64 x.f10, .int .i64 x.f11] := by
  obtain ⟨_, _, rfl, rfl, ⟨_, _, rfl, rfl, ⟨_, _, rfl, rfl, ⟨_, _, rfl, rfl, ⟨_, _, rfl, rfl, ⟨_, _, rfl, rfl, ⟨_, _, rfl, rfl, ⟨_, _, rfl, rfl, ⟨_, _, rfl, rfl, ⟨_, _, rfl, rfl, ⟨_, _, rfl, rfl, rfl⟩⟩⟩⟩⟩⟩⟩⟩⟩⟩⟩ := h
  exact rfl
theorem k57_openM {w : World} {base : Nat} {ok : Nat → Prop} {x : S57} {cs : List Value} (h : k57.M w base ok x cs) : cs = [.int .i64 x.f0, .int .i64 x.f1, .int .i64 x.f2, .int .i64 x.f3, .int .i64 x.f4, .int .i64 x.f5, .int .i64 x.f6, .int .i64 x.f7, .int .i64 x.f8, .int .i64 x.f9, .int .i64 x.f10, .int .i64 x.f11] := by
  obtain ⟨_, _, rfl, rfl, ⟨_, _, rfl, rfl, ⟨_, _, rfl, rfl, ⟨_, _, rfl, rfl, ⟨_, _, rfl, rfl, ⟨_, _, rfl, rfl, ⟨_, _, rfl, rfl, ⟨_, _, rfl, rfl, ⟨_, _, rfl, rfl, ⟨_, _, rfl, rfl, ⟨_, _, rfl, rfl, rfl⟩⟩⟩⟩⟩⟩⟩⟩⟩⟩⟩ := h
  exact rfl
theorem k57_mk (w : World) (x : S57)  : k57.K w x [.int .i64 x.f0, .int .i64 x.f1, .int .i64 x.f2, .int .i64 x.f3, .int .i64 x.f4, .int .i64 x.f5, .int .i64 x.f6, .int .i64 x.f7, .int .i64 x.f8, .int .i64 x.f9, .int .i64 x.f10, .int .i64 x.f11] := ⟨[.int .i64 x.f0], [.int .i64 x.f1, .int .i64 x.f2, .int .i64 x.f3, .int .i64 x.f4, .int .i64 x.f5, .int .i64 x.f6, .int .i64 x.f7, .int .i64 x.f8, .int .i64 x.f9, .int .i64 x.f10, .int .i64 x.f11], rfl, rfl, ⟨[.int .i64 x.f1], [.int .i64 x.f2, .int .i64 x.f3, .int .i64 x.f4, .int .i64 x.f5, .int .i64 x.f6, .int .i64 x.f7, .int .i64 x.f8, .int .i64 x.f9, .int .i64 x.f10, .int .i64 x.f11], rfl, rfl, ⟨[.int .i64 x.f2], [.int .i64 x.f3, .int .i64 x.f4, .int .i64 x.f5, .int .i64 x.f6, .int .i64 x.f7, .int .i64 x.f8, .int .i64 x.f9, .int .i64 x.f10, .int .i64 x.f11], rfl, rfl, ⟨[.int .i64 x.f3], [.int .i64 x.f4, .int .i64 x.f5, .int .i64 x.f6, .int .i64 x.f7, .int .i64 x.f8, .int .i64 x.f9, .int .i64 x.f10, .int .i64 x.f11], rfl, rfl, ⟨[.int .i64 x.f4], [.int .i64 x.f5, .int .i64 x.f6, .int .i64 x.f7, .int .i64 x.f8, .int .i64 x.f9, .int .i64 x.f10, .int .i64 x.f11], rfl, rfl, ⟨[.int .i64 x.f5], [.int .i64 x.f6, .int .i64 x.f7, .int .i64 x.f8, .int .i64 x.f9, .int .i64 x.f10, .int .i64 x.f11], rfl, rfl, ⟨[.int .i64 x.f6], [.int .i64 x.f7, .int .i64 x.f8, .int .i64 x.f9, .int .i64 x.f10, .int .i64 x.f11], rfl, rfl, ⟨[.int .i64 x.f7], [.int .i64 x.f8, .int .i64 x.f9, .int .i64 x.f10, .int .i64 x.f11], rfl, rfl, ⟨[.int .i64 x.f8], [.int .i64 x.f9, .int .i64 x.f10, .int .i64 x.f11], rfl, rfl, ⟨[.int .i64 x.f9], [.int .i64 x.f10, .int .i64 x.f11], rfl, rfl, ⟨[.int .i64 x.f10], [.int .i64 x.f11], rfl, rfl, rfl⟩⟩⟩⟩⟩⟩⟩⟩⟩⟩⟩
theorem k57_mkM (w : World) (base : Nat) (ok : Nat → Prop) (x : S57)  : k57.M w base ok x [.int .i64 x.f0, .int .i64 x.f1, .int .i64 x.f2, .int .i64 x.f3, .int .i64 x.f4, .int .i64 x.f5, .int .i64 x.f6, .int .i64 x.f7, .int .i64 x.f8, .int .i64 x.f9, .int .i64 x.f10, .int .i64 x.f11] := ⟨[.int .i64 x.f0], [.int .i64 x.f1, .int .i64 x.f2, .int .i64 x.f3, .int .i64 x.f4, .int .i64 x.f5, .int .i64 x.f6, .int .i64 x.f7, .int .i64 x.f8, .int .i64 x.f9, .int .i64 x.f10, .int .i64 x.f11], rfl, rfl, ⟨[.int .i64 x.f1], [.int .i64 x.f2, .int .i64 x.f3, .int .i64 x.f4, .int .i64 x.f5, .int .i64 x.f6, .int .i64 x.f7, .int .i64 x.f8, .int .i64 x.f9, .int .i64 x.f10, .int .i64 x.f11], rfl, rfl, ⟨[.int .i64 x.f2], [.int .i64 x.f3, .int .i64 x.f4, .int .i64 x.f5, .int .i64 x.f6, .int .i64 x.f7, .int .i64 x.f8, .int .i64 x.f9, .int .i64 x.f10, .int .i64 x.f11], rfl, rfl, ⟨[.int .i64 x.f3], [.int .i64 x.f4, .int .i64 x.f5, .int .i64 x.f6, .int .i64 x.f7, .int .i64 x.f8, .int .i64 x.f9, .int .i64 x.f10, .int .i64 x.f11], rfl, rfl, ⟨[.int .i64 x.f4], [.int .i64 x.f5, .int .i64 x.f6, .int .i64 x.f7, .int .i64 x.f8, .int .i64 x.f9, .int .i64 x.f10, .int .i64 x.f11], rfl, rfl, ⟨[.int .i64 x.f5], [.int .i64 x.f6, .int .i64 x.f7, .int .i64 x.f8, .int .i64 x.f9, .int .i64 x.f10, .int .i64 x.f11], rfl, rfl, ⟨[.int .i64 x.f6], [.int .i64 x.f7, .int .i64 x.f8, .int .i64 x.f9, .int .i64 x.f10, .int .i64 x.f11], rfl, rfl, ⟨[.int .i64 x.f7], [.int .i64 x.f8, .int .i64 x.f9, .int .i64 x.f10, .int .i64 x.f11], rfl, rfl, ⟨[.int .i64 x.f8], [.int .i64 x.f9, .int .i64 x.f10, .int .i64 x.f11], rfl, rfl, ⟨[.int .i64 x.f9], [.int .i64 x.f10, .int .i64 x.f11], rfl, rfl, ⟨[.int .i64 x.f10], [.int .i64 x.f11], rfl, rfl, rfl⟩⟩⟩⟩⟩⟩⟩⟩⟩⟩⟩
def rd_T57 (xs : List S57) (i : Int) : S57 := xs.getD i.toNat z57
theorem at_T57 {w : World} {A : Option Addr} {n : Nat} {xs : List S57} (h : Kd.C k57 w A n xs) (i : Int) (h0 : 0 ≤ i) (h1 : i < n) : ∃ ad , A = some ad ∧ w.cell? (ad.add (i.toNat * 12)) = some (.int .i64 (rd_T57 xs i).f0) ∧ w.cell? ⟨(ad.add (i.toNat * 12)).block, (ad.add (i.toNat * 12)).off + 1, none⟩ = some (.int .i64 (rd_T57 xs i).f1) ∧ w.cell? ⟨(ad.add (i.toNat * 12)).block, (ad.add (i.toNat * 12)).off + 2, none⟩ = some (.int .i64 (rd_T57 xs i).f2) ∧ w.cell? ⟨(ad.add (i.toNat * 12)).block, (ad.add (i.toNat * 12)).off + 3, none⟩ = some (.int .i64 (rd_T57 xs i).f3) ∧ w.cell? ⟨(ad.add (i.toNat * 12)).block, (ad.add (i.toNat * 12)).off + 4, none⟩ = some (.int .i64 (rd_T57 xs i).f4) ∧ w.cell? ⟨(ad.add (i.toNat * 12)).block, (ad.add (i.toNat * 12)).off + 5, none⟩ = some (.int .i64 (rd_T57 xs i).f5) ∧ w.cell? ⟨(ad.add (i.toNat * 12)).block, (ad.add (i.toNat * 12)).off + 6, none⟩ = some (.int .i64 (rd_T57 xs i).f6) ∧ w.cell? ⟨(ad.add (i.toNat * 12)).block, (ad.add (i.toNat * 12)).off + 7, none⟩ = some (.int .i64 (rd_T57 xs i).f7) ∧ w.cell? ⟨(ad.add (i.toNat * 12)).block, (ad.add (i.toNat * 12)).off + 8, none⟩ = some (.int .i64 (rd_T57 xs i).f8) ∧ w.cell? ⟨(ad.add (i.toNat * 12)).block, (ad.add (i.toNat * 12)).off + 9, none⟩ = some (.int .i64 (rd_T57 xs i).f9) ∧ w.cell? ⟨(ad.add (i.toNat * 12)).block, (ad.add (i.toNat * 12)).off + 10, none⟩ = some (.int .i64 (rd_T57 xs i).f10) ∧ w.cell? ⟨(ad.add (i.toNat * 12)).block, (ad.add (i.toNat * 12)).off + 11, none⟩ = some (.int .i64 (rd_T57 xs i).f11) := by
  obtain ⟨ad, c, e, _, hK, hc0⟩ := Kd.C_get h z57 i h0 h1
  have hc : ∀ j u, c[j]? = some u → w.cell? (ad.add (i.toNat * 12 + j)) = some u := hc0
  obtain rfl := k57_open hK
  exact ⟨ad, e, hc 0 _ rfl, by rw [← add_field _ _ 1 (by omega)]; exact hc 1 _ rfl, by rw [← add_field _ _ 2 (by omega)]; exact hc 2 _ rfl, by rw [← add_field _ _ 3 (by omega)]; exact hc 3 _ rfl, by rw [← add_field _ _ 4 (by omega)]; exact hc 4 _ rfl, by rw [← add_field _ _ 5 (by omega)]; exact hc 5 _ rfl, by rw [← add_field _ _ 6 (by omega)]; exact hc 6 _ rfl, by rw [← add_field _ _ 7 (by omega)]; exact hc 7 _ rfl, by rw [← add_field _ _ 8 (by omega)]; exact hc 8 _ rfl, by rw [← add_field _ _ 9 (by omega)]; exact hc 9 _ rfl, by rw [← add_field _ _ 10 (by omega)]; exact hc 10 _ rfl, by rw [← add_field _ _ 11 (by omega)]; exact hc 11 _ rfl⟩

def rd_L2 (xs : List (List S57)) (i : Int) : (List S57) := xs.getD i.toNat ([] : List S57)
theorem at_L2 {w : World} {A : Option Addr} {n : Nat} {xs : List (List S57)} (h : Kd.C (Kd.slice 57 k57) w A n xs) (i : Int) (h0 : 0 ≤ i) (h1 : i < n) : ∃ ad A0 c0, A = some ad ∧ w.cell? (ad.add i.toNat) = some (.slice A0 (rd_L2 xs i).length c0) ∧ (rd_L2 xs i).length ≤ c0 ∧ k57.C w A0 (rd_L2 xs i).length (rd_L2 xs i) := by
  obtain ⟨ad, c, e, _, hK, hc0⟩ := Kd.C_get h ([] : List S57) i h0 h1
  have hc : ∀ j u, c[j]? = some u → w.cell? (ad.add (i.toNat * 1 + j)) = some u := hc0
  obtain ⟨A0, c0, rfl, l0, g0⟩ := hK
  exact ⟨ad, A0, c0, e, by have hq := hc 0 _ rfl; rwa [Nat.mul_one, Nat.add_zero] at hq, l0, g0⟩

/-! #### struct type 33 -/
structure S33 where
  f0 : Int
  f1 : Int
  f2 : Int
  f3 : Int
def z33 : S33 := ⟨(0 : Int), (0 : Int), (0 : Int), (0 : Int)⟩
def k33 : Kd S33 := Kd.iso (Kd.pair (Kd.int .i64) (Kd.pair (Kd.int .i64) (Kd.pair (Kd.int .i64) (Kd.int .i64)))) (fun x : S33 => (x.f0, x.f1, x.f2, x.f3))
theorem k33_open {w : World} {x : S33} {cs : List Value} (h : k33.K w x cs) : cs = [.int .i64 x.f0, .int .i64 x.f1, .int .i64 x.f2, .int .i64 x.f3] := by
  obtain ⟨_, _, rfl, rfl, ⟨_, _, rfl, rfl, ⟨_, _, rfl, rfl, rfl⟩⟩⟩ := h
  exact rfl
theorem k33_openM {w : World} {base : Nat} {ok : Nat → Prop} {x : S33} {cs : List Value} (h : k33.M w base ok x cs) : cs = [.int .i64 x.f0, .int .i64 x.f1, .int .i64 x.f2, .int .i64 x.f3] := by
  obtain ⟨_, _, rfl, rfl, ⟨_, _, rfl, rfl, ⟨_, _, rfl, rfl, rfl⟩⟩⟩ := h
  exact rfl
theorem k33_mk (w : World) (x : S33)  : k33.K w x [.int .i64 x.f0, .int .i64 x.f1, .int .i64 x.f2, .int .i64 x.f3] := ⟨[.int .i64 x.f0], [.int .i64 x.f1, .int .i64 x.f2, .int .i64 x.f3], rfl, rfl, ⟨[.int .i64 x.f1], [.int .i64 x.f2, .int .i64 x.f3], rfl, rfl, ⟨[.int .i64 x.f2], [.int .i64 x.f3], rfl, rfl, rfl⟩⟩⟩
theorem k33_mkM (w : World) (base : Nat) (ok : Nat → Prop) (x : S33)  : k33.M w base ok x [.int .i64 x.f0, .int .i64 x.f1, .int .i64 x.f2, .int .i64 x.f3] := ⟨[.int .i64 x.f0], [.int .i64 x.f1, .int .i64 x.f2, .int .i64 x.f3], rfl, rfl, ⟨[.int .i64 x.f1], [.int .i64 x.f2, .int .i64 x.f3], rfl, rfl, ⟨[.int .i64 x.f2], [.int .i64 x.f3], rfl, rfl, rfl⟩⟩⟩
def rd_T33 (xs : List S33) (i : Int) : S33 := xs.getD i.toNat z33
theorem at_T33 {w : World} {A : Option Addr} {n : Nat} {xs : List S33} (h : Kd.C k33 w A n xs) (i : Int) (h0 : 0 ≤ i) (h1 : i < n) : ∃ ad , A = some ad ∧ w.cell? (ad.add (i.toNat * 4)) = some (.int .i64 (rd_T33 xs i).f0) ∧ w.cell? ⟨(ad.add (i.toNat * 4)).block, (ad.add (i.toNat * 4)).off + 1, none⟩ = some (.int .i64 (rd_T33 xs i).f1) ∧ w.cell? ⟨(ad.add (i.toNat * 4)).block, (ad.add (i.toNat * 4)).off + 2, none⟩ = some (.int .i64 (rd_T33 xs i).f2) ∧ w.cell? ⟨(ad.add (i.toNat * 4)).block, (ad.add (i.toNat * 4)).off + 3, none⟩ = some (.int .i64 (rd_T33 xs i).f3) := by
  obtain ⟨ad, c, e, _, hK, hc0⟩ := Kd.C_get h z33 i h0 h1
  have hc : ∀ j u, c[j]? = some u → w.cell? (ad.add (i.toNat * 4 + j)) = some u := hc0
  obtain rfl := k33_open hK
  exact ⟨ad, e, hc 0 _ rfl, by rw [← add_field _ _ 1 (by omega)]; exact hc 1 _ rfl, by rw [← add_field _ _ 2 (by omega)]; exact hc 2 _ rfl, by rw [← add_field _ _ 3 (by omega)]; exact hc 3 _ rfl⟩

/-! #### struct type 31 -/
structure S31 where
  f0 : Int
  f1 : Int
  f2 : Int
  f3 : Int
def z31 : S31 := ⟨(0 : Int), (0 : Int), (0 : Int), (0 : Int)⟩
def k31 : Kd S31 := Kd.iso (Kd.pair (Kd.int .i64) (Kd.pair (Kd.int .i64) (Kd.pair (Kd.int .i64) (Kd.int .i64)))) (fun x : S31 => (x.f0, x.f1, x.f2, x.f3))
theorem k31_open {w : World} {x : S31} {cs : List Value} (h : k31.K w x cs) : cs = [.int .i64 x.f0, .int .i64 x.f1, .int .i64 x.f2, .int .i64 x.f3] := by
  obtain ⟨_, _, rfl, rfl, ⟨_, _, rfl, rfl, ⟨_, _, rfl, rfl, rfl⟩⟩⟩ := h
  exact rfl
theorem k31_openM {w : World} {base : Nat} {ok : Nat → Prop} {x : S31} {cs : List Value} (h : k31.M w base ok x cs) : cs = [.int .i64 x.f0, .int .i64 x.f1, .int .i64 x.f2, .int .i64 x.f3] := by
  obtain ⟨_, _, rfl, rfl, ⟨_, _, rfl, rfl, ⟨_, _, rfl, rfl, rfl⟩⟩⟩ := h
  exact rfl
theorem k31_mk (w : World) (x : S31)  : k31.K w x [.int .i64 x.f0, .int .i64 x.f1, .int .i64 x.f2, .int .i64 x.f3] := ⟨[.int .i64 x.f0], [.int .i64 x.f1, .int .i64 x.f2, .int .i64 x.f3], rfl, rfl, ⟨[.int .i64 x.f1], [.int .i64 x.f2, .int .i64 x.f3], rfl, rfl, ⟨[.int .i64 x.f2], [.int .i64 x.f3], rfl, rfl, rfl⟩⟩⟩
theorem k31_mkM (w : World) (base : Nat) (ok : Nat → Prop) (x : S31)  : k31.M w base ok x [.int .i64 x.f0, .int .i64 x.f1, .int .i64 x.f2, .int .i64 x.f3] := ⟨[.int .i64 x.f0], [.int .i64 x.f1, .int .i64 x.f2, .int .i64 x.f3], rfl, rfl, ⟨[.int .i64 x.f1], [.int .i64 x.f2, .int .i64 x.f3], rfl, rfl, ⟨[.int .i64 x.f2], [.int .i64 x.f3], rfl, rfl, rfl⟩⟩⟩
def rd_T31 (xs : List S31) (i : Int) : S31 := xs.getD i.toNat z31
theorem at_T31 {w : World} {A : Option Addr} {n : Nat} {xs : List S31} (h : Kd.C k31 w A n xs) (i : Int) (h0 : 0 ≤ i) (h1 : i < n) : ∃ ad , A = some ad ∧ w.cell? (ad.add (i.toNat * 4)) = some (.int .i64 (rd_T31 xs i).f0) ∧ w.cell? ⟨(ad.add (i.toNat * 4)).block, (ad.add (i.toNat * 4)).off + 1, none⟩ = some (.int .i64 (rd_T31 xs i).f1) ∧ w.cell? ⟨(ad.add (i.toNat * 4)).block, (ad.add (i.toNat * 4)).off + 2, none⟩ = some (.int .i64 (rd_T31 xs i).f2) ∧ w.cell? ⟨(ad.add (i.toNat * 4)).block, (ad.add (i.toNat * 4)).off + 3, none⟩ = some (.int .i64 (rd_T31 xs i).f3) := by
  obtain ⟨ad, c, e, _, hK, hc0⟩ := Kd.C_get h z31 i h0 h1
  have hc : ∀ j u, c[j]? = some u → w.cell? (ad.add (i.toNat * 4 + j)) = some u := hc0
  obtain rfl := k31_open hK
  exact ⟨ad, e, hc 0 _ rfl, by rw [← add_field _ _ 1 (by omega)]; exact hc 1 _ rfl, by rw [← add_field _ _ 2 (by omega)]; exact hc 2 _ rfl, by rw [← add_field _ _ 3 (by omega)]; exact hc 3 _ rfl⟩

end Go.Proofs.Ytgmnbpdfdagniaa.A
-- Printed by this session's oprint.py through the kit's printer.
namespace Go.Proofs.Ytgmnbpdfdagniaa.A
open Go.RowKit Go.Proofs.YtgmnbpdfdagniaaW.PrintWords Go.Proofs.YtgmnbpdfdagniaaW.PrintLast Go.Proofs.YtgmnbpdfdagniaaW.PrintMore
attribute [local go_sem] max2_int min2_int max_two min_two max_three min_three max_four min_four   -- for this text's walks alone
set_option linter.unusedVariables false
set_option linter.unusedSimpArgs false

/-! ### laws_toLink: function 15 -/
def laws_toLink.f (a0_0 : Int) (a0_1 : Int) (a0_2 : Int) (a0_3 : Int) : Option (Int × Int × Int × Int) := some (a0_0, a0_1, a0_2, a0_3)
set_option maxHeartbeats 8000000 in
set_option maxRecDepth 100000 in
theorem laws_toLink.calls (a0_0 : Int) (a0_1 : Int) (a0_2 : Int) (a0_3 : Int) (r1 : Int) (r2 : Int) (r3 : Int) (r4 : Int) (w : World) (h : laws_toLink.f a0_0 a0_1 a0_2 a0_3 = some (r1, r2, r3, r4)) :
    Calls Try.prog 15 #[.agg #[.int .i64 a0_0, .int .i64 a0_1, .int .i64 a0_2, .int .i64 a0_3]] w fun e w' => e = .returned (.agg #[.int .i64 r1, .int .i64 r2, .int .i64 r3, .int .i64 r4]) ∧ Below w.heap.size w w' := by
  have hu31 := Try.underlying31
  have hu33 := Try.underlying33
  have HB := Aside0.mk (Below.refl w.heap.size w)
  have H : (some (a0_0, a0_1, a0_2, a0_3)) = some (r1, r2, r3, r4) := h
  clear h
  simp only [Option.some.injEq, Prod.mk.injEq] at H
  obtain ⟨rfl, rfl, rfl, rfl⟩ := H
  go_enter Try.func15, Try.ntmps15
  go_wp2_with (first | ((with_reducible refine gate_dst (N := 1) rfl ?_); refine box_event ?hg (N := 1) ?hd (cs := #[.int .i64 a0_0, .int .i64 a0_1, .int .i64 a0_2, .int .i64 a0_3]) (t := 31) ?hr ?_; (case hd => rfl); (case hg => rfl); (case hr => first | (go_simp; done) | (go_simp; rfl)); intro gb120 hg w2 hbox hb; have n0_ := Aside0.mk (below_step (by repeat (first | (with_reducible first | exact HB.out | apply below_alloc | apply pw_below_drewN | apply below_drew1) | exact HB.out)) hb); have n1_ := Aside0.mk (hbox); have n2_ := Aside0.mk ((by rw [hg]; exact (below_size (by repeat (first | (with_reducible first | exact HB.out | apply below_alloc | apply pw_below_drewN | apply below_drew1) | exact HB.out))) : w.heap.size ≤ gb120)); have n3_ := Aside0.mk ((by rw [hg]; exact (below_size (by repeat (first | (with_reducible first | exact HB.out | apply below_alloc | apply pw_below_drewN | apply below_drew1) | exact HB.out))) : w.heap.size ≤ gb120)); clear HB; have HB := n0_; have BK120 := n1_; have GW120 := n2_; have GE120 := n3_; clear n0_ n1_ n2_ n3_; clear hb hbox hg) | ((with_reducible refine gate_dst (N := 2) rfl ?_); refine box_event ?hg (N := 2) ?hd (cs := #[.int .i64 0, .int .i64 0, .int .i64 0, .int .i64 0]) (t := 33) ?hr ?_; (case hd => rfl); (case hg => rfl); (case hr => first | (go_simp; done) | (go_simp; rfl)); intro gb121 hg w3 hbox hb; have n0_ := Aside0.mk (blk_below (g := gb120) (o := .cells #[.int .i64 a0_0, .int .i64 a0_1, .int .i64 a0_2, .int .i64 a0_3] 31 (0, 0)) (by (with_reducible repeat (first | refine blk_drewN ?_ _ | refine blk_drew ?_ | refine blk_alloc ?_ _)); exact BK120.out) hb); have n1_ := Aside0.mk (below_step (by repeat (first | (with_reducible first | exact HB.out | apply below_alloc | apply pw_below_drewN | apply below_drew1 | refine below_set ?_ GE120.out) | exact HB.out)) hb); have n2_ := Aside0.mk (hbox); have n3_ := Aside0.mk ((by rw [hg]; exact (below_size (by repeat (first | (with_reducible first | exact HB.out | apply below_alloc | apply pw_below_drewN | apply below_drew1 | refine below_set ?_ GE120.out) | exact HB.out))) : w.heap.size ≤ gb121)); have n4_ := Aside0.mk ((by rw [hg]; exact (below_size (by repeat (first | (with_reducible first | exact HB.out | apply below_alloc | apply pw_below_drewN | apply below_drew1 | refine below_set ?_ GE120.out) | exact HB.out))) : w.heap.size ≤ gb121)); have n5_ := Aside0.mk ((by rw [hg]; exact Nat.ne_of_lt (blk_lt (g := gb120) (o := .cells #[.int .i64 a0_0, .int .i64 a0_1, .int .i64 a0_2, .int .i64 a0_3] 31 (0, 0)) (by (with_reducible repeat (first | refine blk_drewN ?_ _ | refine blk_drew ?_ | refine blk_alloc ?_ _)); exact BK120.out)) : gb120 ≠ gb121)); have n6_ := Aside0.mk ((by rw [hg]; exact Nat.ne_of_gt (blk_lt (g := gb120) (o := .cells #[.int .i64 a0_0, .int .i64 a0_1, .int .i64 a0_2, .int .i64 a0_3] 31 (0, 0)) (by (with_reducible repeat (first | refine blk_drewN ?_ _ | refine blk_drew ?_ | refine blk_alloc ?_ _)); exact BK120.out)) : gb121 ≠ gb120)); clear BK120; clear HB; have BK120 := n0_; have HB := n1_; have BK121 := n2_; have GW121 := n3_; have GE121 := n4_; have NB120_121 := n5_; have NB121_120 := n6_; clear n0_ n1_ n2_ n3_ n4_ n5_ n6_; clear hb hbox hg) | ((with_reducible refine gate_dst (N := 3) rfl ?_); refine box_event ?hg (N := 3) ?hd (cs := #[.int .i64 0, .int .i64 0, .int .i64 0, .int .i64 0]) (t := 33) ?hr ?_; (case hd => rfl); (case hg => rfl); (case hr => first | (go_simp; done) | (go_simp; rfl)); intro gb122 hg w4 hbox hb; have n0_ := Aside0.mk (blk_below (g := gb120) (o := .cells #[.int .i64 a0_0, .int .i64 a0_1, .int .i64 a0_2, .int .i64 a0_3] 31 (0, 0)) (by (with_reducible repeat (first | refine blk_drewN ?_ _ | refine blk_drew ?_ | refine blk_alloc ?_ _)); exact BK120.out) hb); have n1_ := Aside0.mk (blk_below (g := gb121) (o := .cells #[.int .i64 0, .int .i64 0, .int .i64 0, .int .i64 0] 33 (0, 0)) (by (with_reducible repeat (first | refine blk_drewN ?_ _ | refine blk_drew ?_ | refine blk_alloc ?_ _)); exact BK121.out) hb); have n2_ := Aside0.mk (below_step (by repeat (first | (with_reducible first | exact HB.out | apply below_alloc | apply pw_below_drewN | apply below_drew1 | refine below_set ?_ GE120.out | refine below_set ?_ GE121.out) | exact HB.out)) hb); have n3_ := Aside0.mk (hbox); have n4_ := Aside0.mk ((by rw [hg]; exact (below_size (by repeat (first | (with_reducible first | exact HB.out | apply below_alloc | apply pw_below_drewN | apply below_drew1 | refine below_set ?_ GE120.out | refine below_set ?_ GE121.out) | exact HB.out))) : w.heap.size ≤ gb122)); have n5_ := Aside0.mk ((by rw [hg]; exact (below_size (by repeat (first | (with_reducible first | exact HB.out | apply below_alloc | apply pw_below_drewN | apply below_drew1 | refine below_set ?_ GE120.out | refine below_set ?_ GE121.out) | exact HB.out))) : w.heap.size ≤ gb122)); have n6_ := Aside0.mk ((by rw [hg]; exact Nat.ne_of_lt (blk_lt (g := gb120) (o := .cells #[.int .i64 a0_0, .int .i64 a0_1, .int .i64 a0_2, .int .i64 a0_3] 31 (0, 0)) (by (with_reducible repeat (first | refine blk_drewN ?_ _ | refine blk_drew ?_ | refine blk_alloc ?_ _)); exact BK120.out)) : gb120 ≠ gb122)); have n7_ := Aside0.mk ((by rw [hg]; exact Nat.ne_of_gt (blk_lt (g := gb120) (o := .cells #[.int .i64 a0_0, .int .i64 a0_1, .int .i64 a0_2, .int .i64 a0_3] 31 (0, 0)) (by (with_reducible repeat (first | refine blk_drewN ?_ _ | refine blk_drew ?_ | refine blk_alloc ?_ _)); exact BK120.out)) : gb122 ≠ gb120)); have n8_ := Aside0.mk ((by rw [hg]; exact Nat.ne_of_lt (blk_lt (g := gb121) (o := .cells #[.int .i64 0, .int .i64 0, .int .i64 0, .int .i64 0] 33 (0, 0)) (by (with_reducible repeat (first | refine blk_drewN ?_ _ | refine blk_drew ?_ | refine blk_alloc ?_ _)); exact BK121.out)) : gb121 ≠ gb122)); have n9_ := Aside0.mk ((by rw [hg]; exact Nat.ne_of_gt (blk_lt (g := gb121) (o := .cells #[.int .i64 0, .int .i64 0, .int .i64 0, .int .i64 0] 33 (0, 0)) (by (with_reducible repeat (first | refine blk_drewN ?_ _ | refine blk_drew ?_ | refine blk_alloc ?_ _)); exact BK121.out)) : gb122 ≠ gb121)); clear BK120; clear BK121; clear HB; have BK120 := n0_; have BK121 := n1_; have HB := n2_; have BK122 := n3_; have GW122 := n4_; have GE122 := n5_; have NB120_122 := n6_; have NB122_120 := n7_; have NB121_122 := n8_; have NB122_121 := n9_; clear n0_ n1_ n2_ n3_ n4_ n5_ n6_ n7_ n8_ n9_; clear hb hbox hg; have hnb5 := NB120_121.out; have hnc5 := NB121_120.out; have hnb6 := NB120_122.out; have hnc6 := NB122_120.out; have hcz7_0 : w4.cell? ⟨gb120, 0, none⟩ = some (.int .i64 a0_0) := (blk_cell BK120.out 0).trans rfl; have hcz7_1 : w4.cell? ⟨gb120, 1, none⟩ = some (.int .i64 a0_1) := (blk_cell BK120.out 1).trans rfl; have hcz7_2 : w4.cell? ⟨gb120, 2, none⟩ = some (.int .i64 a0_2) := (blk_cell BK120.out 2).trans rfl; have hcz7_3 : w4.cell? ⟨gb120, 3, none⟩ = some (.int .i64 a0_3) := (blk_cell BK120.out 3).trans rfl; have hfz7_0 := blk_frozen BK120.out 0; have hfz7_1 := blk_frozen BK120.out 1; have hfz7_2 := blk_frozen BK120.out 2; have hfz7_3 := blk_frozen BK120.out 3; have hnb8 := NB122_121.out; have hnc8 := NB121_122.out; have hcz9_0 : w4.cell? ⟨gb122, 0, none⟩ = some (.int .i64 0) := (blk_cell BK122.out 0).trans rfl; have hcz9_1 : w4.cell? ⟨gb122, 1, none⟩ = some (.int .i64 0) := (blk_cell BK122.out 1).trans rfl; have hcz9_2 : w4.cell? ⟨gb122, 2, none⟩ = some (.int .i64 0) := (blk_cell BK122.out 2).trans rfl; have hcz9_3 : w4.cell? ⟨gb122, 3, none⟩ = some (.int .i64 0) := (blk_cell BK122.out 3).trans rfl; have hfz9_0 := blk_frozen BK122.out 0; have hfz9_1 := blk_frozen BK122.out 1; have hfz9_2 := blk_frozen BK122.out 2; have hfz9_3 := blk_frozen BK122.out 3; have hcz10_0 : w4.cell? ⟨gb121, 0, none⟩ = some (.int .i64 0) := (blk_cell BK121.out 0).trans rfl; have hcz10_1 : w4.cell? ⟨gb121, 1, none⟩ = some (.int .i64 0) := (blk_cell BK121.out 1).trans rfl; have hcz10_2 : w4.cell? ⟨gb121, 2, none⟩ = some (.int .i64 0) := (blk_cell BK121.out 2).trans rfl; have hcz10_3 : w4.cell? ⟨gb121, 3, none⟩ = some (.int .i64 0) := (blk_cell BK121.out 3).trans rfl; have hfz10_0 := blk_frozen BK121.out 0; have hfz10_1 := blk_frozen BK121.out 1; have hfz10_2 := blk_frozen BK121.out 2; have hfz10_3 := blk_frozen BK121.out 3))
  refine bodyPost_ret (results_cell_row rfl _ _ gb121 33 #[.int .i64 a0_0, .int .i64 a0_1, .int .i64 a0_2, .int .i64 a0_3] (0, 0) _ rfl (by (with_reducible repeat (first | refine blk_drewN ?_ _ | refine blk_drew ?_ | refine blk_alloc ?_ _)); refine blk_put (cs := #[.int .i64 a0_0, .int .i64 a0_1, .int .i64 a0_2, .int .i64 0]) ?_ 3 _ rfl; (with_reducible repeat (first | refine blk_drewN ?_ _ | refine blk_drew ?_ | refine blk_alloc ?_ _)); refine blk_put (cs := #[.int .i64 a0_0, .int .i64 a0_1, .int .i64 0, .int .i64 0]) ?_ 2 _ rfl; (with_reducible repeat (first | refine blk_drewN ?_ _ | refine blk_drew ?_ | refine blk_alloc ?_ _)); refine blk_put (cs := #[.int .i64 a0_0, .int .i64 0, .int .i64 0, .int .i64 0]) ?_ 1 _ rfl; (with_reducible repeat (first | refine blk_drewN ?_ _ | refine blk_drew ?_ | refine blk_alloc ?_ _)); refine blk_put (cs := #[.int .i64 0, .int .i64 0, .int .i64 0, .int .i64 0]) ?_ 0 _ rfl; (with_reducible repeat (first | refine blk_drewN ?_ _ | refine blk_drew ?_ | refine blk_alloc ?_ _)); refine blk_far ?_ NB121_122.out _; (with_reducible repeat (first | refine blk_drewN ?_ _ | refine blk_drew ?_ | refine blk_alloc ?_ _)); refine blk_far ?_ NB121_122.out _; (with_reducible repeat (first | refine blk_drewN ?_ _ | refine blk_drew ?_ | refine blk_alloc ?_ _)); refine blk_far ?_ NB121_122.out _; (with_reducible repeat (first | refine blk_drewN ?_ _ | refine blk_drew ?_ | refine blk_alloc ?_ _)); refine blk_far ?_ NB121_122.out _; (with_reducible repeat (first | refine blk_drewN ?_ _ | refine blk_drew ?_ | refine blk_alloc ?_ _)); exact BK121.out) Try.underlying33 rfl (by kernel_rfl)) rfl ?_
  exact ⟨by first | rfl | (simp [errW_none, errW_some] <;> rfl) | (simp [*, errW_none, errW_some] <;> rfl), by repeat (first | (with_reducible first | exact HB.out | apply below_alloc | apply pw_below_drewN | apply below_drew1 | refine below_set ?_ GE120.out | refine below_set ?_ GE121.out | refine below_set ?_ GE122.out) | exact HB.out)⟩

end Go.Proofs.Ytgmnbpdfdagniaa.A
-- Printed by this session's oprint.py through the kit's printer.
namespace Go.Proofs.Ytgmnbpdfdagniaa.A
open Go.RowKit Go.Proofs.YtgmnbpdfdagniaaW.PrintWords Go.Proofs.YtgmnbpdfdagniaaW.PrintLast Go.Proofs.YtgmnbpdfdagniaaW.PrintMore
attribute [local go_sem] max2_int min2_int max_two min_two max_three min_three max_four min_four   -- for this text's walks alone
set_option linter.unusedVariables false
set_option linter.unusedSimpArgs false

/-! ### spec_l05Begin: function 36 -/
def spec_l05Begin.f  : Option (Int × Int × Int × Int × Int × Int × Int × Int × Int × Int × Int × Int) := some (0, 0, 0, (-1), 0, 0, 0, 0, 0, 0, 2, 0)
set_option maxHeartbeats 8000000 in
set_option maxRecDepth 100000 in
theorem spec_l05Begin.calls  (r1 : Int) (r2 : Int) (r3 : Int) (r4 : Int) (r5 : Int) (r6 : Int) (r7 : Int) (r8 : Int) (r9 : Int) (r10 : Int) (r11 : Int) (r12 : Int) (w : World) (h : spec_l05Begin.f  = some (r1, r2, r3, r4, r5, r6, r7, r8, r9, r10, r11, r12)) :
    Calls Try.prog 36 #[] w fun e w' => e = .returned (.agg #[.int .i64 r1, .int .i64 r2, .int .i64 r3, .int .i64 r4, .int .i64 r5, .int .i64 r6, .int .i64 r7, .int .i64 r8, .int .i64 r9, .int .i64 r10, .int .i64 r11, .int .i64 r12]) ∧ Below w.heap.size w w' := by
  have hu57 := Try.underlying57
  have HB := Aside0.mk (Below.refl w.heap.size w)
  have H : (some (0, 0, 0, (-1), 0, 0, 0, 0, 0, 0, 2, 0)) = some (r1, r2, r3, r4, r5, r6, r7, r8, r9, r10, r11, r12) := h
  clear h
  simp only [Option.some.injEq, Prod.mk.injEq] at H
  obtain ⟨rfl, rfl, rfl, rfl, rfl, rfl, rfl, rfl, rfl, rfl, rfl, rfl⟩ := H
  go_enter Try.func36, Try.ntmps36
  go_wp2_with (first | ((with_reducible refine gate_dst (N := 0) rfl ?_); refine box_event ?hg (N := 0) ?hd (cs := #[.int .i64 0, .int .i64 0, .int .i64 0, .int .i64 0, .int .i64 0, .int .i64 0, .int .i64 0, .int .i64 0, .int .i64 0, .int .i64 0, .int .i64 0, .int .i64 0]) (t := 57) ?hr ?_; (case hd => rfl); (case hg => rfl); (case hr => first | (go_simp; done) | (go_simp; rfl)); intro gb108 hg w1 hbox hb; have n0_ := Aside0.mk (below_step (by repeat (first | (with_reducible first | exact HB.out | apply below_alloc | apply pw_below_drewN | apply below_drew1) | exact HB.out)) hb); have n1_ := Aside0.mk (hbox); have n2_ := Aside0.mk ((by rw [hg]; exact (below_size (by repeat (first | (with_reducible first | exact HB.out | apply below_alloc | apply pw_below_drewN | apply below_drew1) | exact HB.out))) : w.heap.size ≤ gb108)); have n3_ := Aside0.mk ((by rw [hg]; exact (below_size (by repeat (first | (with_reducible first | exact HB.out | apply below_alloc | apply pw_below_drewN | apply below_drew1) | exact HB.out))) : w.heap.size ≤ gb108)); clear HB; have HB := n0_; have BK108 := n1_; have GW108 := n2_; have GE108 := n3_; clear n0_ n1_ n2_ n3_; clear hb hbox hg; have hcz2_0 : w1.cell? ⟨gb108, 0, none⟩ = some (.int .i64 0) := (blk_cell BK108.out 0).trans rfl; have hcz2_1 : w1.cell? ⟨gb108, 1, none⟩ = some (.int .i64 0) := (blk_cell BK108.out 1).trans rfl; have hcz2_2 : w1.cell? ⟨gb108, 2, none⟩ = some (.int .i64 0) := (blk_cell BK108.out 2).trans rfl; have hcz2_3 : w1.cell? ⟨gb108, 3, none⟩ = some (.int .i64 0) := (blk_cell BK108.out 3).trans rfl; have hcz2_4 : w1.cell? ⟨gb108, 4, none⟩ = some (.int .i64 0) := (blk_cell BK108.out 4).trans rfl; have hcz2_5 : w1.cell? ⟨gb108, 5, none⟩ = some (.int .i64 0) := (blk_cell BK108.out 5).trans rfl; have hcz2_6 : w1.cell? ⟨gb108, 6, none⟩ = some (.int .i64 0) := (blk_cell BK108.out 6).trans rfl; have hcz2_7 : w1.cell? ⟨gb108, 7, none⟩ = some (.int .i64 0) := (blk_cell BK108.out 7).trans rfl; have hcz2_8 : w1.cell? ⟨gb108, 8, none⟩ = some (.int .i64 0) := (blk_cell BK108.out 8).trans rfl; have hcz2_9 : w1.cell? ⟨gb108, 9, none⟩ = some (.int .i64 0) := (blk_cell BK108.out 9).trans rfl; have hcz2_10 : w1.cell? ⟨gb108, 10, none⟩ = some (.int .i64 0) := (blk_cell BK108.out 10).trans rfl; have hcz2_11 : w1.cell? ⟨gb108, 11, none⟩ = some (.int .i64 0) := (blk_cell BK108.out 11).trans rfl; have hfz2_0 := blk_frozen BK108.out 0; have hfz2_1 := blk_frozen BK108.out 1; have hfz2_2 := blk_frozen BK108.out 2; have hfz2_3 := blk_frozen BK108.out 3; have hfz2_4 := blk_frozen BK108.out 4; have hfz2_5 := blk_frozen BK108.out 5; have hfz2_6 := blk_frozen BK108.out 6; have hfz2_7 := blk_frozen BK108.out 7; have hfz2_8 := blk_frozen BK108.out 8; have hfz2_9 := blk_frozen BK108.out 9; have hfz2_10 := blk_frozen BK108.out 10; have hfz2_11 := blk_frozen BK108.out 11))
  refine bodyPost_ret (results_cell_row rfl _ _ gb108 57 #[.int .i64 0, .int .i64 0, .int .i64 0, .int .i64 (-1), .int .i64 0, .int .i64 0, .int .i64 0, .int .i64 0, .int .i64 0, .int .i64 0, .int .i64 2, .int .i64 0] (0, 0) _ rfl (by (with_reducible repeat (first | refine blk_drewN ?_ _ | refine blk_drew ?_ | refine blk_alloc ?_ _)); refine blk_put (cs := #[.int .i64 0, .int .i64 0, .int .i64 0, .int .i64 (-1), .int .i64 0, .int .i64 0, .int .i64 0, .int .i64 0, .int .i64 0, .int .i64 0, .int .i64 2, .int .i64 0]) ?_ 11 _ rfl; (with_reducible repeat (first | refine blk_drewN ?_ _ | refine blk_drew ?_ | refine blk_alloc ?_ _)); refine blk_put (cs := #[.int .i64 0, .int .i64 0, .int .i64 0, .int .i64 (-1), .int .i64 0, .int .i64 0, .int .i64 0, .int .i64 0, .int .i64 0, .int .i64 0, .int .i64 0, .int .i64 0]) ?_ 10 _ rfl; (with_reducible repeat (first | refine blk_drewN ?_ _ | refine blk_drew ?_ | refine blk_alloc ?_ _)); refine blk_put (cs := #[.int .i64 0, .int .i64 0, .int .i64 0, .int .i64 (-1), .int .i64 0, .int .i64 0, .int .i64 0, .int .i64 0, .int .i64 0, .int .i64 0, .int .i64 0, .int .i64 0]) ?_ 9 _ rfl; (with_reducible repeat (first | refine blk_drewN ?_ _ | refine blk_drew ?_ | refine blk_alloc ?_ _)); refine blk_put (cs := #[.int .i64 0, .int .i64 0, .int .i64 0, .int .i64 (-1), .int .i64 0, .int .i64 0, .int .i64 0, .int .i64 0, .int .i64 0, .int .i64 0, .int .i64 0, .int .i64 0]) ?_ 8 _ rfl; (with_reducible repeat (first | refine blk_drewN ?_ _ | refine blk_drew ?_ | refine blk_alloc ?_ _)); refine blk_put (cs := #[.int .i64 0, .int .i64 0, .int .i64 0, .int .i64 (-1), .int .i64 0, .int .i64 0, .int .i64 0, .int .i64 0, .int .i64 0, .int .i64 0, .int .i64 0, .int .i64 0]) ?_ 7 _ rfl; (with_reducible repeat (first | refine blk_drewN ?_ _ | refine blk_drew ?_ | refine blk_alloc ?_ _)); refine blk_put (cs := #[.int .i64 0, .int .i64 0, .int .i64 0, .int .i64 (-1), .int .i64 0, .int .i64 0, .int .i64 0, .int .i64 0, .int .i64 0, .int .i64 0, .int .i64 0, .int .i64 0]) ?_ 6 _ rfl; (with_reducible repeat (first | refine blk_drewN ?_ _ | refine blk_drew ?_ | refine blk_alloc ?_ _)); refine blk_put (cs := #[.int .i64 0, .int .i64 0, .int .i64 0, .int .i64 (-1), .int .i64 0, .int .i64 0, .int .i64 0, .int .i64 0, .int .i64 0, .int .i64 0, .int .i64 0, .int .i64 0]) ?_ 5 _ rfl; (with_reducible repeat (first | refine blk_drewN ?_ _ | refine blk_drew ?_ | refine blk_alloc ?_ _)); refine blk_put (cs := #[.int .i64 0, .int .i64 0, .int .i64 0, .int .i64 (-1), .int .i64 0, .int .i64 0, .int .i64 0, .int .i64 0, .int .i64 0, .int .i64 0, .int .i64 0, .int .i64 0]) ?_ 4 _ rfl; (with_reducible repeat (first | refine blk_drewN ?_ _ | refine blk_drew ?_ | refine blk_alloc ?_ _)); refine blk_put (cs := #[.int .i64 0, .int .i64 0, .int .i64 0, .int .i64 0, .int .i64 0, .int .i64 0, .int .i64 0, .int .i64 0, .int .i64 0, .int .i64 0, .int .i64 0, .int .i64 0]) ?_ 3 _ rfl; (with_reducible repeat (first | refine blk_drewN ?_ _ | refine blk_drew ?_ | refine blk_alloc ?_ _)); refine blk_put (cs := #[.int .i64 0, .int .i64 0, .int .i64 0, .int .i64 0, .int .i64 0, .int .i64 0, .int .i64 0, .int .i64 0, .int .i64 0, .int .i64 0, .int .i64 0, .int .i64 0]) ?_ 2 _ rfl; (with_reducible repeat (first | refine blk_drewN ?_ _ | refine blk_drew ?_ | refine blk_alloc ?_ _)); refine blk_put (cs := #[.int .i64 0, .int .i64 0, .int .i64 0, .int .i64 0, .int .i64 0, .int .i64 0, .int .i64 0, .int .i64 0, .int .i64 0, .int .i64 0, .int .i64 0, .int .i64 0]) ?_ 1 _ rfl; (with_reducible repeat (first | refine blk_drewN ?_ _ | refine blk_drew ?_ | refine blk_alloc ?_ _)); refine blk_put (cs := #[.int .i64 0, .int .i64 0, .int .i64 0, .int .i64 0, .int .i64 0, .int .i64 0, .int .i64 0, .int .i64 0, .int .i64 0, .int .i64 0, .int .i64 0, .int .i64 0]) ?_ 0 _ rfl; (with_reducible repeat (first | refine blk_drewN ?_ _ | refine blk_drew ?_ | refine blk_alloc ?_ _)); exact BK108.out) Try.underlying57 rfl (by kernel_rfl)) rfl ?_
  exact ⟨by first | rfl | (simp [errW_none, errW_some] <;> rfl) | (simp [*, errW_none, errW_some] <;> rfl), by repeat (first | (with_reducible first | exact HB.out | apply below_alloc | apply pw_below_drewN | apply below_drew1 | refine below_set ?_ GE108.out) | exact HB.out)⟩

end Go.Proofs.Ytgmnbpdfdagniaa.A
-- Printed by this session's oprint.py through the kit's printer.
namespace Go.Proofs.Ytgmnbpdfdagniaa.A
open Go.RowKit Go.Proofs.YtgmnbpdfdagniaaW.PrintWords Go.Proofs.YtgmnbpdfdagniaaW.PrintLast Go.Proofs.YtgmnbpdfdagniaaW.PrintMore
attribute [local go_sem] max2_int min2_int max_two min_two max_three min_three max_four min_four   -- for this text's walks alone
set_option linter.unusedVariables false
set_option linter.unusedSimpArgs false

/-! ### spec_l00In: function 42 -/
def spec_l00In.f (a0 : Int) (a1 : Int) (a2 : Int) : Option (Bool) := if a0 ≥ a1 then (some (decide (a0 ≤ a2))) else (some false)
set_option maxHeartbeats 8000000 in
set_option maxRecDepth 100000 in
theorem spec_l00In.calls (a0 : Int) (a1 : Int) (a2 : Int) (r : Bool) (w : World) (h : spec_l00In.f a0 a1 a2 = some r) :
    Calls Try.prog 42 #[.int .i64 a0, .int .i64 a1, .int .i64 a2] w fun e w' => e = .returned (.bool r) ∧ Drawn0 w w' := by
  have H : (if a0 ≥ a1 then (some (decide (a0 ≤ a2))) else (some false)) = some r := h
  clear h
  by_cases c4 : a0 ≥ a1
  · rw [if_pos c4] at H
    have c4b0 : decide (a1 ≤ a0) = true := decide_eq_true c4
    clear c4
    obtain rfl := Option.some.inj H
    go_enter Try.func42, Try.ntmps42
    go_wp2
    go_ret
    exact ⟨by first | rfl | (simp; done) | (simp [*]; done), by repeat (first | exact Drawn0.refl _ | apply Drawn0.step)⟩
  · rw [if_neg c4] at H
    have c4b0 : decide (a1 ≤ a0) = false := decide_eq_false c4
    clear c4
    obtain rfl := Option.some.inj H
    go_enter Try.func42, Try.ntmps42
    go_wp2
    go_ret
    exact ⟨by first | rfl | (simp; done) | (simp [*]; done), by repeat (first | exact Drawn0.refl _ | apply Drawn0.step)⟩

end Go.Proofs.Ytgmnbpdfdagniaa.A
-- Printed by this session's oprint.py through the kit's printer.
namespace Go.Proofs.Ytgmnbpdfdagniaa.A
open Go.RowKit Go.Proofs.YtgmnbpdfdagniaaW.PrintWords Go.Proofs.YtgmnbpdfdagniaaW.PrintLast Go.Proofs.YtgmnbpdfdagniaaW.PrintMore
attribute [local go_sem] max2_int min2_int max_two min_two max_three min_three max_four min_four   -- for this text's walks alone
set_option linter.unusedVariables false
set_option linter.unusedSimpArgs false

/-- A state of type 33 at block g of W; what its slices lead to came in by w0. -/
def IsS33 (w0 W : World) (g : Nat) (f0 : Int) (f1 : Int) (f2 : Int) (f3 : Int) : Prop := W.heap[g]? = some (.cells #[.int .i64 f0, .int .i64 f1, .int .i64 f2, .int .i64 f3] 33 (0, 0)) ∧ w0.heap.size ≤ g
theorem IsS33.grown {w0 W : World} {g : Nat} {f0 : Int} {f1 : Int} {f2 : Int} {f3 : Int} {W1 : World} {row : Option Nat} (h : IsS33 w0 W g f0 f1 f2 f3) (hw : W.grownBy W1 row) (hne : some g ≠ row) : IsS33 w0 W1 g f0 f1 f2 f3 := by
  obtain ⟨hb, hg⟩ := h
  exact ⟨blk_grown hb hw hne, hg⟩
theorem IsS33.own_neN {w0 W : World} {g : Nat} {f0 : Int} {f1 : Int} {f2 : Int} {f3 : Int} {α : Type} {d : Kd α} {e : Nat} {base : Nat} {ok : Nat → Prop} {v : Value} {xs : List α} (h : IsS33 w0 W g f0 f1 f2 f3) (ho : Kd.N d e W base ok v xs) (ht : e ≠ 33) : some g ≠ v.ownBlock := by
  obtain ⟨hb, hg⟩ := h
  exact Kd.N_ne ho hb ht
theorem IsS33.fresh {w0 W : World} {g : Nat} {f0 : Int} {f1 : Int} {f2 : Int} {f3 : Int} (h : IsS33 w0 W g f0 f1 f2 f3) : ∀ k, W.heap.size ≤ k → k ≠ g := by
  obtain ⟨hb, hg⟩ := h
  exact Kd.freshB hb
theorem IsS33.kept {w0 W : World} {g : Nat} {f0 : Int} {f1 : Int} {f2 : Int} {f3 : Int} {W1 : World} {S : Nat → Prop} (h : IsS33 w0 W g f0 f1 f2 f3) (hk : Kept W W1 S) (hne : ¬ S g) : IsS33 w0 W1 g f0 f1 f2 f3 := by
  obtain ⟨hb, hg⟩ := h
  exact ⟨blk_kept hb hk hne, hg⟩
theorem IsS33.below {w0 W : World} {g : Nat} {f0 : Int} {f1 : Int} {f2 : Int} {f3 : Int} {W1 : World} (h : IsS33 w0 W g f0 f1 f2 f3) (hw : Below W.heap.size W W1) : IsS33 w0 W1 g f0 f1 f2 f3 := h.grown (grown_of_below hw none) (by simp)
theorem IsS33.alloc {w0 W : World} {g : Nat} {f0 : Int} {f1 : Int} {f2 : Int} {f3 : Int} (h : IsS33 w0 W g f0 f1 f2 f3) (o : Obj) : IsS33 w0 (W.alloc o) g f0 f1 f2 f3 := h.below (below_alloc (Below.refl _ _) o)
theorem IsS33.drewN {w0 W : World} {g : Nat} {f0 : Int} {f1 : Int} {f2 : Int} {f3 : Int} (h : IsS33 w0 W g f0 f1 f2 f3) (m : Nat) : IsS33 w0 (W.drewN m) g f0 f1 f2 f3 := h
theorem IsS33.drew {w0 W : World} {g : Nat} {f0 : Int} {f1 : Int} {f2 : Int} {f3 : Int} (h : IsS33 w0 W g f0 f1 f2 f3) : IsS33 w0 W.drew g f0 f1 f2 f3 := h
theorem IsS33.at_ {w0 W : World} {g : Nat} {f0 : Int} {f1 : Int} {f2 : Int} {f3 : Int} {w' : World} {m : Nat} (hq : W.drewN m = w') (h : IsS33 w0 W g f0 f1 f2 f3) : IsS33 w0 w' g f0 f1 f2 f3 := by subst hq; exact IsS33.drewN h m
theorem IsS33.apart {w0 W : World} {g : Nat} {f0 : Int} {f1 : Int} {f2 : Int} {f3 : Int} {α : Type} {d : Kd α} {e : Nat} {base : Nat} {ok : Nat → Prop} {v : Value} {xs : List α} (h : IsS33 w0 W g f0 f1 f2 f3) (ho : d.R e W base ok v xs) (ht : ∀ q, q ∈ e :: d.E → q ≠ 33) : d.R e W base (fun k => ok k ∧ k ≠ g) v xs := by
  obtain ⟨hb, hg⟩ := h
  exact Kd.R_types ho hb ht
theorem IsS33.own_ne {w0 W : World} {g : Nat} {f0 : Int} {f1 : Int} {f2 : Int} {f3 : Int} {α : Type} {d : Kd α} {e : Nat} {base : Nat} {ok : Nat → Prop} {v : Value} {xs : List α} (h : IsS33 w0 W g f0 f1 f2 f3) (ho : d.R e W base ok v xs) (ht : e ≠ 33) : some g ≠ v.ownBlock := by
  obtain ⟨hb, hg⟩ := h
  exact Kd.R_ne ho hb ht
theorem IsS33.apartQ {w0 W : World} {g : Nat} {f0 : Int} {f1 : Int} {f2 : Int} {f3 : Int} {α : Type} {d : Kd α} {e : Nat} {base : Nat} {ok : Nat → Prop} {v : Value} {xs : List α} (h : IsS33 w0 W g f0 f1 f2 f3) (ho : d.Q e W base ok v xs) (ht : ∀ q, q ∈ e :: d.E → q ≠ 33) : d.Q e W base (fun k => ok k ∧ k ≠ g) v xs := by
  obtain ⟨hb, hg⟩ := h
  exact Kd.Q_types ho hb ht
theorem IsS33.own_neQ {w0 W : World} {g : Nat} {f0 : Int} {f1 : Int} {f2 : Int} {f3 : Int} {α : Type} {d : Kd α} {e : Nat} {base : Nat} {ok : Nat → Prop} {v : Value} {xs : List α} (h : IsS33 w0 W g f0 f1 f2 f3) (ho : d.Q e W base ok v xs) (ht : e ≠ 33) : some g ≠ v.ownBlock := by
  obtain ⟨hb, hg⟩ := h
  exact Kd.Q_ne ho hb ht
theorem IsS33.apartS {w0 W : World} {g : Nat} {f0 : Int} {f1 : Int} {f2 : Int} {f3 : Int} {α : Type} {d : Kd α} {e : Nat} {base : Nat} {ok : Nat → Prop} {v : Value} {xs : List α} (h : IsS33 w0 W g f0 f1 f2 f3) (ho : d.S e W base ok v xs) (ht : ∀ q, q ∈ e :: d.E → q ≠ 33) : d.S e W base (fun k => ok k ∧ k ≠ g) v xs := by
  obtain ⟨hb, hg⟩ := h
  exact Kd.S_types ho hb ht
theorem IsS33.own_neS {w0 W : World} {g : Nat} {f0 : Int} {f1 : Int} {f2 : Int} {f3 : Int} {α : Type} {d : Kd α} {e : Nat} {base : Nat} {ok : Nat → Prop} {v : Value} {xs : List α} (h : IsS33 w0 W g f0 f1 f2 f3) (ho : d.S e W base ok v xs) (ht : e ≠ 33) : some g ≠ v.ownBlock := by
  obtain ⟨hb, hg⟩ := h
  exact Kd.S_ne ho hb ht
theorem IsS33.lt {w0 W : World} {g : Nat} {f0 : Int} {f1 : Int} {f2 : Int} {f3 : Int} (h : IsS33 w0 W g f0 f1 f2 f3) : g < W.heap.size := by
  obtain ⟨hb, hg⟩ := h
  exact blk_lt hb
theorem IsS33.ge {w0 W : World} {g : Nat} {f0 : Int} {f1 : Int} {f2 : Int} {f3 : Int} (h : IsS33 w0 W g f0 f1 f2 f3) : w0.heap.size ≤ g := by
  obtain ⟨hb, hg⟩ := h
  exact hg
theorem IsS33.ne_blk {w0 W : World} {g : Nat} {f0 : Int} {f1 : Int} {f2 : Int} {f3 : Int} {a : Nat} {cs : Array Value} {t : TypeId} {fr : Nat × Nat} (h : IsS33 w0 W g f0 f1 f2 f3) (hb2 : W.heap[a]? = some (.cells cs t fr)) (ht : t ≠ 33) : g ≠ a := by
  obtain ⟨hb, hg⟩ := h
  rintro rfl
  rw [hb] at hb2
  injection hb2 with hb2
  injection hb2 with _ ht2
  exact ht ht2.symm
theorem IsS33.far {w0 W : World} {g : Nat} {f0 : Int} {f1 : Int} {f2 : Int} {f3 : Int} {p : Addr} (h : IsS33 w0 W g f0 f1 f2 f3) (hne : g ≠ p.block) (u : Value) : IsS33 w0 (W.setCell p u) g f0 f1 f2 f3 := by
  obtain ⟨hb, hg⟩ := h
  exact ⟨blk_far hb hne u, hg⟩
theorem cellS33_0 {W : World} {g : Nat} {f0 : Int} {f1 : Int} {f2 : Int} {f3 : Int} (h : W.heap[g]? = some (.cells #[.int .i64 f0, .int .i64 f1, .int .i64 f2, .int .i64 f3] 33 (0, 0))) : W.cell? ⟨g, 0, none⟩ = some (.int .i64 f0) := (blk_cell h 0).trans rfl
theorem IsS33.set_0 {w0 W : World} {g : Nat} {f0 : Int} {f1 : Int} {f2 : Int} {f3 : Int} (h : IsS33 w0 W g f0 f1 f2 f3) (x : Int) : IsS33 w0 (W.setCell ⟨g, 0, none⟩ (.int .i64 x)) g x f1 f2 f3 := by
  obtain ⟨hb, hg⟩ := h
  exact ⟨by simpa using blk_set hb 0 (.int .i64 x), hg⟩
theorem cellS33_1 {W : World} {g : Nat} {f0 : Int} {f1 : Int} {f2 : Int} {f3 : Int} (h : W.heap[g]? = some (.cells #[.int .i64 f0, .int .i64 f1, .int .i64 f2, .int .i64 f3] 33 (0, 0))) : W.cell? ⟨g, 1, none⟩ = some (.int .i64 f1) := (blk_cell h 1).trans rfl
theorem IsS33.set_1 {w0 W : World} {g : Nat} {f0 : Int} {f1 : Int} {f2 : Int} {f3 : Int} (h : IsS33 w0 W g f0 f1 f2 f3) (x : Int) : IsS33 w0 (W.setCell ⟨g, 1, none⟩ (.int .i64 x)) g f0 x f2 f3 := by
  obtain ⟨hb, hg⟩ := h
  exact ⟨by simpa using blk_set hb 1 (.int .i64 x), hg⟩
theorem cellS33_2 {W : World} {g : Nat} {f0 : Int} {f1 : Int} {f2 : Int} {f3 : Int} (h : W.heap[g]? = some (.cells #[.int .i64 f0, .int .i64 f1, .int .i64 f2, .int .i64 f3] 33 (0, 0))) : W.cell? ⟨g, 2, none⟩ = some (.int .i64 f2) := (blk_cell h 2).trans rfl
theorem IsS33.set_2 {w0 W : World} {g : Nat} {f0 : Int} {f1 : Int} {f2 : Int} {f3 : Int} (h : IsS33 w0 W g f0 f1 f2 f3) (x : Int) : IsS33 w0 (W.setCell ⟨g, 2, none⟩ (.int .i64 x)) g f0 f1 x f3 := by
  obtain ⟨hb, hg⟩ := h
  exact ⟨by simpa using blk_set hb 2 (.int .i64 x), hg⟩
theorem cellS33_3 {W : World} {g : Nat} {f0 : Int} {f1 : Int} {f2 : Int} {f3 : Int} (h : W.heap[g]? = some (.cells #[.int .i64 f0, .int .i64 f1, .int .i64 f2, .int .i64 f3] 33 (0, 0))) : W.cell? ⟨g, 3, none⟩ = some (.int .i64 f3) := (blk_cell h 3).trans rfl
theorem IsS33.set_3 {w0 W : World} {g : Nat} {f0 : Int} {f1 : Int} {f2 : Int} {f3 : Int} (h : IsS33 w0 W g f0 f1 f2 f3) (x : Int) : IsS33 w0 (W.setCell ⟨g, 3, none⟩ (.int .i64 x)) g f0 f1 f2 x := by
  obtain ⟨hb, hg⟩ := h
  exact ⟨by simpa using blk_set hb 3 (.int .i64 x), hg⟩
theorem IsS33.new (w0 W : World) (f0 : Int) (f1 : Int) (f2 : Int) (f3 : Int) (hB : Below w0.heap.size w0 W) : IsS33 w0 (W.alloc (.cells #[.int .i64 f0, .int .i64 f1, .int .i64 f2, .int .i64 f3] 33)) W.heap.size f0 f1 f2 f3 := ⟨by simpa using heap_alloc_new W _, hB.size⟩

/-! ### spec_l05Link: function 27 -/
def spec_l05Link.f (s0_0 : Int) (s0_1 : Int) (s0_2 : Int) (s0_3 : Int) : Option (Bool × Int × Int × Int × Int) := if s0_0 = 2 then ((spec_l00In.f s0_1 0 2).bind fun t101 => (if t101 = true then ((spec_l00In.f s0_2 0 2).bind fun t102 => (if t102 = true then ((spec_l00In.f s0_3 0 4).bind fun t103 => (some (t103, s0_0, s0_1, s0_2, s0_3))) else (some (false, s0_0, s0_1, s0_2, s0_3)))) else (some (false, s0_0, s0_1, s0_2, s0_3)))) else (if s0_0 = 4 then ((spec_l00In.f s0_1 0 2).bind fun t104 => (if t104 = true then ((spec_l00In.f s0_2 0 2).bind fun t105 => (if t105 = true then ((spec_l00In.f s0_3 0 4).bind fun t106 => (some (t106, s0_0, s0_1, s0_2, s0_3))) else (some (false, s0_0, s0_1, s0_2, s0_3)))) else (some (false, s0_0, s0_1, s0_2, s0_3)))) else (some (false, s0_0, s0_1, s0_2, s0_3)))
set_option maxHeartbeats 8000000 in
set_option maxRecDepth 100000 in
theorem spec_l05Link.calls (g : Nat) (s0_0 : Int) (s0_1 : Int) (s0_2 : Int) (s0_3 : Int) (r1 : Bool) (r2 : Int) (r3 : Int) (r4 : Int) (r5 : Int) (w0 w : World) (hI : IsS33 w0 w g s0_0 s0_1 s0_2 s0_3) (hB : Below w0.heap.size w0 w) (h : spec_l05Link.f s0_0 s0_1 s0_2 s0_3 = some (r1, r2, r3, r4, r5)) :
    Calls Try.prog 27 #[.pointer (some ⟨g, 0, none⟩)] w fun e w' => e = .returned (.bool r1) ∧ IsS33 w0 w' g r2 r3 r4 r5 ∧ Below w0.heap.size w0 w' ∧ KeepBut w w' g none := by
  have HI0 := Aside0.mk hI
  have HK := Aside0.mk (KeepBut.refl w g none)
  have HL := Aside0.mk hB.size
  clear hI
  have HW0 := Aside0.mk hB.size
  have HB := Aside0.mk hB
  clear hB
  have H : (if s0_0 = 2 then ((spec_l00In.f s0_1 0 2).bind fun t101 => (if t101 = true then ((spec_l00In.f s0_2 0 2).bind fun t102 => (if t102 = true then ((spec_l00In.f s0_3 0 4).bind fun t103 => (some (t103, s0_0, s0_1, s0_2, s0_3))) else (some (false, s0_0, s0_1, s0_2, s0_3)))) else (some (false, s0_0, s0_1, s0_2, s0_3)))) else (if s0_0 = 4 then ((spec_l00In.f s0_1 0 2).bind fun t104 => (if t104 = true then ((spec_l00In.f s0_2 0 2).bind fun t105 => (if t105 = true then ((spec_l00In.f s0_3 0 4).bind fun t106 => (some (t106, s0_0, s0_1, s0_2, s0_3))) else (some (false, s0_0, s0_1, s0_2, s0_3)))) else (some (false, s0_0, s0_1, s0_2, s0_3)))) else (some (false, s0_0, s0_1, s0_2, s0_3)))) = some (r1, r2, r3, r4, r5) := h
  clear h
  by_cases c2 : s0_0 = 2
  · rw [if_pos c2] at H
    have c2b0 : (s0_0 == 2) = true := beq_iff_eq.mpr c2
    have c2b1 : (s0_0 != 2) = false := bne_eq_false_iff_eq.mpr c2
    clear c2
    replace H := Option.bind_eq_some_iff.mp H
    obtain ⟨t101, A30, H⟩ := H
    replace H : (if t101 = true then ((spec_l00In.f s0_2 0 2).bind fun t102 => (if t102 = true then ((spec_l00In.f s0_3 0 4).bind fun t103 => (some (t103, s0_0, s0_1, s0_2, s0_3))) else (some (false, s0_0, s0_1, s0_2, s0_3)))) else (some (false, s0_0, s0_1, s0_2, s0_3))) = some (r1, r2, r3, r4, r5) := H
    have A3 := Aside0.mk A30
    clear A30
    by_cases c4 : t101 = true
    · subst c4
      have H1 : ((spec_l00In.f s0_2 0 2).bind fun t102 => (if t102 = true then ((spec_l00In.f s0_3 0 4).bind fun t103 => (some (t103, s0_0, s0_1, s0_2, s0_3))) else (some (false, s0_0, s0_1, s0_2, s0_3)))) = some (r1, r2, r3, r4, r5) := by rw [if_pos rfl] at H; exact H
      clear H
      have H := H1
      clear H1
      replace H := Option.bind_eq_some_iff.mp H
      obtain ⟨t102, A50, H⟩ := H
      replace H : (if t102 = true then ((spec_l00In.f s0_3 0 4).bind fun t103 => (some (t103, s0_0, s0_1, s0_2, s0_3))) else (some (false, s0_0, s0_1, s0_2, s0_3))) = some (r1, r2, r3, r4, r5) := H
      have A5 := Aside0.mk A50
      clear A50
      by_cases c6 : t102 = true
      · subst c6
        have H1 : ((spec_l00In.f s0_3 0 4).bind fun t103 => (some (t103, s0_0, s0_1, s0_2, s0_3))) = some (r1, r2, r3, r4, r5) := by rw [if_pos rfl] at H; exact H
        clear H
        have H := H1
        clear H1
        replace H := Option.bind_eq_some_iff.mp H
        obtain ⟨t103, A70, H⟩ := H
        replace H : (some (t103, s0_0, s0_1, s0_2, s0_3)) = some (r1, r2, r3, r4, r5) := H
        have A7 := Aside0.mk A70
        clear A70
        simp only [Option.some.injEq, Prod.mk.injEq] at H
        obtain ⟨rfl, rfl, rfl, rfl, rfl⟩ := H
        obtain ⟨HGz8, hgz8⟩ := HI0.out
        have hcz8_0 := cellS33_0 HGz8
        have hcz8_1 := cellS33_1 HGz8
        have hcz8_2 := cellS33_2 HGz8
        have hcz8_3 := cellS33_3 HGz8
        have hfz8_0 := blk_frozen HGz8 0
        have hfz8_1 := blk_frozen HGz8 1
        have hfz8_2 := blk_frozen HGz8 2
        have hfz8_3 := blk_frozen HGz8 3
        clear HGz8 hgz8
        go_enter Try.func27, Try.ntmps27
        go_wp2_with (first | (go_at_call 42; (with_reducible refine (spec_l00In.calls s0_1 0 2 true _ A3.out).mono ?_); rintro e w' ⟨rfl, ⟨nd, rfl⟩⟩) | (go_at_call 42; (with_reducible refine (spec_l00In.calls s0_2 0 2 true _ A5.out).mono ?_); rintro e w' ⟨rfl, ⟨nd, rfl⟩⟩) | (go_at_call 42; (with_reducible refine (spec_l00In.calls s0_3 0 4 t103 _ A7.out).mono ?_); rintro e w' ⟨rfl, ⟨nd, rfl⟩⟩))
        go_ret
        exact ⟨by first | rfl | (simp [errW_none, errW_some] <;> rfl) | (simp [*, errW_none, errW_some] <;> rfl), by repeat (first | (with_reducible first | exact HI0.out | apply IsS33.alloc | apply IsS33.drewN | apply IsS33.drew | apply IsS33.set_0 | apply IsS33.set_1 | apply IsS33.set_2 | apply IsS33.set_3) | exact HI0.out), by repeat (first | (with_reducible first | exact HB.out | apply below_alloc | apply pw_below_drewN | apply below_drew1 | refine below_set ?_ (IsS33.ge HI0.out)) | exact HB.out), by repeat (first | (with_reducible first | exact HK.out | apply KeepBut.set_ | apply keep_drewN | apply keep_drew | apply keep_alloc) | exact HK.out)⟩
      · replace c6 := Bool.eq_false_iff.mpr c6
        subst c6
        have H1 : (some (false, s0_0, s0_1, s0_2, s0_3)) = some (r1, r2, r3, r4, r5) := by rw [if_neg (show ¬ (false = true) by decide)] at H; exact H
        clear H
        have H := H1
        clear H1
        simp only [Option.some.injEq, Prod.mk.injEq] at H
        obtain ⟨rfl, rfl, rfl, rfl, rfl⟩ := H
        obtain ⟨HGz9, hgz9⟩ := HI0.out
        have hcz9_0 := cellS33_0 HGz9
        have hcz9_1 := cellS33_1 HGz9
        have hcz9_2 := cellS33_2 HGz9
        have hcz9_3 := cellS33_3 HGz9
        have hfz9_0 := blk_frozen HGz9 0
        have hfz9_1 := blk_frozen HGz9 1
        have hfz9_2 := blk_frozen HGz9 2
        have hfz9_3 := blk_frozen HGz9 3
        clear HGz9 hgz9
        go_enter Try.func27, Try.ntmps27
        go_wp2_with (first | (go_at_call 42; (with_reducible refine (spec_l00In.calls s0_1 0 2 true _ A3.out).mono ?_); rintro e w' ⟨rfl, ⟨nd, rfl⟩⟩) | (go_at_call 42; (with_reducible refine (spec_l00In.calls s0_2 0 2 false _ A5.out).mono ?_); rintro e w' ⟨rfl, ⟨nd, rfl⟩⟩))
        go_ret
        exact ⟨by first | rfl | (simp [errW_none, errW_some] <;> rfl) | (simp [*, errW_none, errW_some] <;> rfl), by repeat (first | (with_reducible first | exact HI0.out | apply IsS33.alloc | apply IsS33.drewN | apply IsS33.drew | apply IsS33.set_0 | apply IsS33.set_1 | apply IsS33.set_2 | apply IsS33.set_3) | exact HI0.out), by repeat (first | (with_reducible first | exact HB.out | apply below_alloc | apply pw_below_drewN | apply below_drew1 | refine below_set ?_ (IsS33.ge HI0.out)) | exact HB.out), by repeat (first | (with_reducible first | exact HK.out | apply KeepBut.set_ | apply keep_drewN | apply keep_drew | apply keep_alloc) | exact HK.out)⟩
    · replace c4 := Bool.eq_false_iff.mpr c4
      subst c4
      have H1 : (some (false, s0_0, s0_1, s0_2, s0_3)) = some (r1, r2, r3, r4, r5) := by rw [if_neg (show ¬ (false = true) by decide)] at H; exact H
      clear H
      have H := H1
      clear H1
      simp only [Option.some.injEq, Prod.mk.injEq] at H
      obtain ⟨rfl, rfl, rfl, rfl, rfl⟩ := H
      obtain ⟨HGz10, hgz10⟩ := HI0.out
      have hcz10_0 := cellS33_0 HGz10
      have hcz10_1 := cellS33_1 HGz10
      have hcz10_2 := cellS33_2 HGz10
      have hcz10_3 := cellS33_3 HGz10
      have hfz10_0 := blk_frozen HGz10 0
      have hfz10_1 := blk_frozen HGz10 1
      have hfz10_2 := blk_frozen HGz10 2
      have hfz10_3 := blk_frozen HGz10 3
      clear HGz10 hgz10
      go_enter Try.func27, Try.ntmps27
      go_wp2_with (first | (go_at_call 42; (with_reducible refine (spec_l00In.calls s0_1 0 2 false _ A3.out).mono ?_); rintro e w' ⟨rfl, ⟨nd, rfl⟩⟩))
      go_ret
      exact ⟨by first | rfl | (simp [errW_none, errW_some] <;> rfl) | (simp [*, errW_none, errW_some] <;> rfl), by repeat (first | (with_reducible first | exact HI0.out | apply IsS33.alloc | apply IsS33.drewN | apply IsS33.drew | apply IsS33.set_0 | apply IsS33.set_1 | apply IsS33.set_2 | apply IsS33.set_3) | exact HI0.out), by repeat (first | (with_reducible first | exact HB.out | apply below_alloc | apply pw_below_drewN | apply below_drew1 | refine below_set ?_ (IsS33.ge HI0.out)) | exact HB.out), by repeat (first | (with_reducible first | exact HK.out | apply KeepBut.set_ | apply keep_drewN | apply keep_drew | apply keep_alloc) | exact HK.out)⟩
  · rw [if_neg c2] at H
    have c2b0 : (s0_0 == 2) = false := beq_eq_false_iff_ne.mpr c2
    have c2b1 : (s0_0 != 2) = true := bne_iff_ne.mpr c2
    by_cases c11 : s0_0 = 4
    · rw [if_pos c11] at H
      have c11b0 : (s0_0 == 4) = true := beq_iff_eq.mpr c11
      have c11b1 : (s0_0 != 4) = false := bne_eq_false_iff_eq.mpr c11
      clear c11
      replace H := Option.bind_eq_some_iff.mp H
      obtain ⟨t104, A120, H⟩ := H
      replace H : (if t104 = true then ((spec_l00In.f s0_2 0 2).bind fun t105 => (if t105 = true then ((spec_l00In.f s0_3 0 4).bind fun t106 => (some (t106, s0_0, s0_1, s0_2, s0_3))) else (some (false, s0_0, s0_1, s0_2, s0_3)))) else (some (false, s0_0, s0_1, s0_2, s0_3))) = some (r1, r2, r3, r4, r5) := H
      have A12 := Aside0.mk A120
      clear A120
      by_cases c13 : t104 = true
      · subst c13
        have H1 : ((spec_l00In.f s0_2 0 2).bind fun t105 => (if t105 = true then ((spec_l00In.f s0_3 0 4).bind fun t106 => (some (t106, s0_0, s0_1, s0_2, s0_3))) else (some (false, s0_0, s0_1, s0_2, s0_3)))) = some (r1, r2, r3, r4, r5) := by rw [if_pos rfl] at H; exact H
        clear H
        have H := H1
        clear H1
        replace H := Option.bind_eq_some_iff.mp H
        obtain ⟨t105, A140, H⟩ := H
        replace H : (if t105 = true then ((spec_l00In.f s0_3 0 4).bind fun t106 => (some (t106, s0_0, s0_1, s0_2, s0_3))) else (some (false, s0_0, s0_1, s0_2, s0_3))) = some (r1, r2, r3, r4, r5) := H
        have A14 := Aside0.mk A140
        clear A140
        by_cases c15 : t105 = true
        · subst c15
          have H1 : ((spec_l00In.f s0_3 0 4).bind fun t106 => (some (t106, s0_0, s0_1, s0_2, s0_3))) = some (r1, r2, r3, r4, r5) := by rw [if_pos rfl] at H; exact H
          clear H
          have H := H1
          clear H1
          replace H := Option.bind_eq_some_iff.mp H
          obtain ⟨t106, A160, H⟩ := H
          replace H : (some (t106, s0_0, s0_1, s0_2, s0_3)) = some (r1, r2, r3, r4, r5) := H
          have A16 := Aside0.mk A160
          clear A160
          simp only [Option.some.injEq, Prod.mk.injEq] at H
          obtain ⟨rfl, rfl, rfl, rfl, rfl⟩ := H
          obtain ⟨HGz17, hgz17⟩ := HI0.out
          have hcz17_0 := cellS33_0 HGz17
          have hcz17_1 := cellS33_1 HGz17
          have hcz17_2 := cellS33_2 HGz17
          have hcz17_3 := cellS33_3 HGz17
          have hfz17_0 := blk_frozen HGz17 0
          have hfz17_1 := blk_frozen HGz17 1
          have hfz17_2 := blk_frozen HGz17 2
          have hfz17_3 := blk_frozen HGz17 3
          clear HGz17 hgz17
          go_enter Try.func27, Try.ntmps27
          go_wp2_with (first | (go_at_call 42; (with_reducible refine (spec_l00In.calls s0_1 0 2 true _ A12.out).mono ?_); rintro e w' ⟨rfl, ⟨nd, rfl⟩⟩) | (go_at_call 42; (with_reducible refine (spec_l00In.calls s0_2 0 2 true _ A14.out).mono ?_); rintro e w' ⟨rfl, ⟨nd, rfl⟩⟩) | (go_at_call 42; (with_reducible refine (spec_l00In.calls s0_3 0 4 t106 _ A16.out).mono ?_); rintro e w' ⟨rfl, ⟨nd, rfl⟩⟩))
          go_ret
          exact ⟨by first | rfl | (simp [errW_none, errW_some] <;> rfl) | (simp [*, errW_none, errW_some] <;> rfl), by repeat (first | (with_reducible first | exact HI0.out | apply IsS33.alloc | apply IsS33.drewN | apply IsS33.drew | apply IsS33.set_0 | apply IsS33.set_1 | apply IsS33.set_2 | apply IsS33.set_3) | exact HI0.out), by repeat (first | (with_reducible first | exact HB.out | apply below_alloc | apply pw_below_drewN | apply below_drew1 | refine below_set ?_ (IsS33.ge HI0.out)) | exact HB.out), by repeat (first | (with_reducible first | exact HK.out | apply KeepBut.set_ | apply keep_drewN | apply keep_drew | apply keep_alloc) | exact HK.out)⟩
        · replace c15 := Bool.eq_false_iff.mpr c15
          subst c15
          have H1 : (some (false, s0_0, s0_1, s0_2, s0_3)) = some (r1, r2, r3, r4, r5) := by rw [if_neg (show ¬ (false = true) by decide)] at H; exact H
          clear H
          have H := H1
          clear H1
          simp only [Option.some.injEq, Prod.mk.injEq] at H
          obtain ⟨rfl, rfl, rfl, rfl, rfl⟩ := H
          obtain ⟨HGz18, hgz18⟩ := HI0.out
          have hcz18_0 := cellS33_0 HGz18
          have hcz18_1 := cellS33_1 HGz18
          have hcz18_2 := cellS33_2 HGz18
          have hcz18_3 := cellS33_3 HGz18
          have hfz18_0 := blk_frozen HGz18 0
          have hfz18_1 := blk_frozen HGz18 1
          have hfz18_2 := blk_frozen HGz18 2
          have hfz18_3 := blk_frozen HGz18 3
          clear HGz18 hgz18
          go_enter Try.func27, Try.ntmps27
          go_wp2_with (first | (go_at_call 42; (with_reducible refine (spec_l00In.calls s0_1 0 2 true _ A12.out).mono ?_); rintro e w' ⟨rfl, ⟨nd, rfl⟩⟩) | (go_at_call 42; (with_reducible refine (spec_l00In.calls s0_2 0 2 false _ A14.out).mono ?_); rintro e w' ⟨rfl, ⟨nd, rfl⟩⟩))
          go_ret
          exact ⟨by first | rfl | (simp [errW_none, errW_some] <;> rfl) | (simp [*, errW_none, errW_some] <;> rfl), by repeat (first | (with_reducible first | exact HI0.out | apply IsS33.alloc | apply IsS33.drewN | apply IsS33.drew | apply IsS33.set_0 | apply IsS33.set_1 | apply IsS33.set_2 | apply IsS33.set_3) | exact HI0.out), by repeat (first | (with_reducible first | exact HB.out | apply below_alloc | apply pw_below_drewN | apply below_drew1 | refine below_set ?_ (IsS33.ge HI0.out)) | exact HB.out), by repeat (first | (with_reducible first | exact HK.out | apply KeepBut.set_ | apply keep_drewN | apply keep_drew | apply keep_alloc) | exact HK.out)⟩
      · replace c13 := Bool.eq_false_iff.mpr c13
        subst c13
        have H1 : (some (false, s0_0, s0_1, s0_2, s0_3)) = some (r1, r2, r3, r4, r5) := by rw [if_neg (show ¬ (false = true) by decide)] at H; exact H
        clear H
        have H := H1
        clear H1
        simp only [Option.some.injEq, Prod.mk.injEq] at H
        obtain ⟨rfl, rfl, rfl, rfl, rfl⟩ := H
        obtain ⟨HGz19, hgz19⟩ := HI0.out
        have hcz19_0 := cellS33_0 HGz19
        have hcz19_1 := cellS33_1 HGz19
        have hcz19_2 := cellS33_2 HGz19
        have hcz19_3 := cellS33_3 HGz19
        have hfz19_0 := blk_frozen HGz19 0
        have hfz19_1 := blk_frozen HGz19 1
        have hfz19_2 := blk_frozen HGz19 2
        have hfz19_3 := blk_frozen HGz19 3
        clear HGz19 hgz19
        go_enter Try.func27, Try.ntmps27
        go_wp2_with (first | (go_at_call 42; (with_reducible refine (spec_l00In.calls s0_1 0 2 false _ A12.out).mono ?_); rintro e w' ⟨rfl, ⟨nd, rfl⟩⟩))
        go_ret
        exact ⟨by first | rfl | (simp [errW_none, errW_some] <;> rfl) | (simp [*, errW_none, errW_some] <;> rfl), by repeat (first | (with_reducible first | exact HI0.out | apply IsS33.alloc | apply IsS33.drewN | apply IsS33.drew | apply IsS33.set_0 | apply IsS33.set_1 | apply IsS33.set_2 | apply IsS33.set_3) | exact HI0.out), by repeat (first | (with_reducible first | exact HB.out | apply below_alloc | apply pw_below_drewN | apply below_drew1 | refine below_set ?_ (IsS33.ge HI0.out)) | exact HB.out), by repeat (first | (with_reducible first | exact HK.out | apply KeepBut.set_ | apply keep_drewN | apply keep_drew | apply keep_alloc) | exact HK.out)⟩
    · rw [if_neg c11] at H
      have c11b0 : (s0_0 == 4) = false := beq_eq_false_iff_ne.mpr c11
      have c11b1 : (s0_0 != 4) = true := bne_iff_ne.mpr c11
      simp only [Option.some.injEq, Prod.mk.injEq] at H
      obtain ⟨rfl, rfl, rfl, rfl, rfl⟩ := H
      obtain ⟨HGz20, hgz20⟩ := HI0.out
      have hcz20_0 := cellS33_0 HGz20
      have hcz20_1 := cellS33_1 HGz20
      have hcz20_2 := cellS33_2 HGz20
      have hcz20_3 := cellS33_3 HGz20
      have hfz20_0 := blk_frozen HGz20 0
      have hfz20_1 := blk_frozen HGz20 1
      have hfz20_2 := blk_frozen HGz20 2
      have hfz20_3 := blk_frozen HGz20 3
      clear HGz20 hgz20
      go_enter Try.func27, Try.ntmps27
      go_wp2
      go_ret
      exact ⟨by first | rfl | (simp [errW_none, errW_some] <;> rfl) | (simp [*, errW_none, errW_some] <;> rfl), by repeat (first | (with_reducible first | exact HI0.out | apply IsS33.alloc | apply IsS33.drewN | apply IsS33.drew | apply IsS33.set_0 | apply IsS33.set_1 | apply IsS33.set_2 | apply IsS33.set_3) | exact HI0.out), by repeat (first | (with_reducible first | exact HB.out | apply below_alloc | apply pw_below_drewN | apply below_drew1 | refine below_set ?_ (IsS33.ge HI0.out)) | exact HB.out), by repeat (first | (with_reducible first | exact HK.out | apply KeepBut.set_ | apply keep_drewN | apply keep_drew | apply keep_alloc) | exact HK.out)⟩

end Go.Proofs.Ytgmnbpdfdagniaa.A
-- Printed by this session's oprint.py through the kit's printer.
namespace Go.Proofs.Ytgmnbpdfdagniaa.A
open Go.RowKit Go.Proofs.YtgmnbpdfdagniaaW.PrintWords Go.Proofs.YtgmnbpdfdagniaaW.PrintLast Go.Proofs.YtgmnbpdfdagniaaW.PrintMore
attribute [local go_sem] max2_int min2_int max_two min_two max_three min_three max_four min_four   -- for this text's walks alone
set_option linter.unusedVariables false
set_option linter.unusedSimpArgs false

/-! ### spec_l05Ratio: function 28 -/
def spec_l05Ratio.f (a0 : Int) : Option (Bool) := (spec_l00In.f a0 1 4).bind fun t107 => (some t107)
set_option maxHeartbeats 8000000 in
set_option maxRecDepth 100000 in
theorem spec_l05Ratio.calls (a0 : Int) (r : Bool) (w : World) (h : spec_l05Ratio.f a0 = some r) :
    Calls Try.prog 28 #[.int .i64 a0] w fun e w' => e = .returned (.bool r) ∧ Drawn0 w w' := by
  have H : ((spec_l00In.f a0 1 4).bind fun t107 => (some t107)) = some r := h
  clear h
  replace H := Option.bind_eq_some_iff.mp H
  obtain ⟨t107, A20, H⟩ := H
  replace H : (some t107) = some r := H
  have A2 := Aside0.mk A20
  clear A20
  obtain rfl := Option.some.inj H
  go_enter Try.func28, Try.ntmps28
  go_wp2_with (first | ((with_reducible refine gate_callee (f := 42) rfl ?_); refine goesL_ (some 4) rfl rfl Try.func42 (by kernel_rfl) rfl #[.int .i64 a0, .int .i64 1, .int .i64 4] rfl (by (try simp only [List.map_toArray, List.map_cons, List.map_nil]); first | done | rfl | (simp only [List.length_drop, List.length_take]; rfl)) ?_; (with_reducible refine (spec_l00In.calls a0 1 4 t107 _ A2.out).mono ?_); rintro e w' ⟨rfl, ⟨nd, rfl⟩⟩; refine ⟨_, rfl, ?_⟩))
  go_ret
  exact ⟨by first | rfl | (simp; done) | (simp [*]; done), by repeat (first | exact Drawn0.refl _ | apply Drawn0.step)⟩

end Go.Proofs.Ytgmnbpdfdagniaa.A
-- Printed by this session's oprint.py through the kit's printer.
namespace Go.Proofs.Ytgmnbpdfdagniaa.A
open Go.RowKit Go.Proofs.YtgmnbpdfdagniaaW.PrintWords Go.Proofs.YtgmnbpdfdagniaaW.PrintLast Go.Proofs.YtgmnbpdfdagniaaW.PrintMore
attribute [local go_sem] max2_int min2_int max_two min_two max_three min_three max_four min_four   -- for this text's walks alone
set_option linter.unusedVariables false
set_option linter.unusedSimpArgs false

/-! ### spec_l05Letter: function 45 -/
def spec_l05Letter.f (a0 : Int) : Option (ByteArray) := if a0 = 1 then (some (⟨#[115]⟩ : ByteArray)) else (some (⟨#[114]⟩ : ByteArray))
set_option maxHeartbeats 8000000 in
set_option maxRecDepth 100000 in
theorem spec_l05Letter.calls (a0 : Int) (r : ByteArray) (w : World) (h : spec_l05Letter.f a0 = some r) :
    Calls Try.prog 45 #[.int .i64 a0] w fun e w' => e = .returned (.string r) ∧ Drawn0 w w' := by
  have H : (if a0 = 1 then (some (⟨#[115]⟩ : ByteArray)) else (some (⟨#[114]⟩ : ByteArray))) = some r := h
  clear h
  by_cases c2 : a0 = 1
  · rw [if_pos c2] at H
    have c2b0 : (a0 == 1) = true := beq_iff_eq.mpr c2
    have c2b1 : (a0 != 1) = false := bne_eq_false_iff_eq.mpr c2
    clear c2
    obtain rfl := Option.some.inj H
    go_enter Try.func45, Try.ntmps45
    go_wp2
    go_ret
    exact ⟨by first | rfl | (simp; done) | (simp [*]; done), by repeat (first | exact Drawn0.refl _ | apply Drawn0.step)⟩
  · rw [if_neg c2] at H
    have c2b0 : (a0 == 1) = false := beq_eq_false_iff_ne.mpr c2
    have c2b1 : (a0 != 1) = true := bne_iff_ne.mpr c2
    obtain rfl := Option.some.inj H
    go_enter Try.func45, Try.ntmps45
    go_wp2
    go_ret
    exact ⟨by first | rfl | (simp; done) | (simp [*]; done), by repeat (first | exact Drawn0.refl _ | apply Drawn0.step)⟩

end Go.Proofs.Ytgmnbpdfdagniaa.A
-- Printed by this session's oprint.py through the kit's printer.
namespace Go.Proofs.Ytgmnbpdfdagniaa.A
open Go.RowKit Go.Proofs.YtgmnbpdfdagniaaW.PrintWords Go.Proofs.YtgmnbpdfdagniaaW.PrintLast Go.Proofs.YtgmnbpdfdagniaaW.PrintMore
attribute [local go_sem] max2_int min2_int max_two min_two max_three min_three max_four min_four   -- for this text's walks alone
set_option linter.unusedVariables false
set_option linter.unusedSimpArgs false

/-! ### impl_within: function 46 -/
def impl_within.f (a0 : Int) (a1 : Int) (a2 : Int) : Option (Bool) := if a0 ≥ a1 then (some (decide (a0 ≤ a2))) else (some false)
set_option maxHeartbeats 8000000 in
set_option maxRecDepth 100000 in
theorem impl_within.calls (a0 : Int) (a1 : Int) (a2 : Int) (r : Bool) (w : World) (h : impl_within.f a0 a1 a2 = some r) :
    Calls Try.prog 46 #[.int .i64 a0, .int .i64 a1, .int .i64 a2] w fun e w' => e = .returned (.bool r) ∧ Drawn0 w w' := by
  have H : (if a0 ≥ a1 then (some (decide (a0 ≤ a2))) else (some false)) = some r := h
  clear h
  by_cases c4 : a0 ≥ a1
  · rw [if_pos c4] at H
    have c4b0 : decide (a1 ≤ a0) = true := decide_eq_true c4
    clear c4
    obtain rfl := Option.some.inj H
    go_enter Try.func46, Try.ntmps46
    go_wp2
    go_ret
    exact ⟨by first | rfl | (simp; done) | (simp [*]; done), by repeat (first | exact Drawn0.refl _ | apply Drawn0.step)⟩
  · rw [if_neg c4] at H
    have c4b0 : decide (a1 ≤ a0) = false := decide_eq_false c4
    clear c4
    obtain rfl := Option.some.inj H
    go_enter Try.func46, Try.ntmps46
    go_wp2
    go_ret
    exact ⟨by first | rfl | (simp; done) | (simp [*]; done), by repeat (first | exact Drawn0.refl _ | apply Drawn0.step)⟩

end Go.Proofs.Ytgmnbpdfdagniaa.A
-- Printed by this session's oprint.py through the kit's printer.
namespace Go.Proofs.Ytgmnbpdfdagniaa.A
open Go.RowKit Go.Proofs.YtgmnbpdfdagniaaW.PrintWords Go.Proofs.YtgmnbpdfdagniaaW.PrintLast Go.Proofs.YtgmnbpdfdagniaaW.PrintMore
attribute [local go_sem] max2_int min2_int max_two min_two max_three min_three max_four min_four   -- for this text's walks alone
set_option linter.unusedVariables false
set_option linter.unusedSimpArgs false

/-! ### impl_ValidLink: function 30 -/
def impl_ValidLink.f (a0_0 : Int) (a0_1 : Int) (a0_2 : Int) (a0_3 : Int) : Option (Bool) := if a0_0 = 2 then ((impl_within.f a0_1 0 2).bind fun t113 => (if t113 = true then ((impl_within.f a0_2 0 2).bind fun t114 => (if t114 = true then ((impl_within.f a0_3 0 4).bind fun t115 => (some t115)) else (some false))) else (some false))) else (if a0_0 = 4 then ((impl_within.f a0_1 0 2).bind fun t116 => (if t116 = true then ((impl_within.f a0_2 0 2).bind fun t117 => (if t117 = true then ((impl_within.f a0_3 0 4).bind fun t118 => (some t118)) else (some false))) else (some false))) else (some false))
set_option maxHeartbeats 8000000 in
set_option maxRecDepth 100000 in
theorem impl_ValidLink.calls (a0_0 : Int) (a0_1 : Int) (a0_2 : Int) (a0_3 : Int) (r : Bool) (w : World) (h : impl_ValidLink.f a0_0 a0_1 a0_2 a0_3 = some r) :
    Calls Try.prog 30 #[.agg #[.int .i64 a0_0, .int .i64 a0_1, .int .i64 a0_2, .int .i64 a0_3]] w fun e w' => e = .returned (.bool r) ∧ Below w.heap.size w w' := by
  have hu33 := Try.underlying33
  have HB := Aside0.mk (Below.refl w.heap.size w)
  have H : (if a0_0 = 2 then ((impl_within.f a0_1 0 2).bind fun t113 => (if t113 = true then ((impl_within.f a0_2 0 2).bind fun t114 => (if t114 = true then ((impl_within.f a0_3 0 4).bind fun t115 => (some t115)) else (some false))) else (some false))) else (if a0_0 = 4 then ((impl_within.f a0_1 0 2).bind fun t116 => (if t116 = true then ((impl_within.f a0_2 0 2).bind fun t117 => (if t117 = true then ((impl_within.f a0_3 0 4).bind fun t118 => (some t118)) else (some false))) else (some false))) else (some false))) = some r := h
  clear h
  by_cases c2 : a0_0 = 2
  · rw [if_pos c2] at H
    have c2b0 : (a0_0 == 2) = true := beq_iff_eq.mpr c2
    have c2b1 : (a0_0 != 2) = false := bne_eq_false_iff_eq.mpr c2
    clear c2
    replace H := Option.bind_eq_some_iff.mp H
    obtain ⟨t113, A30, H⟩ := H
    replace H : (if t113 = true then ((impl_within.f a0_2 0 2).bind fun t114 => (if t114 = true then ((impl_within.f a0_3 0 4).bind fun t115 => (some t115)) else (some false))) else (some false)) = some r := H
    have A3 := Aside0.mk A30
    clear A30
    by_cases c4 : t113 = true
    · subst c4
      have H1 : ((impl_within.f a0_2 0 2).bind fun t114 => (if t114 = true then ((impl_within.f a0_3 0 4).bind fun t115 => (some t115)) else (some false))) = some r := by rw [if_pos rfl] at H; exact H
      clear H
      have H := H1
      clear H1
      replace H := Option.bind_eq_some_iff.mp H
      obtain ⟨t114, A50, H⟩ := H
      replace H : (if t114 = true then ((impl_within.f a0_3 0 4).bind fun t115 => (some t115)) else (some false)) = some r := H
      have A5 := Aside0.mk A50
      clear A50
      by_cases c6 : t114 = true
      · subst c6
        have H1 : ((impl_within.f a0_3 0 4).bind fun t115 => (some t115)) = some r := by rw [if_pos rfl] at H; exact H
        clear H
        have H := H1
        clear H1
        replace H := Option.bind_eq_some_iff.mp H
        obtain ⟨t115, A70, H⟩ := H
        replace H : (some t115) = some r := H
        have A7 := Aside0.mk A70
        clear A70
        obtain rfl := Option.some.inj H
        go_enter Try.func30, Try.ntmps30
        go_wp2_with (first | ((with_reducible refine gate_dst (N := 1) rfl ?_); refine box_event ?hg (N := 1) ?hd (cs := #[.int .i64 a0_0, .int .i64 a0_1, .int .i64 a0_2, .int .i64 a0_3]) (t := 33) ?hr ?_; (case hd => rfl); (case hg => rfl); (case hr => first | (go_simp; done) | (go_simp; rfl)); intro gb112 hg w8 hbox hb; have n0_ := Aside0.mk (below_step (by repeat (first | (with_reducible first | exact HB.out | apply below_alloc | apply pw_below_drewN | apply below_drew1) | exact HB.out)) hb); have n1_ := Aside0.mk (hbox); have n2_ := Aside0.mk ((by rw [hg]; exact (below_size (by repeat (first | (with_reducible first | exact HB.out | apply below_alloc | apply pw_below_drewN | apply below_drew1) | exact HB.out))) : w.heap.size ≤ gb112)); have n3_ := Aside0.mk ((by rw [hg]; exact (below_size (by repeat (first | (with_reducible first | exact HB.out | apply below_alloc | apply pw_below_drewN | apply below_drew1) | exact HB.out))) : w.heap.size ≤ gb112)); clear HB; have HB := n0_; have BK112 := n1_; have GW112 := n2_; have GE112 := n3_; clear n0_ n1_ n2_ n3_; clear hb hbox hg; have hcz9_0 : w8.cell? ⟨gb112, 0, none⟩ = some (.int .i64 a0_0) := (blk_cell BK112.out 0).trans rfl; have hcz9_1 : w8.cell? ⟨gb112, 1, none⟩ = some (.int .i64 a0_1) := (blk_cell BK112.out 1).trans rfl; have hcz9_2 : w8.cell? ⟨gb112, 2, none⟩ = some (.int .i64 a0_2) := (blk_cell BK112.out 2).trans rfl; have hcz9_3 : w8.cell? ⟨gb112, 3, none⟩ = some (.int .i64 a0_3) := (blk_cell BK112.out 3).trans rfl; have hfz9_0 := blk_frozen BK112.out 0; have hfz9_1 := blk_frozen BK112.out 1; have hfz9_2 := blk_frozen BK112.out 2; have hfz9_3 := blk_frozen BK112.out 3) | (go_at_call 46; (with_reducible refine (impl_within.calls a0_1 0 2 true _ A3.out).mono ?_); rintro e w' ⟨rfl, ⟨nd, rfl⟩⟩) | (go_at_call 46; (with_reducible refine (impl_within.calls a0_2 0 2 true _ A5.out).mono ?_); rintro e w' ⟨rfl, ⟨nd, rfl⟩⟩) | (go_at_call 46; (with_reducible refine (impl_within.calls a0_3 0 4 t115 _ A7.out).mono ?_); rintro e w' ⟨rfl, ⟨nd, rfl⟩⟩))
        go_ret
        exact ⟨by first | rfl | (simp [errW_none, errW_some] <;> rfl) | (simp [*, errW_none, errW_some] <;> rfl), by repeat (first | (with_reducible first | exact HB.out | apply below_alloc | apply pw_below_drewN | apply below_drew1 | refine below_set ?_ GE112.out) | exact HB.out)⟩
      · replace c6 := Bool.eq_false_iff.mpr c6
        subst c6
        have H1 : (some false) = some r := by rw [if_neg (show ¬ (false = true) by decide)] at H; exact H
        clear H
        have H := H1
        clear H1
        obtain rfl := Option.some.inj H
        go_enter Try.func30, Try.ntmps30
        go_wp2_with (first | ((with_reducible refine gate_dst (N := 1) rfl ?_); refine box_event ?hg (N := 1) ?hd (cs := #[.int .i64 a0_0, .int .i64 a0_1, .int .i64 a0_2, .int .i64 a0_3]) (t := 33) ?hr ?_; (case hd => rfl); (case hg => rfl); (case hr => first | (go_simp; done) | (go_simp; rfl)); intro gb112 hg w10 hbox hb; have n0_ := Aside0.mk (below_step (by repeat (first | (with_reducible first | exact HB.out | apply below_alloc | apply pw_below_drewN | apply below_drew1) | exact HB.out)) hb); have n1_ := Aside0.mk (hbox); have n2_ := Aside0.mk ((by rw [hg]; exact (below_size (by repeat (first | (with_reducible first | exact HB.out | apply below_alloc | apply pw_below_drewN | apply below_drew1) | exact HB.out))) : w.heap.size ≤ gb112)); have n3_ := Aside0.mk ((by rw [hg]; exact (below_size (by repeat (first | (with_reducible first | exact HB.out | apply below_alloc | apply pw_below_drewN | apply below_drew1) | exact HB.out))) : w.heap.size ≤ gb112)); clear HB; have HB := n0_; have BK112 := n1_; have GW112 := n2_; have GE112 := n3_; clear n0_ n1_ n2_ n3_; clear hb hbox hg; have hcz11_0 : w10.cell? ⟨gb112, 0, none⟩ = some (.int .i64 a0_0) := (blk_cell BK112.out 0).trans rfl; have hcz11_1 : w10.cell? ⟨gb112, 1, none⟩ = some (.int .i64 a0_1) := (blk_cell BK112.out 1).trans rfl; have hcz11_2 : w10.cell? ⟨gb112, 2, none⟩ = some (.int .i64 a0_2) := (blk_cell BK112.out 2).trans rfl; have hcz11_3 : w10.cell? ⟨gb112, 3, none⟩ = some (.int .i64 a0_3) := (blk_cell BK112.out 3).trans rfl; have hfz11_0 := blk_frozen BK112.out 0; have hfz11_1 := blk_frozen BK112.out 1; have hfz11_2 := blk_frozen BK112.out 2; have hfz11_3 := blk_frozen BK112.out 3) | (go_at_call 46; (with_reducible refine (impl_within.calls a0_1 0 2 true _ A3.out).mono ?_); rintro e w' ⟨rfl, ⟨nd, rfl⟩⟩) | (go_at_call 46; (with_reducible refine (impl_within.calls a0_2 0 2 false _ A5.out).mono ?_); rintro e w' ⟨rfl, ⟨nd, rfl⟩⟩))
        go_ret
        exact ⟨by first | rfl | (simp [errW_none, errW_some] <;> rfl) | (simp [*, errW_none, errW_some] <;> rfl), by repeat (first | (with_reducible first | exact HB.out | apply below_alloc | apply pw_below_drewN | apply below_drew1 | refine below_set ?_ GE112.out) | exact HB.out)⟩
    · replace c4 := Bool.eq_false_iff.mpr c4
      subst c4
      have H1 : (some false) = some r := by rw [if_neg (show ¬ (false = true) by decide)] at H; exact H
      clear H
      have H := H1
      clear H1
      obtain rfl := Option.some.inj H
      go_enter Try.func30, Try.ntmps30
      go_wp2_with (first | ((with_reducible refine gate_dst (N := 1) rfl ?_); refine box_event ?hg (N := 1) ?hd (cs := #[.int .i64 a0_0, .int .i64 a0_1, .int .i64 a0_2, .int .i64 a0_3]) (t := 33) ?hr ?_; (case hd => rfl); (case hg => rfl); (case hr => first | (go_simp; done) | (go_simp; rfl)); intro gb112 hg w12 hbox hb; have n0_ := Aside0.mk (below_step (by repeat (first | (with_reducible first | exact HB.out | apply below_alloc | apply pw_below_drewN | apply below_drew1) | exact HB.out)) hb); have n1_ := Aside0.mk (hbox); have n2_ := Aside0.mk ((by rw [hg]; exact (below_size (by repeat (first | (with_reducible first | exact HB.out | apply below_alloc | apply pw_below_drewN | apply below_drew1) | exact HB.out))) : w.heap.size ≤ gb112)); have n3_ := Aside0.mk ((by rw [hg]; exact (below_size (by repeat (first | (with_reducible first | exact HB.out | apply below_alloc | apply pw_below_drewN | apply below_drew1) | exact HB.out))) : w.heap.size ≤ gb112)); clear HB; have HB := n0_; have BK112 := n1_; have GW112 := n2_; have GE112 := n3_; clear n0_ n1_ n2_ n3_; clear hb hbox hg; have hcz13_0 : w12.cell? ⟨gb112, 0, none⟩ = some (.int .i64 a0_0) := (blk_cell BK112.out 0).trans rfl; have hcz13_1 : w12.cell? ⟨gb112, 1, none⟩ = some (.int .i64 a0_1) := (blk_cell BK112.out 1).trans rfl; have hcz13_2 : w12.cell? ⟨gb112, 2, none⟩ = some (.int .i64 a0_2) := (blk_cell BK112.out 2).trans rfl; have hcz13_3 : w12.cell? ⟨gb112, 3, none⟩ = some (.int .i64 a0_3) := (blk_cell BK112.out 3).trans rfl; have hfz13_0 := blk_frozen BK112.out 0; have hfz13_1 := blk_frozen BK112.out 1; have hfz13_2 := blk_frozen BK112.out 2; have hfz13_3 := blk_frozen BK112.out 3) | (go_at_call 46; (with_reducible refine (impl_within.calls a0_1 0 2 false _ A3.out).mono ?_); rintro e w' ⟨rfl, ⟨nd, rfl⟩⟩))
      go_ret
      exact ⟨by first | rfl | (simp [errW_none, errW_some] <;> rfl) | (simp [*, errW_none, errW_some] <;> rfl), by repeat (first | (with_reducible first | exact HB.out | apply below_alloc | apply pw_below_drewN | apply below_drew1 | refine below_set ?_ GE112.out) | exact HB.out)⟩
  · rw [if_neg c2] at H
    have c2b0 : (a0_0 == 2) = false := beq_eq_false_iff_ne.mpr c2
    have c2b1 : (a0_0 != 2) = true := bne_iff_ne.mpr c2
    by_cases c14 : a0_0 = 4
    · rw [if_pos c14] at H
      have c14b0 : (a0_0 == 4) = true := beq_iff_eq.mpr c14
      have c14b1 : (a0_0 != 4) = false := bne_eq_false_iff_eq.mpr c14
      clear c14
      replace H := Option.bind_eq_some_iff.mp H
      obtain ⟨t116, A150, H⟩ := H
      replace H : (if t116 = true then ((impl_within.f a0_2 0 2).bind fun t117 => (if t117 = true then ((impl_within.f a0_3 0 4).bind fun t118 => (some t118)) else (some false))) else (some false)) = some r := H
      have A15 := Aside0.mk A150
      clear A150
      by_cases c16 : t116 = true
      · subst c16
        have H1 : ((impl_within.f a0_2 0 2).bind fun t117 => (if t117 = true then ((impl_within.f a0_3 0 4).bind fun t118 => (some t118)) else (some false))) = some r := by rw [if_pos rfl] at H; exact H
        clear H
        have H := H1
        clear H1
        replace H := Option.bind_eq_some_iff.mp H
        obtain ⟨t117, A170, H⟩ := H
        replace H : (if t117 = true then ((impl_within.f a0_3 0 4).bind fun t118 => (some t118)) else (some false)) = some r := H
        have A17 := Aside0.mk A170
        clear A170
        by_cases c18 : t117 = true
        · subst c18
          have H1 : ((impl_within.f a0_3 0 4).bind fun t118 => (some t118)) = some r := by rw [if_pos rfl] at H; exact H
          clear H
          have H := H1
          clear H1
          replace H := Option.bind_eq_some_iff.mp H
          obtain ⟨t118, A190, H⟩ := H
          replace H : (some t118) = some r := H
          have A19 := Aside0.mk A190
          clear A190
          obtain rfl := Option.some.inj H
          go_enter Try.func30, Try.ntmps30
          go_wp2_with (first | ((with_reducible refine gate_dst (N := 1) rfl ?_); refine box_event ?hg (N := 1) ?hd (cs := #[.int .i64 a0_0, .int .i64 a0_1, .int .i64 a0_2, .int .i64 a0_3]) (t := 33) ?hr ?_; (case hd => rfl); (case hg => rfl); (case hr => first | (go_simp; done) | (go_simp; rfl)); intro gb112 hg w20 hbox hb; have n0_ := Aside0.mk (below_step (by repeat (first | (with_reducible first | exact HB.out | apply below_alloc | apply pw_below_drewN | apply below_drew1) | exact HB.out)) hb); have n1_ := Aside0.mk (hbox); have n2_ := Aside0.mk ((by rw [hg]; exact (below_size (by repeat (first | (with_reducible first | exact HB.out | apply below_alloc | apply pw_below_drewN | apply below_drew1) | exact HB.out))) : w.heap.size ≤ gb112)); have n3_ := Aside0.mk ((by rw [hg]; exact (below_size (by repeat (first | (with_reducible first | exact HB.out | apply below_alloc | apply pw_below_drewN | apply below_drew1) | exact HB.out))) : w.heap.size ≤ gb112)); clear HB; have HB := n0_; have BK112 := n1_; have GW112 := n2_; have GE112 := n3_; clear n0_ n1_ n2_ n3_; clear hb hbox hg; have hcz21_0 : w20.cell? ⟨gb112, 0, none⟩ = some (.int .i64 a0_0) := (blk_cell BK112.out 0).trans rfl; have hcz21_1 : w20.cell? ⟨gb112, 1, none⟩ = some (.int .i64 a0_1) := (blk_cell BK112.out 1).trans rfl; have hcz21_2 : w20.cell? ⟨gb112, 2, none⟩ = some (.int .i64 a0_2) := (blk_cell BK112.out 2).trans rfl; have hcz21_3 : w20.cell? ⟨gb112, 3, none⟩ = some (.int .i64 a0_3) := (blk_cell BK112.out 3).trans rfl; have hfz21_0 := blk_frozen BK112.out 0; have hfz21_1 := blk_frozen BK112.out 1; have hfz21_2 := blk_frozen BK112.out 2; have hfz21_3 := blk_frozen BK112.out 3) | (go_at_call 46; (with_reducible refine (impl_within.calls a0_1 0 2 true _ A15.out).mono ?_); rintro e w' ⟨rfl, ⟨nd, rfl⟩⟩) | (go_at_call 46; (with_reducible refine (impl_within.calls a0_2 0 2 true _ A17.out).mono ?_); rintro e w' ⟨rfl, ⟨nd, rfl⟩⟩) | (go_at_call 46; (with_reducible refine (impl_within.calls a0_3 0 4 t118 _ A19.out).mono ?_); rintro e w' ⟨rfl, ⟨nd, rfl⟩⟩))
          go_ret
          exact ⟨by first | rfl | (simp [errW_none, errW_some] <;> rfl) | (simp [*, errW_none, errW_some] <;> rfl), by repeat (first | (with_reducible first | exact HB.out | apply below_alloc | apply pw_below_drewN | apply below_drew1 | refine below_set ?_ GE112.out) | exact HB.out)⟩
        · replace c18 := Bool.eq_false_iff.mpr c18
          subst c18
          have H1 : (some false) = some r := by rw [if_neg (show ¬ (false = true) by decide)] at H; exact H
          clear H
          have H := H1
          clear H1
          obtain rfl := Option.some.inj H
          go_enter Try.func30, Try.ntmps30
          go_wp2_with (first | ((with_reducible refine gate_dst (N := 1) rfl ?_); refine box_event ?hg (N := 1) ?hd (cs := #[.int .i64 a0_0, .int .i64 a0_1, .int .i64 a0_2, .int .i64 a0_3]) (t := 33) ?hr ?_; (case hd => rfl); (case hg => rfl); (case hr => first | (go_simp; done) | (go_simp; rfl)); intro gb112 hg w22 hbox hb; have n0_ := Aside0.mk (below_step (by repeat (first | (with_reducible first | exact HB.out | apply below_alloc | apply pw_below_drewN | apply below_drew1) | exact HB.out)) hb); have n1_ := Aside0.mk (hbox); have n2_ := Aside0.mk ((by rw [hg]; exact (below_size (by repeat (first | (with_reducible first | exact HB.out | apply below_alloc | apply pw_below_drewN | apply below_drew1) | exact HB.out))) : w.heap.size ≤ gb112)); have n3_ := Aside0.mk ((by rw [hg]; exact (below_size (by repeat (first | (with_reducible first | exact HB.out | apply below_alloc | apply pw_below_drewN | apply below_drew1) | exact HB.out))) : w.heap.size ≤ gb112)); clear HB; have HB := n0_; have BK112 := n1_; have GW112 := n2_; have GE112 := n3_; clear n0_ n1_ n2_ n3_; clear hb hbox hg; have hcz23_0 : w22.cell? ⟨gb112, 0, none⟩ = some (.int .i64 a0_0) := (blk_cell BK112.out 0).trans rfl; have hcz23_1 : w22.cell? ⟨gb112, 1, none⟩ = some (.int .i64 a0_1) := (blk_cell BK112.out 1).trans rfl; have hcz23_2 : w22.cell? ⟨gb112, 2, none⟩ = some (.int .i64 a0_2) := (blk_cell BK112.out 2).trans rfl; have hcz23_3 : w22.cell? ⟨gb112, 3, none⟩ = some (.int .i64 a0_3) := (blk_cell BK112.out 3).trans rfl; have hfz23_0 := blk_frozen BK112.out 0; have hfz23_1 := blk_frozen BK112.out 1; have hfz23_2 := blk_frozen BK112.out 2; have hfz23_3 := blk_frozen BK112.out 3) | (go_at_call 46; (with_reducible refine (impl_within.calls a0_1 0 2 true _ A15.out).mono ?_); rintro e w' ⟨rfl, ⟨nd, rfl⟩⟩) | (go_at_call 46; (with_reducible refine (impl_within.calls a0_2 0 2 false _ A17.out).mono ?_); rintro e w' ⟨rfl, ⟨nd, rfl⟩⟩))
          go_ret
          exact ⟨by first | rfl | (simp [errW_none, errW_some] <;> rfl) | (simp [*, errW_none, errW_some] <;> rfl), by repeat (first | (with_reducible first | exact HB.out | apply below_alloc | apply pw_below_drewN | apply below_drew1 | refine below_set ?_ GE112.out) | exact HB.out)⟩
      · replace c16 := Bool.eq_false_iff.mpr c16
        subst c16
        have H1 : (some false) = some r := by rw [if_neg (show ¬ (false = true) by decide)] at H; exact H
        clear H
        have H := H1
        clear H1
        obtain rfl := Option.some.inj H
        go_enter Try.func30, Try.ntmps30
        go_wp2_with (first | ((with_reducible refine gate_dst (N := 1) rfl ?_); refine box_event ?hg (N := 1) ?hd (cs := #[.int .i64 a0_0, .int .i64 a0_1, .int .i64 a0_2, .int .i64 a0_3]) (t := 33) ?hr ?_; (case hd => rfl); (case hg => rfl); (case hr => first | (go_simp; done) | (go_simp; rfl)); intro gb112 hg w24 hbox hb; have n0_ := Aside0.mk (below_step (by repeat (first | (with_reducible first | exact HB.out | apply below_alloc | apply pw_below_drewN | apply below_drew1) | exact HB.out)) hb); have n1_ := Aside0.mk (hbox); have n2_ := Aside0.mk ((by rw [hg]; exact (below_size (by repeat (first | (with_reducible first | exact HB.out | apply below_alloc | apply pw_below_drewN | apply below_drew1) | exact HB.out))) : w.heap.size ≤ gb112)); have n3_ := Aside0.mk ((by rw [hg]; exact (below_size (by repeat (first | (with_reducible first | exact HB.out | apply below_alloc | apply pw_below_drewN | apply below_drew1) | exact HB.out))) : w.heap.size ≤ gb112)); clear HB; have HB := n0_; have BK112 := n1_; have GW112 := n2_; have GE112 := n3_; clear n0_ n1_ n2_ n3_; clear hb hbox hg; have hcz25_0 : w24.cell? ⟨gb112, 0, none⟩ = some (.int .i64 a0_0) := (blk_cell BK112.out 0).trans rfl; have hcz25_1 : w24.cell? ⟨gb112, 1, none⟩ = some (.int .i64 a0_1) := (blk_cell BK112.out 1).trans rfl; have hcz25_2 : w24.cell? ⟨gb112, 2, none⟩ = some (.int .i64 a0_2) := (blk_cell BK112.out 2).trans rfl; have hcz25_3 : w24.cell? ⟨gb112, 3, none⟩ = some (.int .i64 a0_3) := (blk_cell BK112.out 3).trans rfl; have hfz25_0 := blk_frozen BK112.out 0; have hfz25_1 := blk_frozen BK112.out 1; have hfz25_2 := blk_frozen BK112.out 2; have hfz25_3 := blk_frozen BK112.out 3) | (go_at_call 46; (with_reducible refine (impl_within.calls a0_1 0 2 false _ A15.out).mono ?_); rintro e w' ⟨rfl, ⟨nd, rfl⟩⟩))
        go_ret
        exact ⟨by first | rfl | (simp [errW_none, errW_some] <;> rfl) | (simp [*, errW_none, errW_some] <;> rfl), by repeat (first | (with_reducible first | exact HB.out | apply below_alloc | apply pw_below_drewN | apply below_drew1 | refine below_set ?_ GE112.out) | exact HB.out)⟩
    · rw [if_neg c14] at H
      have c14b0 : (a0_0 == 4) = false := beq_eq_false_iff_ne.mpr c14
      have c14b1 : (a0_0 != 4) = true := bne_iff_ne.mpr c14
      obtain rfl := Option.some.inj H
      go_enter Try.func30, Try.ntmps30
      go_wp2_with (first | ((with_reducible refine gate_dst (N := 1) rfl ?_); refine box_event ?hg (N := 1) ?hd (cs := #[.int .i64 a0_0, .int .i64 a0_1, .int .i64 a0_2, .int .i64 a0_3]) (t := 33) ?hr ?_; (case hd => rfl); (case hg => rfl); (case hr => first | (go_simp; done) | (go_simp; rfl)); intro gb112 hg w26 hbox hb; have n0_ := Aside0.mk (below_step (by repeat (first | (with_reducible first | exact HB.out | apply below_alloc | apply pw_below_drewN | apply below_drew1) | exact HB.out)) hb); have n1_ := Aside0.mk (hbox); have n2_ := Aside0.mk ((by rw [hg]; exact (below_size (by repeat (first | (with_reducible first | exact HB.out | apply below_alloc | apply pw_below_drewN | apply below_drew1) | exact HB.out))) : w.heap.size ≤ gb112)); have n3_ := Aside0.mk ((by rw [hg]; exact (below_size (by repeat (first | (with_reducible first | exact HB.out | apply below_alloc | apply pw_below_drewN | apply below_drew1) | exact HB.out))) : w.heap.size ≤ gb112)); clear HB; have HB := n0_; have BK112 := n1_; have GW112 := n2_; have GE112 := n3_; clear n0_ n1_ n2_ n3_; clear hb hbox hg; have hcz27_0 : w26.cell? ⟨gb112, 0, none⟩ = some (.int .i64 a0_0) := (blk_cell BK112.out 0).trans rfl; have hcz27_1 : w26.cell? ⟨gb112, 1, none⟩ = some (.int .i64 a0_1) := (blk_cell BK112.out 1).trans rfl; have hcz27_2 : w26.cell? ⟨gb112, 2, none⟩ = some (.int .i64 a0_2) := (blk_cell BK112.out 2).trans rfl; have hcz27_3 : w26.cell? ⟨gb112, 3, none⟩ = some (.int .i64 a0_3) := (blk_cell BK112.out 3).trans rfl; have hfz27_0 := blk_frozen BK112.out 0; have hfz27_1 := blk_frozen BK112.out 1; have hfz27_2 := blk_frozen BK112.out 2; have hfz27_3 := blk_frozen BK112.out 3))
      go_ret
      exact ⟨by first | rfl | (simp [errW_none, errW_some] <;> rfl) | (simp [*, errW_none, errW_some] <;> rfl), by repeat (first | (with_reducible first | exact HB.out | apply below_alloc | apply pw_below_drewN | apply below_drew1 | refine below_set ?_ GE112.out) | exact HB.out)⟩

end Go.Proofs.Ytgmnbpdfdagniaa.A
-- Printed by this session's oprint.py through the kit's printer.
namespace Go.Proofs.Ytgmnbpdfdagniaa.A
open Go.RowKit Go.Proofs.YtgmnbpdfdagniaaW.PrintWords Go.Proofs.YtgmnbpdfdagniaaW.PrintLast Go.Proofs.YtgmnbpdfdagniaaW.PrintMore
attribute [local go_sem] max2_int min2_int max_two min_two max_three min_three max_four min_four   -- for this text's walks alone
set_option linter.unusedVariables false
set_option linter.unusedSimpArgs false

/-! ### impl_isRatio: function 31 -/
def impl_isRatio.f (a0 : Int) : Option (Bool) := (impl_within.f a0 1 4).bind fun t119 => (some t119)
set_option maxHeartbeats 8000000 in
set_option maxRecDepth 100000 in
theorem impl_isRatio.calls (a0 : Int) (r : Bool) (w : World) (h : impl_isRatio.f a0 = some r) :
    Calls Try.prog 31 #[.int .i64 a0] w fun e w' => e = .returned (.bool r) ∧ Drawn0 w w' := by
  have H : ((impl_within.f a0 1 4).bind fun t119 => (some t119)) = some r := h
  clear h
  replace H := Option.bind_eq_some_iff.mp H
  obtain ⟨t119, A20, H⟩ := H
  replace H : (some t119) = some r := H
  have A2 := Aside0.mk A20
  clear A20
  obtain rfl := Option.some.inj H
  go_enter Try.func31, Try.ntmps31
  go_wp2_with (first | ((with_reducible refine gate_callee (f := 46) rfl ?_); refine goesL_ (some 4) rfl rfl Try.func46 (by kernel_rfl) rfl #[.int .i64 a0, .int .i64 1, .int .i64 4] rfl (by (try simp only [List.map_toArray, List.map_cons, List.map_nil]); first | done | rfl | (simp only [List.length_drop, List.length_take]; rfl)) ?_; (with_reducible refine (impl_within.calls a0 1 4 t119 _ A2.out).mono ?_); rintro e w' ⟨rfl, ⟨nd, rfl⟩⟩; refine ⟨_, rfl, ?_⟩))
  go_ret
  exact ⟨by first | rfl | (simp; done) | (simp [*]; done), by repeat (first | exact Drawn0.refl _ | apply Drawn0.step)⟩

end Go.Proofs.Ytgmnbpdfdagniaa.A
-- Printed by this session's oprint.py through the kit's printer.
namespace Go.Proofs.Ytgmnbpdfdagniaa.A
open Go.RowKit Go.Proofs.YtgmnbpdfdagniaaW.PrintWords Go.Proofs.YtgmnbpdfdagniaaW.PrintLast Go.Proofs.YtgmnbpdfdagniaaW.PrintMore
attribute [local go_sem] max2_int min2_int max_two min_two max_three min_three max_four min_four   -- for this text's walks alone
set_option linter.unusedVariables false
set_option linter.unusedSimpArgs false

/-- A state of type 26 at block g of W; what its slices lead to came in by w0. -/
def IsS26 (w0 W : World) (g : Nat) (f0 : Int) (f1 : Int) : Prop := W.heap[g]? = some (.cells #[.int .i64 f0, .int .i64 f1] 26 (0, 0)) ∧ w0.heap.size ≤ g
theorem IsS26.grown {w0 W : World} {g : Nat} {f0 : Int} {f1 : Int} {W1 : World} {row : Option Nat} (h : IsS26 w0 W g f0 f1) (hw : W.grownBy W1 row) (hne : some g ≠ row) : IsS26 w0 W1 g f0 f1 := by
  obtain ⟨hb, hg⟩ := h
  exact ⟨blk_grown hb hw hne, hg⟩
theorem IsS26.own_neN {w0 W : World} {g : Nat} {f0 : Int} {f1 : Int} {α : Type} {d : Kd α} {e : Nat} {base : Nat} {ok : Nat → Prop} {v : Value} {xs : List α} (h : IsS26 w0 W g f0 f1) (ho : Kd.N d e W base ok v xs) (ht : e ≠ 26) : some g ≠ v.ownBlock := by
  obtain ⟨hb, hg⟩ := h
  exact Kd.N_ne ho hb ht
theorem IsS26.fresh {w0 W : World} {g : Nat} {f0 : Int} {f1 : Int} (h : IsS26 w0 W g f0 f1) : ∀ k, W.heap.size ≤ k → k ≠ g := by
  obtain ⟨hb, hg⟩ := h
  exact Kd.freshB hb
theorem IsS26.kept {w0 W : World} {g : Nat} {f0 : Int} {f1 : Int} {W1 : World} {S : Nat → Prop} (h : IsS26 w0 W g f0 f1) (hk : Kept W W1 S) (hne : ¬ S g) : IsS26 w0 W1 g f0 f1 := by
  obtain ⟨hb, hg⟩ := h
  exact ⟨blk_kept hb hk hne, hg⟩
theorem IsS26.below {w0 W : World} {g : Nat} {f0 : Int} {f1 : Int} {W1 : World} (h : IsS26 w0 W g f0 f1) (hw : Below W.heap.size W W1) : IsS26 w0 W1 g f0 f1 := h.grown (grown_of_below hw none) (by simp)
theorem IsS26.alloc {w0 W : World} {g : Nat} {f0 : Int} {f1 : Int} (h : IsS26 w0 W g f0 f1) (o : Obj) : IsS26 w0 (W.alloc o) g f0 f1 := h.below (below_alloc (Below.refl _ _) o)
theorem IsS26.drewN {w0 W : World} {g : Nat} {f0 : Int} {f1 : Int} (h : IsS26 w0 W g f0 f1) (m : Nat) : IsS26 w0 (W.drewN m) g f0 f1 := h
theorem IsS26.drew {w0 W : World} {g : Nat} {f0 : Int} {f1 : Int} (h : IsS26 w0 W g f0 f1) : IsS26 w0 W.drew g f0 f1 := h
theorem IsS26.at_ {w0 W : World} {g : Nat} {f0 : Int} {f1 : Int} {w' : World} {m : Nat} (hq : W.drewN m = w') (h : IsS26 w0 W g f0 f1) : IsS26 w0 w' g f0 f1 := by subst hq; exact IsS26.drewN h m
theorem IsS26.apart {w0 W : World} {g : Nat} {f0 : Int} {f1 : Int} {α : Type} {d : Kd α} {e : Nat} {base : Nat} {ok : Nat → Prop} {v : Value} {xs : List α} (h : IsS26 w0 W g f0 f1) (ho : d.R e W base ok v xs) (ht : ∀ q, q ∈ e :: d.E → q ≠ 26) : d.R e W base (fun k => ok k ∧ k ≠ g) v xs := by
  obtain ⟨hb, hg⟩ := h
  exact Kd.R_types ho hb ht
theorem IsS26.own_ne {w0 W : World} {g : Nat} {f0 : Int} {f1 : Int} {α : Type} {d : Kd α} {e : Nat} {base : Nat} {ok : Nat → Prop} {v : Value} {xs : List α} (h : IsS26 w0 W g f0 f1) (ho : d.R e W base ok v xs) (ht : e ≠ 26) : some g ≠ v.ownBlock := by
  obtain ⟨hb, hg⟩ := h
  exact Kd.R_ne ho hb ht
theorem IsS26.apartQ {w0 W : World} {g : Nat} {f0 : Int} {f1 : Int} {α : Type} {d : Kd α} {e : Nat} {base : Nat} {ok : Nat → Prop} {v : Value} {xs : List α} (h : IsS26 w0 W g f0 f1) (ho : d.Q e W base ok v xs) (ht : ∀ q, q ∈ e :: d.E → q ≠ 26) : d.Q e W base (fun k => ok k ∧ k ≠ g) v xs := by
  obtain ⟨hb, hg⟩ := h
  exact Kd.Q_types ho hb ht
theorem IsS26.own_neQ {w0 W : World} {g : Nat} {f0 : Int} {f1 : Int} {α : Type} {d : Kd α} {e : Nat} {base : Nat} {ok : Nat → Prop} {v : Value} {xs : List α} (h : IsS26 w0 W g f0 f1) (ho : d.Q e W base ok v xs) (ht : e ≠ 26) : some g ≠ v.ownBlock := by
  obtain ⟨hb, hg⟩ := h
  exact Kd.Q_ne ho hb ht
theorem IsS26.apartS {w0 W : World} {g : Nat} {f0 : Int} {f1 : Int} {α : Type} {d : Kd α} {e : Nat} {base : Nat} {ok : Nat → Prop} {v : Value} {xs : List α} (h : IsS26 w0 W g f0 f1) (ho : d.S e W base ok v xs) (ht : ∀ q, q ∈ e :: d.E → q ≠ 26) : d.S e W base (fun k => ok k ∧ k ≠ g) v xs := by
  obtain ⟨hb, hg⟩ := h
  exact Kd.S_types ho hb ht
theorem IsS26.own_neS {w0 W : World} {g : Nat} {f0 : Int} {f1 : Int} {α : Type} {d : Kd α} {e : Nat} {base : Nat} {ok : Nat → Prop} {v : Value} {xs : List α} (h : IsS26 w0 W g f0 f1) (ho : d.S e W base ok v xs) (ht : e ≠ 26) : some g ≠ v.ownBlock := by
  obtain ⟨hb, hg⟩ := h
  exact Kd.S_ne ho hb ht
theorem IsS26.lt {w0 W : World} {g : Nat} {f0 : Int} {f1 : Int} (h : IsS26 w0 W g f0 f1) : g < W.heap.size := by
  obtain ⟨hb, hg⟩ := h
  exact blk_lt hb
theorem IsS26.ge {w0 W : World} {g : Nat} {f0 : Int} {f1 : Int} (h : IsS26 w0 W g f0 f1) : w0.heap.size ≤ g := by
  obtain ⟨hb, hg⟩ := h
  exact hg
theorem IsS26.ne_blk {w0 W : World} {g : Nat} {f0 : Int} {f1 : Int} {a : Nat} {cs : Array Value} {t : TypeId} {fr : Nat × Nat} (h : IsS26 w0 W g f0 f1) (hb2 : W.heap[a]? = some (.cells cs t fr)) (ht : t ≠ 26) : g ≠ a := by
  obtain ⟨hb, hg⟩ := h
  rintro rfl
  rw [hb] at hb2
  injection hb2 with hb2
  injection hb2 with _ ht2
  exact ht ht2.symm
theorem IsS26.far {w0 W : World} {g : Nat} {f0 : Int} {f1 : Int} {p : Addr} (h : IsS26 w0 W g f0 f1) (hne : g ≠ p.block) (u : Value) : IsS26 w0 (W.setCell p u) g f0 f1 := by
  obtain ⟨hb, hg⟩ := h
  exact ⟨blk_far hb hne u, hg⟩
theorem cellS26_0 {W : World} {g : Nat} {f0 : Int} {f1 : Int} (h : W.heap[g]? = some (.cells #[.int .i64 f0, .int .i64 f1] 26 (0, 0))) : W.cell? ⟨g, 0, none⟩ = some (.int .i64 f0) := (blk_cell h 0).trans rfl
theorem IsS26.set_0 {w0 W : World} {g : Nat} {f0 : Int} {f1 : Int} (h : IsS26 w0 W g f0 f1) (x : Int) : IsS26 w0 (W.setCell ⟨g, 0, none⟩ (.int .i64 x)) g x f1 := by
  obtain ⟨hb, hg⟩ := h
  exact ⟨by simpa using blk_set hb 0 (.int .i64 x), hg⟩
theorem cellS26_1 {W : World} {g : Nat} {f0 : Int} {f1 : Int} (h : W.heap[g]? = some (.cells #[.int .i64 f0, .int .i64 f1] 26 (0, 0))) : W.cell? ⟨g, 1, none⟩ = some (.int .i64 f1) := (blk_cell h 1).trans rfl
theorem IsS26.set_1 {w0 W : World} {g : Nat} {f0 : Int} {f1 : Int} (h : IsS26 w0 W g f0 f1) (x : Int) : IsS26 w0 (W.setCell ⟨g, 1, none⟩ (.int .i64 x)) g f0 x := by
  obtain ⟨hb, hg⟩ := h
  exact ⟨by simpa using blk_set hb 1 (.int .i64 x), hg⟩
theorem IsS26.new (w0 W : World) (f0 : Int) (f1 : Int) (hB : Below w0.heap.size w0 W) : IsS26 w0 (W.alloc (.cells #[.int .i64 f0, .int .i64 f1] 26)) W.heap.size f0 f1 := ⟨by simpa using heap_alloc_new W _, hB.size⟩

/-! ### spec_l05Code: function 52 -/
def spec_l05Code.f (s0_0 : Int) (s0_1 : Int) (a1 : Int) : Option (Int × Int × Int) := if (wrap64 (2 * s0_0)) = 0 then (none) else (if s0_1 = 1 then (some (Go.bits .xor .i64 (Int.tmod a1 (wrap64 (2 * s0_0))) ((Int.tmod a1 (wrap64 (2 * s0_0))) / 2), s0_0, s0_1)) else (some (Int.tmod a1 (wrap64 (2 * s0_0)), s0_0, s0_1)))
set_option maxHeartbeats 8000000 in
set_option maxRecDepth 100000 in
theorem spec_l05Code.calls (g : Nat) (s0_0 : Int) (s0_1 : Int) (a1 : Int) (r1 : Int) (r2 : Int) (r3 : Int) (w0 w : World) (hI : IsS26 w0 w g s0_0 s0_1) (hB : Below w0.heap.size w0 w) (h : spec_l05Code.f s0_0 s0_1 a1 = some (r1, r2, r3)) :
    Calls Try.prog 52 #[.pointer (some ⟨g, 0, none⟩), .int .i64 a1] w fun e w' => e = .returned (.int .i64 r1) ∧ IsS26 w0 w' g r2 r3 ∧ Below w0.heap.size w0 w' ∧ KeepBut w w' g none := by
  have HI0 := Aside0.mk hI
  have HK := Aside0.mk (KeepBut.refl w g none)
  have HL := Aside0.mk hB.size
  clear hI
  have HW0 := Aside0.mk hB.size
  have HB := Aside0.mk hB
  clear hB
  have H : (if (wrap64 (2 * s0_0)) = 0 then (none) else (if s0_1 = 1 then (some (Go.bits .xor .i64 (Int.tmod a1 (wrap64 (2 * s0_0))) ((Int.tmod a1 (wrap64 (2 * s0_0))) / 2), s0_0, s0_1)) else (some (Int.tmod a1 (wrap64 (2 * s0_0)), s0_0, s0_1)))) = some (r1, r2, r3) := h
  clear h
  by_cases c3 : (wrap64 (2 * s0_0)) = 0
  · rw [if_pos c3] at H
    exact absurd H (by simp)
  · rw [if_neg c3] at H
    have c3b0 : ((wrap64 (2 * s0_0)) == 0) = false := beq_eq_false_iff_ne.mpr c3
    have c3b1 : ((wrap64 (2 * s0_0)) != 0) = true := bne_iff_ne.mpr c3
    by_cases c4 : s0_1 = 1
    · rw [if_pos c4] at H
      have c4b0 : (s0_1 == 1) = true := beq_iff_eq.mpr c4
      have c4b1 : (s0_1 != 1) = false := bne_eq_false_iff_eq.mpr c4
      clear c4
      simp only [Option.some.injEq, Prod.mk.injEq] at H
      obtain ⟨rfl, rfl, rfl⟩ := H
      obtain ⟨HGz5, hgz5⟩ := HI0.out
      have hcz5_0 := cellS26_0 HGz5
      have hcz5_1 := cellS26_1 HGz5
      have hfz5_0 := blk_frozen HGz5 0
      have hfz5_1 := blk_frozen HGz5 1
      clear HGz5 hgz5
      go_enter Try.func52, Try.ntmps52
      go_wp2
      go_ret
      exact ⟨by first | rfl | (simp [errW_none, errW_some] <;> rfl) | (simp [*, errW_none, errW_some] <;> rfl), by repeat (first | (with_reducible first | exact HI0.out | apply IsS26.alloc | apply IsS26.drewN | apply IsS26.drew | apply IsS26.set_0 | apply IsS26.set_1) | exact HI0.out), by repeat (first | (with_reducible first | exact HB.out | apply below_alloc | apply pw_below_drewN | apply below_drew1 | refine below_set ?_ (IsS26.ge HI0.out)) | exact HB.out), by repeat (first | (with_reducible first | exact HK.out | apply KeepBut.set_ | apply keep_drewN | apply keep_drew | apply keep_alloc) | exact HK.out)⟩
    · rw [if_neg c4] at H
      have c4b0 : (s0_1 == 1) = false := beq_eq_false_iff_ne.mpr c4
      have c4b1 : (s0_1 != 1) = true := bne_iff_ne.mpr c4
      simp only [Option.some.injEq, Prod.mk.injEq] at H
      obtain ⟨rfl, rfl, rfl⟩ := H
      obtain ⟨HGz6, hgz6⟩ := HI0.out
      have hcz6_0 := cellS26_0 HGz6
      have hcz6_1 := cellS26_1 HGz6
      have hfz6_0 := blk_frozen HGz6 0
      have hfz6_1 := blk_frozen HGz6 1
      clear HGz6 hgz6
      go_enter Try.func52, Try.ntmps52
      go_wp2
      go_ret
      exact ⟨by first | rfl | (simp [errW_none, errW_some] <;> rfl) | (simp [*, errW_none, errW_some] <;> rfl), by repeat (first | (with_reducible first | exact HI0.out | apply IsS26.alloc | apply IsS26.drewN | apply IsS26.drew | apply IsS26.set_0 | apply IsS26.set_1) | exact HI0.out), by repeat (first | (with_reducible first | exact HB.out | apply below_alloc | apply pw_below_drewN | apply below_drew1 | refine below_set ?_ (IsS26.ge HI0.out)) | exact HB.out), by repeat (first | (with_reducible first | exact HK.out | apply KeepBut.set_ | apply keep_drewN | apply keep_drew | apply keep_alloc) | exact HK.out)⟩

end Go.Proofs.Ytgmnbpdfdagniaa.A
-- Printed by this session's oprint.py through the kit's printer.
namespace Go.Proofs.Ytgmnbpdfdagniaa.A
open Go.RowKit Go.Proofs.YtgmnbpdfdagniaaW.PrintWords Go.Proofs.YtgmnbpdfdagniaaW.PrintLast Go.Proofs.YtgmnbpdfdagniaaW.PrintMore
attribute [local go_sem] max2_int min2_int max_two min_two max_three min_three max_four min_four   -- for this text's walks alone
set_option linter.unusedVariables false
set_option linter.unusedSimpArgs false

/-! ### spec_l05Count: function 51 -/
def spec_l05Count.l0 : Nat → Int → Int → Int → Int → Option (Int × Int × Int)
  | 0, _, _, _, _ => none
  | k + 1, x1, x5, x1000, x1001 => if x5 < (wrap64 (2 * x1000)) then ((spec_l05Code.f x1000 x1001 x5).bind fun bt109 => (if bt109.1 = x1 then (some (x5, bt109.2.1, bt109.2.2)) else (spec_l05Count.l0 k x1 (wrap64 (x5 + 1)) bt109.2.1 bt109.2.2))) else (some (0, x1000, x1001))
def spec_l05Count.f (k : Nat) (s0_0 : Int) (s0_1 : Int) (a1 : Int) : Option (Int × Int × Int) := spec_l05Count.l0 k a1 0 s0_0 s0_1
theorem spec_l05Count.mono_l : ∀ k, (∀ y0 y1 y2 y3, LeO (spec_l05Count.l0 k y0 y1 y2 y3) (spec_l05Count.l0 (k + 1) y0 y1 y2 y3))
  | 0 => fun _ _ _ _ r h => by simp [spec_l05Count.l0] at h
  | k + 1 => by
    have ih0 := spec_l05Count.mono_l k
    · intro y0 y1 y2 y3
      unfold spec_l05Count.l0
      repeat' first
      | (with_reducible exact ih0 _ _ _ _)
      | (with_reducible exact LeO.refl _)
      | (with_reducible exact LeO.none _)
      | (with_reducible refine LeO.ite ?_ ?_)
      | (with_reducible refine LeO.bind ?_ (fun _ => ?_))
      | exact ih0 _ _ _ _
      | exact LeO.none _
      | refine LeO.ite ?_ ?_
      | refine LeO.bind ?_ (fun _ => ?_)
theorem spec_l05Count.mono : ∀ a0 a1 a2 k, LeO (spec_l05Count.f k a0 a1 a2) (spec_l05Count.f (k + 1) a0 a1 a2) := by
  intro a0 a1 a2 k
  have ih0 := spec_l05Count.mono_l k
  unfold spec_l05Count.f
  repeat' first
      | (with_reducible exact ih0 _ _ _ _)
      | (with_reducible exact LeO.refl _)
      | (with_reducible exact LeO.none _)
      | (with_reducible refine LeO.ite ?_ ?_)
      | (with_reducible refine LeO.bind ?_ (fun _ => ?_))
      | exact ih0 _ _ _ _
      | exact LeO.none _
      | refine LeO.ite ?_ ?_
      | refine LeO.bind ?_ (fun _ => ?_)
set_option maxHeartbeats 8000000 in
set_option maxRecDepth 100000 in
theorem spec_l05Count.calls (k : Nat) (g : Nat) (s0_0 : Int) (s0_1 : Int) (a1 : Int) (r1 : Int) (r2 : Int) (r3 : Int) (w0 w : World) (hI : IsS26 w0 w g s0_0 s0_1) (hB : Below w0.heap.size w0 w) (h : spec_l05Count.f k s0_0 s0_1 a1 = some (r1, r2, r3)) :
    Calls Try.prog 51 #[.pointer (some ⟨g, 0, none⟩), .int .i64 a1] w fun e w' => e = .returned (.int .i64 r1) ∧ IsS26 w0 w' g r2 r3 ∧ Below w0.heap.size w0 w' ∧ KeepBut w w' g none := by
  have HI0 := Aside0.mk hI
  have HK := Aside0.mk (KeepBut.refl w g none)
  have HL := Aside0.mk hB.size
  clear hI
  have HW0 := Aside0.mk hB.size
  have HB := Aside0.mk hB
  clear hB
  have H : (spec_l05Count.l0 k a1 0 s0_0 s0_1) = some (r1, r2, r3) := h
  clear h
  have H' := Aside0.mk H
  clear H
  go_enter Try.func51, Try.ntmps51
  go_wp2
  go_loopg [5] k (fun kq v5 w' => ∃ (x5_1 : Int) (x1000_1 : Int) (x1001_1 : Int), v5 = .int .i64 x5_1 ∧ Aside0 (spec_l05Count.l0 kq a1 x5_1 x1000_1 x1001_1 = some (r1, r2, r3)) ∧ Aside0 (kq ≤ k) ∧ Aside0 (IsS26 w0 w' g x1000_1 x1001_1) ∧ Aside0 (KeepBut w w' g none) ∧ Aside0 (Below w0.heap.size w0 w'))
  case atStart => exact ⟨(0), (s0_0), (s0_1), (by first | rfl | (simp; done) | (simp [*]; done)), H', ⟨Nat.le_refl _⟩, ⟨by repeat (first | (with_reducible first | exact HI0.out | apply IsS26.alloc | apply IsS26.drewN | apply IsS26.drew | apply IsS26.set_0 | apply IsS26.set_1) | exact HI0.out)⟩, ⟨by repeat (first | (with_reducible first | exact HK.out | apply KeepBut.set_ | apply keep_drewN | apply keep_drew | apply keep_alloc) | exact HK.out)⟩, ⟨by repeat (first | (with_reducible first | exact HB.out | apply below_alloc | apply pw_below_drewN | apply below_drew1 | refine below_set ?_ (IsS26.ge HI0.out)) | exact HB.out)⟩⟩
  case round =>
    clear H'
    try clear p2
    obtain ⟨x5_1, x1000_1, x1001_1, rfl, HA, HK1, HI0, HK, HB⟩ := hrel
    cases gk with
    | zero => exact absurd HA.out (by simp [spec_l05Count.l0])
    | succ k1 =>
      have H := HA.out
      clear HA
      simp only [spec_l05Count.l0] at H
      by_cases c3 : x5_1 < (wrap64 (2 * x1000_1))
      · rw [if_pos c3] at H
        have c3b0 : decide (x5_1 < (wrap64 (2 * x1000_1))) = true := decide_eq_true c3
        clear c3
        replace H := Option.bind_eq_some_iff.mp H
        obtain ⟨⟨t109, t110, t111⟩, A40, H⟩ := H
        replace H : (if t109 = a1 then (some (x5_1, t110, t111)) else (spec_l05Count.l0 k1 a1 (wrap64 (x5_1 + 1)) t110 t111)) = some (r1, r2, r3) := H
        have A4 := Aside0.mk A40
        clear A40
        by_cases c5 : t109 = a1
        · rw [if_pos c5] at H
          have c5b0 : (t109 == a1) = true := beq_iff_eq.mpr c5
          have c5b1 : (t109 != a1) = false := bne_eq_false_iff_eq.mpr c5
          clear c5
          simp only [Option.some.injEq, Prod.mk.injEq] at H
          obtain ⟨rfl, rfl, rfl⟩ := H
          obtain ⟨HGz6, hgz6⟩ := HI0.out
          have hcz6_0 := cellS26_0 HGz6
          have hcz6_1 := cellS26_1 HGz6
          have hfz6_0 := blk_frozen HGz6 0
          have hfz6_1 := blk_frozen HGz6 1
          clear HGz6 hgz6
          go_wp2_with (first | ((with_reducible refine gate_callee (f := 52) rfl ?_); refine goesL_ (some 17) rfl rfl Try.func52 (by kernel_rfl) rfl #[.pointer (some ⟨g, 0, none⟩), .int .i64 x5_1] rfl (by (try simp only [List.map_toArray, List.map_cons, List.map_nil]); first | done | rfl | (simp only [List.length_drop, List.length_take]; rfl)) ?_; (with_reducible refine (spec_l05Code.calls g x1000_1 x1001_1 x5_1 t109 t110 t111 w0 _ ?side1 ?side2 A4.out).mono ?_); (case side1 => repeat (first | (with_reducible first | exact HI0.out | apply IsS26.alloc | apply IsS26.drewN | apply IsS26.drew | apply IsS26.set_0 | apply IsS26.set_1) | exact HI0.out)); (case side2 => repeat (first | (with_reducible first | exact HB.out | apply below_alloc | apply pw_below_drewN | apply below_drew1 | refine below_set ?_ (IsS26.ge HI0.out)) | exact HB.out)); rintro e w7 ⟨rfl, hi, hb, hk⟩; refine ⟨_, rfl, ?_⟩; have n0_ := Aside0.mk (KeepBut.trans (by repeat (first | (with_reducible first | exact HK.out | apply KeepBut.set_ | apply keep_drewN | apply keep_drew | apply keep_alloc) | exact HK.out)) hk (.inl rfl)); have n1_ := Aside0.mk (hb); have n2_ := Aside0.mk (hi); clear HK; clear HB; clear HI0; have HK := n0_; have HB := n1_; have HI0 := n2_; clear n0_ n1_ n2_; (try clear hb); (try clear hb2); (try clear hk); (try clear hi)))
          go_ret
          exact ⟨by first | rfl | (simp [errW_none, errW_some] <;> rfl) | (simp [*, errW_none, errW_some] <;> rfl), by repeat (first | (with_reducible first | exact HI0.out | apply IsS26.alloc | apply IsS26.drewN | apply IsS26.drew | apply IsS26.set_0 | apply IsS26.set_1) | exact HI0.out), by repeat (first | (with_reducible first | exact HB.out | apply below_alloc | apply pw_below_drewN | apply below_drew1 | refine below_set ?_ (IsS26.ge HI0.out)) | exact HB.out), by repeat (first | (with_reducible first | exact HK.out | apply KeepBut.set_ | apply keep_drewN | apply keep_drew | apply keep_alloc) | exact HK.out)⟩
        · rw [if_neg c5] at H
          have c5b0 : (t109 == a1) = false := beq_eq_false_iff_ne.mpr c5
          have c5b1 : (t109 != a1) = true := bne_iff_ne.mpr c5
          have H' := Aside0.mk H
          clear H
          obtain ⟨HGz8, hgz8⟩ := HI0.out
          have hcz8_0 := cellS26_0 HGz8
          have hcz8_1 := cellS26_1 HGz8
          have hfz8_0 := blk_frozen HGz8 0
          have hfz8_1 := blk_frozen HGz8 1
          clear HGz8 hgz8
          go_wp2_with (first | ((with_reducible refine gate_callee (f := 52) rfl ?_); refine goesL_ (some 17) rfl rfl Try.func52 (by kernel_rfl) rfl #[.pointer (some ⟨g, 0, none⟩), .int .i64 x5_1] rfl (by (try simp only [List.map_toArray, List.map_cons, List.map_nil]); first | done | rfl | (simp only [List.length_drop, List.length_take]; rfl)) ?_; (with_reducible refine (spec_l05Code.calls g x1000_1 x1001_1 x5_1 t109 t110 t111 w0 _ ?side1 ?side2 A4.out).mono ?_); (case side1 => repeat (first | (with_reducible first | exact HI0.out | apply IsS26.alloc | apply IsS26.drewN | apply IsS26.drew | apply IsS26.set_0 | apply IsS26.set_1) | exact HI0.out)); (case side2 => repeat (first | (with_reducible first | exact HB.out | apply below_alloc | apply pw_below_drewN | apply below_drew1 | refine below_set ?_ (IsS26.ge HI0.out)) | exact HB.out)); rintro e w9 ⟨rfl, hi, hb, hk⟩; refine ⟨_, rfl, ?_⟩; have n0_ := Aside0.mk (KeepBut.trans (by repeat (first | (with_reducible first | exact HK.out | apply KeepBut.set_ | apply keep_drewN | apply keep_drew | apply keep_alloc) | exact HK.out)) hk (.inl rfl)); have n1_ := Aside0.mk (hb); have n2_ := Aside0.mk (hi); clear HK; clear HB; clear HI0; have HK := n0_; have HB := n1_; have HI0 := n2_; clear n0_ n1_ n2_; (try clear hb); (try clear hb2); (try clear hk); (try clear hi)))
          go_roundg k1
          case measure => have := HK1.out; omega
          case rel => exact ⟨(wrap64 (x5_1 + 1)), (t110), (t111), (by first | rfl | (simp; done) | (simp [*]; done)), H', ⟨by have := HK1.out; omega⟩, ⟨by repeat (first | (with_reducible first | exact HI0.out | apply IsS26.alloc | apply IsS26.drewN | apply IsS26.drew | apply IsS26.set_0 | apply IsS26.set_1) | exact HI0.out)⟩, ⟨by repeat (first | (with_reducible first | exact HK.out | apply KeepBut.set_ | apply keep_drewN | apply keep_drew | apply keep_alloc) | exact HK.out)⟩, ⟨by repeat (first | (with_reducible first | exact HB.out | apply below_alloc | apply pw_below_drewN | apply below_drew1 | refine below_set ?_ (IsS26.ge HI0.out)) | exact HB.out)⟩⟩
      · rw [if_neg c3] at H
        have c3b0 : decide (x5_1 < (wrap64 (2 * x1000_1))) = false := decide_eq_false c3
        clear c3
        simp only [Option.some.injEq, Prod.mk.injEq] at H
        obtain ⟨rfl, rfl, rfl⟩ := H
        obtain ⟨HGz10, hgz10⟩ := HI0.out
        have hcz10_0 := cellS26_0 HGz10
        have hcz10_1 := cellS26_1 HGz10
        have hfz10_0 := blk_frozen HGz10 0
        have hfz10_1 := blk_frozen HGz10 1
        clear HGz10 hgz10
        go_wp2
        go_ret
        exact ⟨by first | rfl | (simp [errW_none, errW_some] <;> rfl) | (simp [*, errW_none, errW_some] <;> rfl), by repeat (first | (with_reducible first | exact HI0.out | apply IsS26.alloc | apply IsS26.drewN | apply IsS26.drew | apply IsS26.set_0 | apply IsS26.set_1) | exact HI0.out), by repeat (first | (with_reducible first | exact HB.out | apply below_alloc | apply pw_below_drewN | apply below_drew1 | refine below_set ?_ (IsS26.ge HI0.out)) | exact HB.out), by repeat (first | (with_reducible first | exact HK.out | apply KeepBut.set_ | apply keep_drewN | apply keep_drew | apply keep_alloc) | exact HK.out)⟩

end Go.Proofs.Ytgmnbpdfdagniaa.A
-- Printed by this session's oprint.py through the kit's printer.
namespace Go.Proofs.Ytgmnbpdfdagniaa.A
open Go.RowKit Go.Proofs.YtgmnbpdfdagniaaW.PrintWords Go.Proofs.YtgmnbpdfdagniaaW.PrintLast Go.Proofs.YtgmnbpdfdagniaaW.PrintMore
attribute [local go_sem] max2_int min2_int max_two min_two max_three min_three max_four min_four   -- for this text's walks alone
set_option linter.unusedVariables false
set_option linter.unusedSimpArgs false

/-! ### spec_l05Seen: function 56 -/
def spec_l05Seen.f (a0 : Int) (a1 : Int) (a2 : Int) : Option (Int × Int) := if a0 = 0 then (some (a2, 0)) else (if 0 ≤ (IntKind.u64.wrap (wrap64 (a0 - 1))) then (if 0 ≤ (IntKind.u64.wrap (a0)) then (some (Go.bits .and .i64 (shr .i64 a1 (IntKind.u64.wrap (wrap64 (a0 - 1)))) 1, Go.bits .and .i64 (Go.bits .or .i64 (wrap64 (a1 * 2)) a2) (wrap64 ((shl .i64 1 (IntKind.u64.wrap (a0))) - 1)))) else (none)) else (none))
set_option maxHeartbeats 8000000 in
set_option maxRecDepth 100000 in
theorem spec_l05Seen.calls (a0 : Int) (a1 : Int) (a2 : Int) (r1 : Int) (r2 : Int) (w : World) (h : spec_l05Seen.f a0 a1 a2 = some (r1, r2)) :
    Calls Try.prog 56 #[.int .i64 a0, .int .i64 a1, .int .i64 a2] w fun e w' => e = .returned (.tuple #[.int .i64 r1, .int .i64 r2]) ∧ Drawn0 w w' := by
  have H : (if a0 = 0 then (some (a2, 0)) else (if 0 ≤ (IntKind.u64.wrap (wrap64 (a0 - 1))) then (if 0 ≤ (IntKind.u64.wrap (a0)) then (some (Go.bits .and .i64 (shr .i64 a1 (IntKind.u64.wrap (wrap64 (a0 - 1)))) 1, Go.bits .and .i64 (Go.bits .or .i64 (wrap64 (a1 * 2)) a2) (wrap64 ((shl .i64 1 (IntKind.u64.wrap (a0))) - 1)))) else (none)) else (none))) = some (r1, r2) := h
  clear h
  by_cases c4 : a0 = 0
  · rw [if_pos c4] at H
    have c4b0 : (a0 == 0) = true := beq_iff_eq.mpr c4
    have c4b1 : (a0 != 0) = false := bne_eq_false_iff_eq.mpr c4
    clear c4
    simp only [Option.some.injEq, Prod.mk.injEq] at H
    obtain ⟨rfl, rfl⟩ := H
    go_enter Try.func56, Try.ntmps56
    go_wp2
    go_ret2
    exact ⟨by first | rfl | (simp; done) | (simp [*]; done), by repeat (first | exact Drawn0.refl _ | apply Drawn0.step)⟩
  · rw [if_neg c4] at H
    have c4b0 : (a0 == 0) = false := beq_eq_false_iff_ne.mpr c4
    have c4b1 : (a0 != 0) = true := bne_iff_ne.mpr c4
    obtain ⟨ji5, hji5⟩ : ∃ j_ : Int, (IntKind.u64.wrap (wrap64 (a0 - 1))) = j_ := ⟨_, rfl⟩
    replace H : (if 0 ≤ (ji5) then (if 0 ≤ (IntKind.u64.wrap (a0)) then (some (Go.bits .and .i64 (shr .i64 a1 (ji5)) 1, Go.bits .and .i64 (Go.bits .or .i64 (wrap64 (a1 * 2)) a2) (wrap64 ((shl .i64 1 (IntKind.u64.wrap (a0))) - 1)))) else (none)) else (none)) = some (r1, r2) := by first | (rw [hji5] at H; exact H) | (simp only [hji5] at H ⊢; exact H)
    by_cases c6 : 0 ≤ (ji5)
    · rw [if_pos c6] at H
      have c6b0 := eq_true c6
      have c6b1 : decide (0 ≤ (ji5)) = true := decide_eq_true c6
      clear c6
      obtain ⟨ji7, hji7⟩ : ∃ j_ : Int, (shr .i64 a1 (ji5)) = j_ := ⟨_, rfl⟩
      replace H : (if 0 ≤ (IntKind.u64.wrap (a0)) then (some (Go.bits .and .i64 (ji7) 1, Go.bits .and .i64 (Go.bits .or .i64 (wrap64 (a1 * 2)) a2) (wrap64 ((shl .i64 1 (IntKind.u64.wrap (a0))) - 1)))) else (none)) = some (r1, r2) := by first | (rw [hji7] at H; exact H) | (simp only [hji7] at H ⊢; exact H)
      have hji7_ : (a1 / 2 ^ min (ji5).toNat 64) = ji7 := hji7
      have hji7z : (ji5) ≤ 64 → (a1 / 2 ^ (ji5).toNat) = ji7 := shr_small hji7
      obtain ⟨ji8, hji8⟩ : ∃ j_ : Int, (IntKind.u64.wrap (a0)) = j_ := ⟨_, rfl⟩
      replace H : (if 0 ≤ (ji8) then (some (Go.bits .and .i64 (ji7) 1, Go.bits .and .i64 (Go.bits .or .i64 (wrap64 (a1 * 2)) a2) (wrap64 ((shl .i64 1 (ji8)) - 1)))) else (none)) = some (r1, r2) := by first | (rw [hji8] at H; exact H) | (simp only [hji8] at H ⊢; exact H)
      by_cases c9 : 0 ≤ (ji8)
      · rw [if_pos c9] at H
        have c9b0 := eq_true c9
        have c9b1 : decide (0 ≤ (ji8)) = true := decide_eq_true c9
        clear c9
        obtain ⟨ji10, hji10⟩ : ∃ j_ : Int, (shl .i64 1 (ji8)) = j_ := ⟨_, rfl⟩
        replace H : (some (Go.bits .and .i64 (ji7) 1, Go.bits .and .i64 (Go.bits .or .i64 (wrap64 (a1 * 2)) a2) (wrap64 ((ji10) - 1)))) = some (r1, r2) := by first | (rw [hji10] at H; exact H) | (simp only [hji10] at H ⊢; exact H)
        have hji10_ : (IntKind.i64.wrap (1 * 2 ^ min (ji8).toNat 64)) = ji10 := hji10
        have hji10z : (ji8) ≤ 64 → (IntKind.i64.wrap (1 * 2 ^ (ji8).toNat)) = ji10 := shl_small hji10
        have hji10u : (IntKind.i64.wrap (2 ^ min (ji8).toNat 64)) = ji10 := by have h_ := hji10_; rw [Int.one_mul] at h_; exact h_
        have hji10v : (ji8) ≤ 64 → (IntKind.i64.wrap (2 ^ (ji8).toNat)) = ji10 := fun hle_ => by have h_ := hji10z hle_; rw [Int.one_mul] at h_; exact h_
        have hji10y : (wrap64 (1 * 2 ^ min (ji8).toNat 64)) = ji10 := (i64_w _).symm.trans hji10_
        have hji10x : (ji8) ≤ 64 → (wrap64 (1 * 2 ^ (ji8).toNat)) = ji10 := fun h_ => (i64_w _).symm.trans (hji10z h_)
        simp only [Option.some.injEq, Prod.mk.injEq] at H
        obtain ⟨rfl, rfl⟩ := H
        go_enter Try.func56, Try.ntmps56
        go_wp2
        go_ret2
        exact ⟨by first | rfl | (simp; done) | (simp only [← hji5, ← hji7, ← hji8, ← hji10] <;> (first | rfl | simp)) | (simp [*]; done), by repeat (first | exact Drawn0.refl _ | apply Drawn0.step)⟩
      · rw [if_neg c9] at H
        exact absurd H (by simp)
    · rw [if_neg c6] at H
      exact absurd H (by simp)

end Go.Proofs.Ytgmnbpdfdagniaa.A
/- The openings of the arguments' types, and what is left to prove of each law, about numbers and lists alone. Written by this session's row2.py. No conditions. -/
namespace Go.Proofs.Ytgmnbpdfdagniaa.A
open Go.RowKit Go.Proofs.YtgmnbpdfdagniaaW.PrintWords Go.Proofs.YtgmnbpdfdagniaaW.PrintLast Go.Proofs.Ytgmnbpdfdagniaa.O
set_option linter.unusedVariables false
def Wf_i64 (x : Int) : Prop := (Lit.int .i64 x).wf = true
def Wf_T31 (x : S31) : Prop := Wf_i64 x.f0 ∧ Wf_i64 x.f1 ∧ Wf_i64 x.f2 ∧ Wf_i64 x.f3
theorem open_T31 (W : World) : Opens Try.prog W 31 k31 (fun x : S31 => Wf_T31 x) :=
  Opens.mono (Opens.struct (fun a => (⟨a.1, a.2.1, a.2.2.1, a.2.2.2⟩ : S31)) (fun _ => rfl) Try.underlying31 (by kernel_rfl) (OpensF.cons rfl (by kernel_rfl) (Opens.int Try.underlying2) (OpensF.cons rfl (by kernel_rfl) (Opens.int Try.underlying2) (OpensF.cons rfl (by kernel_rfl) (Opens.int Try.underlying2) (OpensF.one rfl (by kernel_rfl) (Opens.int Try.underlying2)))))) (fun x h => h)
end Go.Proofs.Ytgmnbpdfdagniaa.A
/- The queue's small functions told as quiet ones, and a frame that lets one block change. No conditions. -/
namespace Go.Proofs.Ytgmnbpdfdagniaa.A
open Go.RowKit Go.Proofs.YtgmnbpdfdagniaaW.PrintWords Go.Proofs.YtgmnbpdfdagniaaW.PrintLast Go.Proofs.YtgmnbpdfdagniaaW.PrintMore
set_option linter.unusedVariables false
set_option linter.unusedSimpArgs false
/-- Only block g may have become another one. -/
structure KB (g : Nat) (w w' : World) : Prop where
  os : w'.os = w.os
  tape : w'.tape = w.tape
  output : w'.output = w.output
  size : w.heap.size ≤ w'.heap.size
  block : ∀ i, i < w.heap.size → i ≠ g → w'.heap[i]? = w.heap[i]?
theorem KB.refl (g : Nat) (w : World) : KB g w w := ⟨rfl, rfl, rfl, Nat.le_refl _, fun _ _ _ => rfl⟩
theorem KB.trans {g : Nat} {a b c : World} (h : KB g a b) (k : KB g b c) : KB g a c :=
  ⟨k.os.trans h.os, k.tape.trans h.tape, k.output.trans h.output, Nat.le_trans h.size k.size, fun i hi hg => (k.block i (Nat.lt_of_lt_of_le hi h.size) hg).trans (h.block i hi hg)⟩
theorem KB.of_below {g : Nat} {w w' : World} (h : Below w.heap.size w w') : KB g w w' := ⟨h.os, h.tape, h.output, h.size, fun i hi _ => h.block i hi⟩
theorem KB.below {g : Nat} {a b c : World} (h : KB g a b) (k : Below b.heap.size b c) : KB g a c := h.trans (KB.of_below k)
theorem KB.set {g : Nat} {a b : World} (h : KB g a b) (j : Nat) (u : Value) : KB g a (b.setCell ⟨g, j, none⟩ u) :=
  ⟨h.os, h.tape, h.output, by simpa [World.setCell] using h.size, fun i hi hg => (Below.heap_setCell b ⟨g, j, none⟩ u i hg).trans (h.block i hi hg)⟩
theorem KB.drewN {g : Nat} {a b : World} (h : KB g a b) (m : Nat) : KB g a (b.drewN m) := ⟨h.os, h.tape, h.output, h.size, h.block⟩
theorem KB.drew {g : Nat} {a b : World} (h : KB g a b) : KB g a b.drew := ⟨h.os, h.tape, h.output, h.size, h.block⟩
theorem KB.alloc {g : Nat} {a b : World} (h : KB g a b) (o : Obj) : KB g a (b.alloc o) := h.trans (KB.of_below (below_alloc (Below.refl _ _) o))
theorem KB.keep {g i : Nat} {a b : World} (h : KB g a b) {o : Obj} (hb : a.heap[i]? = some o) (hg : i ≠ g) : b.heap[i]? = some o := (h.block i (blk_lt hb) hg).trans hb
theorem KB.low {g : Nat} {w0 a b : World} (h : KB g a b) (k : Below w0.heap.size w0 a) (hg : w0.heap.size ≤ g) : Below w0.heap.size w0 b :=
  ⟨h.os.trans k.os, h.tape.trans k.tape, h.output.trans k.output, Nat.le_trans k.size h.size, fun i hi => (h.block i (Nat.lt_of_lt_of_le hi k.size) (by omega)).trans (k.block i hi)⟩
/-- Only blocks of S may have become other ones. -/
structure KS (S : Nat → Prop) (w w' : World) : Prop where
  os : w'.os = w.os
  tape : w'.tape = w.tape
  output : w'.output = w.output
  size : w.heap.size ≤ w'.heap.size
  block : ∀ i, i < w.heap.size → ¬ S i → w'.heap[i]? = w.heap[i]?
theorem KS.refl (S : Nat → Prop) (w : World) : KS S w w := ⟨rfl, rfl, rfl, Nat.le_refl _, fun _ _ _ => rfl⟩
theorem KS.trans {S : Nat → Prop} {a b c : World} (h : KS S a b) (k : KS S b c) : KS S a c :=
  ⟨k.os.trans h.os, k.tape.trans h.tape, k.output.trans h.output, Nat.le_trans h.size k.size, fun i hi hg => (k.block i (Nat.lt_of_lt_of_le hi h.size) hg).trans (h.block i hi hg)⟩
/-- What changes behind: blocks of S, or such as are newer. -/
theorem KS.then {S S' : Nat → Prop} {a b c : World} (h : KS S a b) (k : KS S' b c) (hs : ∀ i, i < a.heap.size → S' i → S i) : KS S a c :=
  ⟨k.os.trans h.os, k.tape.trans h.tape, k.output.trans h.output, Nat.le_trans h.size k.size, fun i hi hg => (k.block i (Nat.lt_of_lt_of_le hi h.size) (fun z => hg (hs i hi z))).trans (h.block i hi hg)⟩
theorem KS.of_below {S : Nat → Prop} {w w' : World} (h : Below w.heap.size w w') : KS S w w' := ⟨h.os, h.tape, h.output, h.size, fun i hi _ => h.block i hi⟩
theorem KS.of_KB {S : Nat → Prop} {g : Nat} {w w' : World} (h : KB g w w') (hs : S g) : KS S w w' := ⟨h.os, h.tape, h.output, h.size, fun i hi hn => h.block i hi (fun e => hn (e ▸ hs))⟩
theorem KS.below {S : Nat → Prop} {a b c : World} (h : KS S a b) (k : Below b.heap.size b c) : KS S a c := h.trans (KS.of_below k)
theorem KS.grown {S : Nat → Prop} {a b c : World} (h : KS S a b) {row : Option Nat} (k : b.grownBy c row) (ho : c.os = b.os) (ht : c.tape = b.tape) (hu : c.output = b.output) (hr : ∀ i, row = some i → i < a.heap.size → S i) : KS S a c :=
  ⟨ho.trans h.os, ht.trans h.tape, hu.trans h.output, Nat.le_trans h.size k.size, fun i hi hg => (k.block i (Nat.lt_of_lt_of_le hi h.size) (fun e => hg (hr i e.symm hi))).trans (h.block i hi hg)⟩
theorem KS.set {S : Nat → Prop} {a b : World} (h : KS S a b) (g j : Nat) (u : Value) (hg : g < a.heap.size → S g) : KS S a (b.setCell ⟨g, j, none⟩ u) :=
  ⟨h.os, h.tape, h.output, by simpa [World.setCell] using h.size, fun i hi hn => (Below.heap_setCell b ⟨g, j, none⟩ u i (fun e => hn (by subst e; exact hg hi))).trans (h.block i hi hn)⟩
theorem KS.drewN {S : Nat → Prop} {a b : World} (h : KS S a b) (m : Nat) : KS S a (b.drewN m) := ⟨h.os, h.tape, h.output, h.size, h.block⟩
theorem KS.drew {S : Nat → Prop} {a b : World} (h : KS S a b) : KS S a b.drew := ⟨h.os, h.tape, h.output, h.size, h.block⟩
theorem KS.alloc {S : Nat → Prop} {a b : World} (h : KS S a b) (o : Obj) : KS S a (b.alloc o) := h.below (below_alloc (Below.refl _ _) o)
theorem KS.keep {S : Nat → Prop} {i : Nat} {a b : World} (h : KS S a b) {o : Obj} (hb : a.heap[i]? = some o) (hg : ¬ S i) : b.heap[i]? = some o := (h.block i (blk_lt hb) hg).trans hb
theorem KS.low {S : Nat → Prop} {w0 a b : World} (h : KS S a b) (k : Below w0.heap.size w0 a) (hg : ∀ i, S i → w0.heap.size ≤ i) : Below w0.heap.size w0 b :=
  ⟨h.os.trans k.os, h.tape.trans k.tape, h.output.trans k.output, Nat.le_trans k.size h.size, fun i hi => (h.block i (Nat.lt_of_lt_of_le hi k.size) (fun z => by have := hg i z; omega)).trans (k.block i hi)⟩
/-- A world of which nothing is below. -/
def bare (w : World) : World := { w with heap := #[] }
theorem bare_below (w : World) : Below (bare w).heap.size (bare w) w := ⟨rfl, rfl, rfl, Nat.zero_le _, fun k hk => absurd hk (Nat.not_lt_zero _)⟩
theorem quiet_of_keep {w w' : World} {g : Nat} {o : Obj} (h0 : w.heap[g]? = some o) (h1 : w'.heap[g]? = some o) (hB : Below (bare w).heap.size (bare w) w') (hk : KeepBut w w' g none) : Below w.heap.size w w' :=
  ⟨hB.os, hB.tape, hB.output, hk.1, fun i hi => if e : i = g then by rw [e, h0, h1] else hk.2 i hi e (by simp)⟩
/-- A queue in memory. -/
def boxQ (q0 q1 : Int) : Obj := .cells #[.int .i64 q0, .int .i64 q1] 26 (0, 0)
def codeO (q0 q1 a : Int) : Option Int := (spec_l05Code.f q0 q1 a).bind fun b => some b.1
def countO (k : Nat) (q0 q1 a : Int) : Option Int := (spec_l05Count.f k q0 q1 a).bind fun b => some b.1
theorem code_same {q0 q1 a : Int} {b : Int × Int × Int} (h : spec_l05Code.f q0 q1 a = some b) : b.2 = (q0, q1) := by
  unfold spec_l05Code.f at h
  split at h
  · cases h
  · split at h <;> (cases h; rfl)
theorem count_same {a q0 q1 : Int} : ∀ (k : Nat) {i : Int} {b : Int × Int × Int}, spec_l05Count.l0 k a i q0 q1 = some b → b.2 = (q0, q1)
  | 0, i, b, h => by simp [spec_l05Count.l0] at h
  | k + 1, i, b, h => by
    simp only [spec_l05Count.l0] at h
    split at h
    · obtain ⟨c, hc, h⟩ := Option.bind_eq_some_iff.1 h
      have e := code_same hc
      have e1 : c.2.1 = q0 := congrArg Prod.fst e
      have e2 : c.2.2 = q1 := congrArg Prod.snd e
      split at h
      · cases h; rw [e1, e2]
      · rw [e1, e2] at h; exact count_same k h
    · cases h; rfl
theorem code_q (g : Nat) (q0 q1 a r : Int) (w : World) (hq : w.heap[g]? = some (boxQ q0 q1)) (h : codeO q0 q1 a = some r) :
    Calls Try.prog 52 #[.pointer (some ⟨g, 0, none⟩), .int .i64 a] w fun e w' => e = .returned (.int .i64 r) ∧ Below w.heap.size w w' := by
  obtain ⟨b, hb, h⟩ := Option.bind_eq_some_iff.1 h
  have e := code_same hb
  obtain ⟨b0, b1, b2⟩ := b
  cases h; injection e with e1 e2; subst e1; subst e2
  refine (spec_l05Code.calls g _ _ a b0 _ _ (bare w) w ⟨hq, Nat.zero_le _⟩ (bare_below w) hb).mono ?_
  rintro e w' ⟨he, hI, hB, hK⟩
  exact ⟨he, quiet_of_keep hq hI.1 hB hK⟩
theorem count_q (k g : Nat) (q0 q1 a r : Int) (w : World) (hq : w.heap[g]? = some (boxQ q0 q1)) (h : countO k q0 q1 a = some r) :
    Calls Try.prog 51 #[.pointer (some ⟨g, 0, none⟩), .int .i64 a] w fun e w' => e = .returned (.int .i64 r) ∧ Below w.heap.size w w' := by
  obtain ⟨b, hb, h⟩ := Option.bind_eq_some_iff.1 h
  have e := count_same k hb
  obtain ⟨b0, b1, b2⟩ := b
  cases h; injection e with e1 e2; subst e1; subst e2
  refine (spec_l05Count.calls k g _ _ a b0 _ _ (bare w) w ⟨hq, Nat.zero_le _⟩ (bare_below w) hb).mono ?_
  rintro e w' ⟨he, hI, hB, hK⟩
  exact ⟨he, quiet_of_keep hq hI.1 hB hK⟩
end Go.Proofs.Ytgmnbpdfdagniaa.A
/- A step of the sender and of the receiver of a link (the reference). No conditions. -/
namespace Go.Proofs.Ytgmnbpdfdagniaa.A
open Go.RowKit Go.Proofs.YtgmnbpdfdagniaaW.PrintWords Go.Proofs.YtgmnbpdfdagniaaW.PrintLast Go.Proofs.YtgmnbpdfdagniaaW.PrintMore
set_option linter.unusedVariables false
set_option linter.unusedSimpArgs false
structure Lnk where
  ph : Int
  sg : Int
  sk : Int
  wd : Int
def boxL (l : Lnk) : Obj := .cells #[.int .i64 l.ph, .int .i64 l.sg, .int .i64 l.sk, .int .i64 l.wd] 33 (0, 0)
def boxK (x : S57) : Obj := .cells #[.int .i64 x.f0, .int .i64 x.f1, .int .i64 x.f2, .int .i64 x.f3, .int .i64 x.f4, .int .i64 x.f5, .int .i64 x.f6, .int .i64 x.f7, .int .i64 x.f8, .int .i64 x.f9, .int .i64 x.f10, .int .i64 x.f11] 57 (0, 0)
theorem l_cells {w : World} {g : Nat} {l : Lnk} (h : w.heap[g]? = some (boxL l)) : w.cell? ⟨g, 0, none⟩ = some (.int .i64 l.ph) ∧ w.cell? ⟨g, 1, none⟩ = some (.int .i64 l.sg) ∧ w.cell? ⟨g, 2, none⟩ = some (.int .i64 l.sk) ∧ w.cell? ⟨g, 3, none⟩ = some (.int .i64 l.wd) := ⟨(blk_cell h 0).trans rfl, (blk_cell h 1).trans rfl, (blk_cell h 2).trans rfl, (blk_cell h 3).trans rfl⟩
theorem k_cells {w : World} {g : Nat} {x : S57} (h : w.heap[g]? = some (boxK x)) : w.cell? ⟨g, 0, none⟩ = some (.int .i64 x.f0) ∧ w.cell? ⟨g, 1, none⟩ = some (.int .i64 x.f1) ∧ w.cell? ⟨g, 2, none⟩ = some (.int .i64 x.f2) ∧ w.cell? ⟨g, 3, none⟩ = some (.int .i64 x.f3) ∧ w.cell? ⟨g, 4, none⟩ = some (.int .i64 x.f4) ∧ w.cell? ⟨g, 5, none⟩ = some (.int .i64 x.f5) ∧ w.cell? ⟨g, 6, none⟩ = some (.int .i64 x.f6) ∧ w.cell? ⟨g, 7, none⟩ = some (.int .i64 x.f7) ∧ w.cell? ⟨g, 8, none⟩ = some (.int .i64 x.f8) ∧ w.cell? ⟨g, 9, none⟩ = some (.int .i64 x.f9) ∧ w.cell? ⟨g, 10, none⟩ = some (.int .i64 x.f10) ∧ w.cell? ⟨g, 11, none⟩ = some (.int .i64 x.f11) := ⟨(blk_cell h 0).trans rfl, (blk_cell h 1).trans rfl, (blk_cell h 2).trans rfl, (blk_cell h 3).trans rfl, (blk_cell h 4).trans rfl, (blk_cell h 5).trans rfl, (blk_cell h 6).trans rfl, (blk_cell h 7).trans rfl, (blk_cell h 8).trans rfl, (blk_cell h 9).trans rfl, (blk_cell h 10).trans rfl, (blk_cell h 11).trans rfl⟩
theorem k_frozen {w : World} {g : Nat} {x : S57} (h : w.heap[g]? = some (boxK x)) : w.frozen? ⟨g, 0, none⟩ = false ∧ w.frozen? ⟨g, 1, none⟩ = false ∧ w.frozen? ⟨g, 2, none⟩ = false ∧ w.frozen? ⟨g, 3, none⟩ = false ∧ w.frozen? ⟨g, 4, none⟩ = false ∧ w.frozen? ⟨g, 5, none⟩ = false ∧ w.frozen? ⟨g, 6, none⟩ = false ∧ w.frozen? ⟨g, 7, none⟩ = false ∧ w.frozen? ⟨g, 8, none⟩ = false ∧ w.frozen? ⟨g, 9, none⟩ = false ∧ w.frozen? ⟨g, 10, none⟩ = false ∧ w.frozen? ⟨g, 11, none⟩ = false := ⟨blk_frozen h 0, blk_frozen h 1, blk_frozen h 2, blk_frozen h 3, blk_frozen h 4, blk_frozen h 5, blk_frozen h 6, blk_frozen h 7, blk_frozen h 8, blk_frozen h 9, blk_frozen h 10, blk_frozen h 11⟩
theorem drawn_quiet' {w w' : World} (h : Drawn0 w w') : ∃ m, w' = w.drewN m := by obtain ⟨m, rfl⟩ := h; exact ⟨m, rfl⟩
/-- What is on its way comes nearer. -/
def nearer (x : S57) : S57 := if 0 < x.f4 then (if wrap64 (x.f4 - 1) = 0 then { x with f4 := 0, f3 := x.f5, f5 := 0 } else { x with f4 := wrap64 (x.f4 - 1) }) else x
def sendF (l : Lnk) (x : S57) : Option S57 :=
  (spec_l05Seen.f l.sg x.f6 x.f1).bind fun s =>
  let y := nearer { x with f6 := s.2 }
  if l.ph = 4 ∧ x.f0 = 1 then (if s.1 = 1 then some { y with f0 := 0 } else some y)
  else if ¬ s.1 = x.f0 ∨ x.f2 = l.wd then some y
  else if l.sk = 0 then some { y with f0 := wrap64 (1 - x.f0), f3 := x.f2, f2 := wrap64 (x.f2 + 1) }
  else some { y with f0 := wrap64 (1 - x.f0), f4 := l.sk, f5 := x.f2, f2 := wrap64 (x.f2 + 1) }
def takeF (l : Lnk) (x : S57) : Option (S57 × Int × Bool) :=
  (spec_l05Seen.f l.sg x.f7 x.f0).bind fun s =>
  if s.1 = x.f1 then some ({ x with f7 := s.2 }, 0, false)
  else if l.ph = 4 ∧ s.1 = 0 then some ({ x with f7 := s.2, f1 := s.1 }, 0, false)
  else some ({ x with f7 := s.2, f1 := s.1, f9 := if ¬ x.f3 = x.f8 ∨ l.wd ≤ x.f8 then 1 else x.f9, f8 := if x.f8 < 7 then wrap64 (x.f8 + 1) else x.f8 }, x.f3, true)
set_option maxHeartbeats 6400000 in
set_option maxRecDepth 100000 in
theorem sendF.calls (g gx : Nat) (l : Lnk) (x : S57) (r : S57) (w : World) (hl : w.heap[g]? = some (boxL l)) (hx : w.heap[gx]? = some (boxK x)) (h : sendF l x = some r) :
    Calls Try.prog 49 #[.pointer (some ⟨g, 0, none⟩), .pointer (some ⟨gx, 0, none⟩)] w fun e w' => e = .returned (.tuple #[]) ∧ w'.heap[gx]? = some (boxK r) ∧ KB gx w w' := by
  have hne : g ≠ gx := by intro e; subst e; rw [hl] at hx; simp [boxL, boxK] at hx
  have hne' : gx ≠ g := fun e => hne e.symm
  replace h := Option.bind_eq_some_iff.1 h
  obtain ⟨⟨s1, s2⟩, hs, h⟩ := h
  have HS := Aside0.mk hs
  have X0 := Aside0.mk hx
  have L0 := Aside0.mk hl
  have HN := Aside0.mk hne
  obtain ⟨z0, z1, z2, z3⟩ := l_cells hl
  obtain ⟨x0, x1, x2, x3, x4, x5, x6, x7, x8, x9, x10, x11⟩ := k_cells hx
  obtain ⟨y0, y1, y2, y3, y4, y5, y6, y7, y8, y9, y10, y11⟩ := k_frozen hx
  clear hl hx hs
  dsimp only at h
  obtain ⟨y, hy⟩ : ∃ y, nearer { x with f6 := s2 } = y := ⟨_, rfl⟩
  have hy0 : x.f0 = y.f0 := by rw [← hy]; unfold nearer; split <;> (try split) <;> rfl
  have hy2 : x.f2 = y.f2 := by rw [← hy]; unfold nearer; split <;> (try split) <;> rfl
  rw [hy, hy0, hy2] at h
  have H := Aside0.mk h
  have HY := Aside0.mk hy
  clear h hy hy0 hy2
  go_enter Try.func49, Try.ntmps49
  go_wp2
  go_quiet (first
    | ((go_at_call 56; exact Calls.quiet_of ((spec_l05Seen.calls l.sg x.f6 x.f1 s1 s2 _ HS.out).mono fun e W hh => ⟨hh.1, drawn_quiet' hh.2⟩))))
  go_upto_if 30 with (fail)
  go_cut [4] from 7 (fun v4 wc => v4 = .int .i64 s1 ∧ Aside0 (wc.heap[gx]? = some (boxK y)) ∧ Aside0 (wc.heap[g]? = some (boxL l)) ∧ Aside0 (KB gx w wc))
  case first =>
    by_cases f0 : 0 < x.f4
    · have f0b := decide_eq_true f0
      rw [f0b]
      by_cases f1 : wrap64 (x.f4 - 1) = 0
      · have f1b : (wrap64 (x.f4 - 1) == 0) = true := beq_iff_eq.2 f1
        have hnr : nearer { x with f6 := s2 } = { x with f6 := s2, f4 := wrap64 (x.f4 - 1), f3 := x.f5, f5 := 0 } := by unfold nearer; rw [if_pos f0, if_pos f1, f1]
        clear f0 f1
        go_wp2
        go_meet
        case rel => exact ⟨rfl, ⟨by rw [← HY.out, hnr]; exact blk_put (blk_put (blk_put (blk_put (blk_drewN (X0.out) _) 6 _ rfl) 4 _ rfl) 3 _ rfl) 5 _ rfl⟩, ⟨blk_far (blk_far (blk_far (blk_far (blk_drewN (L0.out) _) HN.out _) HN.out _) HN.out _) HN.out _⟩, ⟨KB.set (KB.set (KB.set (KB.set (KB.drewN (KB.refl gx w) _) 6 _) 4 _) 3 _) 5 _⟩⟩
      · have f1b : (wrap64 (x.f4 - 1) == 0) = false := beq_eq_false_iff_ne.2 f1
        have hnr : nearer { x with f6 := s2 } = { x with f6 := s2, f4 := wrap64 (x.f4 - 1) } := by unfold nearer; rw [if_pos f0, if_neg f1]
        clear f0 f1
        go_wp2
        go_meet
        case rel => exact ⟨rfl, ⟨by rw [← HY.out, hnr]; exact blk_put (blk_put (blk_drewN (X0.out) _) 6 _ rfl) 4 _ rfl⟩, ⟨blk_far (blk_far (blk_drewN (L0.out) _) HN.out _) HN.out _⟩, ⟨KB.set (KB.set (KB.drewN (KB.refl gx w) _) 6 _) 4 _⟩⟩
    · have f0b := decide_eq_false f0
      rw [f0b]
      have hnr : nearer { x with f6 := s2 } = { x with f6 := s2 } := by unfold nearer; rw [if_neg f0]
      clear f0
      go_wp2
      go_meet
      case rel => exact ⟨rfl, ⟨by rw [← HY.out, hnr]; exact blk_put (blk_drewN (X0.out) _) 6 _ rfl⟩, ⟨blk_far (blk_drewN (L0.out) _) HN.out _⟩, ⟨KB.set (KB.drewN (KB.refl gx w) _) 6 _⟩⟩
  case rest =>
    obtain ⟨rfl, XC, LC, KC⟩ := hcut
    have h := H.out
    clear x0 x1 x2 x3 x4 x5 x6 x7 x8 x9 x10 x11 y0 y1 y2 y3 y4 y5 y6 y7 y8 y9 y10 y11 z0 z1 z2 z3
    obtain ⟨z0, z1, z2, z3⟩ := l_cells LC.out
    obtain ⟨x0, x1, x2, x3, x4, x5, x6, x7, x8, x9, x10, x11⟩ := k_cells XC.out
    obtain ⟨y0, y1, y2, y3, y4, y5, y6, y7, y8, y9, y10, y11⟩ := k_frozen XC.out
    by_cases p4 : l.ph = 4
    · have p4b : (l.ph == 4) = true := beq_iff_eq.2 p4
      by_cases r1 : y.f0 = 1
      · have r1b : (y.f0 == 1) = true := beq_iff_eq.2 r1
        rw [if_pos ⟨p4, r1⟩] at h
        by_cases e1 : s1 = 1
        · have e1b : (s1 == 1) = true := beq_iff_eq.2 e1
          rw [if_pos e1] at h
          clear p4 r1 e1
          have hr := Option.some.inj h
          subst hr
          clear h
          go_wp2
          first | go_end0 | ((try simp only [Exit.inBlock, Exit.then]); refine bodyPost_ret (results_none rfl _ _ _) rfl ?_)
          exact ⟨rfl, blk_put (XC.out) 0 _ rfl, KB.set (KC.out) 0 _⟩
        · have e1b : (s1 == 1) = false := beq_eq_false_iff_ne.2 e1
          rw [if_neg e1] at h
          clear p4 r1 e1
          have hr := Option.some.inj h
          subst hr
          clear h
          go_wp2
          first | go_end0 | ((try simp only [Exit.inBlock, Exit.then]); refine bodyPost_ret (results_none rfl _ _ _) rfl ?_)
          exact ⟨rfl, XC.out, KC.out⟩
      · have r1b : (y.f0 == 1) = false := beq_eq_false_iff_ne.2 r1
        rw [if_neg (fun z => r1 z.2)] at h
        clear p4 r1
        by_cases a1 : s1 = y.f0
        · have a1b : (s1 != y.f0) = false := bne_eq_false_iff_eq.2 a1
          by_cases a2 : y.f2 = l.wd
          · have a2b : (y.f2 == l.wd) = true := beq_iff_eq.2 a2
            rw [if_pos (.inr a2)] at h
            clear a1 a2
            have hr := Option.some.inj h
            subst hr
            clear h
            go_wp2
            go_quiet (fail)
            go_wp2
            first | go_end0 | ((try simp only [Exit.inBlock, Exit.then]); refine bodyPost_ret (results_none rfl _ _ _) rfl ?_)
            exact ⟨rfl, blk_drewN (XC.out) _, KB.drewN (KC.out) _⟩
          · have a2b : (y.f2 == l.wd) = false := beq_eq_false_iff_ne.2 a2
            rw [if_neg (fun z => z.elim (fun z => z a1) a2)] at h
            by_cases k0 : l.sk = 0
            · have k0b : (l.sk == 0) = true := beq_iff_eq.2 k0
              rw [if_pos k0] at h
              clear a1 a2 k0
              have hr := Option.some.inj h
              subst hr
              clear h
              go_wp2
              go_quiet (fail)
              go_wp2
              first | go_end0 | ((try simp only [Exit.inBlock, Exit.then]); refine bodyPost_ret (results_none rfl _ _ _) rfl ?_)
              exact ⟨rfl, blk_put (blk_put (blk_put (blk_drewN (XC.out) _) 0 _ rfl) 3 _ rfl) 2 _ rfl, KB.set (KB.set (KB.set (KB.drewN (KC.out) _) 0 _) 3 _) 2 _⟩
            · have k0b : (l.sk == 0) = false := beq_eq_false_iff_ne.2 k0
              rw [if_neg k0] at h
              clear a1 a2 k0
              have hr := Option.some.inj h
              subst hr
              clear h
              go_wp2
              go_quiet (fail)
              go_wp2
              first | go_end0 | ((try simp only [Exit.inBlock, Exit.then]); refine bodyPost_ret (results_none rfl _ _ _) rfl ?_)
              exact ⟨rfl, blk_put (blk_put (blk_put (blk_put (blk_drewN (XC.out) _) 0 _ rfl) 4 _ rfl) 5 _ rfl) 2 _ rfl, KB.set (KB.set (KB.set (KB.set (KB.drewN (KC.out) _) 0 _) 4 _) 5 _) 2 _⟩
        · have a1b : (s1 != y.f0) = true := bne_iff_ne.2 a1
          rw [if_pos (.inl a1)] at h
          clear a1
          have hr := Option.some.inj h
          subst hr
          clear h
          go_wp2
          go_quiet (fail)
          go_wp2
          first | go_end0 | ((try simp only [Exit.inBlock, Exit.then]); refine bodyPost_ret (results_none rfl _ _ _) rfl ?_)
          exact ⟨rfl, blk_drewN (XC.out) _, KB.drewN (KC.out) _⟩
    · have p4b : (l.ph == 4) = false := beq_eq_false_iff_ne.2 p4
      rw [if_neg (fun z => p4 z.1)] at h
      clear p4
      by_cases a1 : s1 = y.f0
      · have a1b : (s1 != y.f0) = false := bne_eq_false_iff_eq.2 a1
        by_cases a2 : y.f2 = l.wd
        · have a2b : (y.f2 == l.wd) = true := beq_iff_eq.2 a2
          rw [if_pos (.inr a2)] at h
          clear a1 a2
          have hr := Option.some.inj h
          subst hr
          clear h
          go_wp2
          go_quiet (fail)
          go_wp2
          first | go_end0 | ((try simp only [Exit.inBlock, Exit.then]); refine bodyPost_ret (results_none rfl _ _ _) rfl ?_)
          exact ⟨rfl, blk_drewN (XC.out) _, KB.drewN (KC.out) _⟩
        · have a2b : (y.f2 == l.wd) = false := beq_eq_false_iff_ne.2 a2
          rw [if_neg (fun z => z.elim (fun z => z a1) a2)] at h
          by_cases k0 : l.sk = 0
          · have k0b : (l.sk == 0) = true := beq_iff_eq.2 k0
            rw [if_pos k0] at h
            clear a1 a2 k0
            have hr := Option.some.inj h
            subst hr
            clear h
            go_wp2
            go_quiet (fail)
            go_wp2
            first | go_end0 | ((try simp only [Exit.inBlock, Exit.then]); refine bodyPost_ret (results_none rfl _ _ _) rfl ?_)
            exact ⟨rfl, blk_put (blk_put (blk_put (blk_drewN (XC.out) _) 0 _ rfl) 3 _ rfl) 2 _ rfl, KB.set (KB.set (KB.set (KB.drewN (KC.out) _) 0 _) 3 _) 2 _⟩
          · have k0b : (l.sk == 0) = false := beq_eq_false_iff_ne.2 k0
            rw [if_neg k0] at h
            clear a1 a2 k0
            have hr := Option.some.inj h
            subst hr
            clear h
            go_wp2
            go_quiet (fail)
            go_wp2
            first | go_end0 | ((try simp only [Exit.inBlock, Exit.then]); refine bodyPost_ret (results_none rfl _ _ _) rfl ?_)
            exact ⟨rfl, blk_put (blk_put (blk_put (blk_put (blk_drewN (XC.out) _) 0 _ rfl) 4 _ rfl) 5 _ rfl) 2 _ rfl, KB.set (KB.set (KB.set (KB.set (KB.drewN (KC.out) _) 0 _) 4 _) 5 _) 2 _⟩
      · have a1b : (s1 != y.f0) = true := bne_iff_ne.2 a1
        rw [if_pos (.inl a1)] at h
        clear a1
        have hr := Option.some.inj h
        subst hr
        clear h
        go_wp2
        go_quiet (fail)
        go_wp2
        first | go_end0 | ((try simp only [Exit.inBlock, Exit.then]); refine bodyPost_ret (results_none rfl _ _ _) rfl ?_)
        exact ⟨rfl, blk_drewN (XC.out) _, KB.drewN (KC.out) _⟩
end Go.Proofs.Ytgmnbpdfdagniaa.A
/- A step of the receiver of a link (the reference). No conditions. -/
namespace Go.Proofs.Ytgmnbpdfdagniaa.A
open Go.RowKit Go.Proofs.YtgmnbpdfdagniaaW.PrintWords Go.Proofs.YtgmnbpdfdagniaaW.PrintLast Go.Proofs.YtgmnbpdfdagniaaW.PrintMore
set_option linter.unusedVariables false
set_option linter.unusedSimpArgs false
set_option maxHeartbeats 6400000 in
set_option maxRecDepth 100000 in
theorem takeF.calls (g gx : Nat) (l : Lnk) (x : S57) (r : S57) (v : Int) (b : Bool) (w : World) (hl : w.heap[g]? = some (boxL l)) (hx : w.heap[gx]? = some (boxK x)) (h : takeF l x = some (r, v, b)) :
    Calls Try.prog 50 #[.pointer (some ⟨g, 0, none⟩), .pointer (some ⟨gx, 0, none⟩)] w fun e w' => e = .returned (.tuple #[.int .i64 v, .bool b]) ∧ w'.heap[gx]? = some (boxK r) ∧ KB gx w w' := by
  have hne : g ≠ gx := by intro e; subst e; rw [hl] at hx; simp [boxL, boxK] at hx
  have hne' : gx ≠ g := fun e => hne e.symm
  replace h := Option.bind_eq_some_iff.1 h
  obtain ⟨⟨s1, s2⟩, hs, h⟩ := h
  have HS := Aside0.mk hs
  have X0 := Aside0.mk hx
  have L0 := Aside0.mk hl
  have HN := Aside0.mk hne
  obtain ⟨z0, z1, z2, z3⟩ := l_cells hl
  obtain ⟨x0, x1, x2, x3, x4, x5, x6, x7, x8, x9, x10, x11⟩ := k_cells hx
  obtain ⟨y0, y1, y2, y3, y4, y5, y6, y7, y8, y9, y10, y11⟩ := k_frozen hx
  clear hl hx hs
  dsimp only at h
  by_cases t1 : s1 = x.f1
  · have t1b : (s1 == x.f1) = true := beq_iff_eq.2 t1
    rw [if_pos t1] at h
    have hr := Option.some.inj h
    clear h t1
    cases hr
    go_enter Try.func50, Try.ntmps50
    go_wp2
    go_quiet (first
      | ((go_at_call 56; exact Calls.quiet_of ((spec_l05Seen.calls l.sg x.f7 x.f0 s1 s2 _ HS.out).mono fun e W hh => ⟨hh.1, drawn_quiet' hh.2⟩))))
    go_wp2
    go_ret2
    exact ⟨rfl, blk_put (blk_drewN (X0.out) _) 7 _ rfl, KB.set (KB.drewN (KB.refl gx w) _) 7 _⟩
  · have t1b : (s1 == x.f1) = false := beq_eq_false_iff_ne.2 t1
    rw [if_neg t1] at h
    clear t1
    by_cases p4 : l.ph = 4
    · have p4b : (l.ph == 4) = true := beq_iff_eq.2 p4
      by_cases z1 : s1 = 0
      · have z1b : (s1 == 0) = true := beq_iff_eq.2 z1
        rw [if_pos ⟨p4, z1⟩] at h
        have hr := Option.some.inj h
        clear h p4 z1
        cases hr
        go_enter Try.func50, Try.ntmps50
        go_wp2
        go_quiet (first
          | ((go_at_call 56; exact Calls.quiet_of ((spec_l05Seen.calls l.sg x.f7 x.f0 s1 s2 _ HS.out).mono fun e W hh => ⟨hh.1, drawn_quiet' hh.2⟩))))
        go_wp2
        go_ret2
        exact ⟨rfl, blk_put (blk_put (blk_drewN (X0.out) _) 7 _ rfl) 1 _ rfl, KB.set (KB.set (KB.drewN (KB.refl gx w) _) 7 _) 1 _⟩
      · have z1b : (s1 == 0) = false := beq_eq_false_iff_ne.2 z1
        rw [if_neg (fun z => z1 z.2)] at h
        clear p4 z1
        by_cases d1 : x.f3 = x.f8
        · have d1b : (x.f3 != x.f8) = false := bne_eq_false_iff_eq.2 d1
          by_cases d2 : l.wd ≤ x.f8
          · have d2b := decide_eq_true d2
            rw [if_pos (show ¬ x.f3 = x.f8 ∨ l.wd ≤ x.f8 from .inr d2)] at h
            by_cases d3 : x.f8 < 7
            · have d3b := decide_eq_true d3
              rw [if_pos d3] at h
              have hr := Option.some.inj h
              clear h d3 d1 d2
              cases hr
              go_enter Try.func50, Try.ntmps50
              go_wp2
              go_quiet (first
                | ((go_at_call 56; exact Calls.quiet_of ((spec_l05Seen.calls l.sg x.f7 x.f0 s1 s2 _ HS.out).mono fun e W hh => ⟨hh.1, drawn_quiet' hh.2⟩))))
              go_wp2
              go_quiet (fail)
              go_wp2
              go_ret2
              exact ⟨rfl, blk_put (blk_put (blk_drewN (blk_put (blk_put (blk_drewN (X0.out) _) 7 _ rfl) 1 _ rfl) _) 9 _ rfl) 8 _ rfl, KB.set (KB.set (KB.drewN (KB.set (KB.set (KB.drewN (KB.refl gx w) _) 7 _) 1 _) _) 9 _) 8 _⟩
            · have d3b := decide_eq_false d3
              rw [if_neg d3] at h
              have hr := Option.some.inj h
              clear h d3 d1 d2
              cases hr
              go_enter Try.func50, Try.ntmps50
              go_wp2
              go_quiet (first
                | ((go_at_call 56; exact Calls.quiet_of ((spec_l05Seen.calls l.sg x.f7 x.f0 s1 s2 _ HS.out).mono fun e W hh => ⟨hh.1, drawn_quiet' hh.2⟩))))
              go_wp2
              go_quiet (fail)
              go_wp2
              go_ret2
              exact ⟨rfl, blk_put (blk_drewN (blk_put (blk_put (blk_drewN (X0.out) _) 7 _ rfl) 1 _ rfl) _) 9 _ rfl, KB.set (KB.drewN (KB.set (KB.set (KB.drewN (KB.refl gx w) _) 7 _) 1 _) _) 9 _⟩
          · have d2b := decide_eq_false d2
            rw [if_neg (show ¬ (¬ x.f3 = x.f8 ∨ l.wd ≤ x.f8) from fun z => z.elim (fun z => z d1) d2)] at h
            by_cases d3 : x.f8 < 7
            · have d3b := decide_eq_true d3
              rw [if_pos d3] at h
              have hr := Option.some.inj h
              clear h d3 d1 d2
              cases hr
              go_enter Try.func50, Try.ntmps50
              go_wp2
              go_quiet (first
                | ((go_at_call 56; exact Calls.quiet_of ((spec_l05Seen.calls l.sg x.f7 x.f0 s1 s2 _ HS.out).mono fun e W hh => ⟨hh.1, drawn_quiet' hh.2⟩))))
              go_wp2
              go_quiet (fail)
              go_wp2
              go_ret2
              exact ⟨rfl, blk_put (blk_drewN (blk_put (blk_put (blk_drewN (X0.out) _) 7 _ rfl) 1 _ rfl) _) 8 _ rfl, KB.set (KB.drewN (KB.set (KB.set (KB.drewN (KB.refl gx w) _) 7 _) 1 _) _) 8 _⟩
            · have d3b := decide_eq_false d3
              rw [if_neg d3] at h
              have hr := Option.some.inj h
              clear h d3 d1 d2
              cases hr
              go_enter Try.func50, Try.ntmps50
              go_wp2
              go_quiet (first
                | ((go_at_call 56; exact Calls.quiet_of ((spec_l05Seen.calls l.sg x.f7 x.f0 s1 s2 _ HS.out).mono fun e W hh => ⟨hh.1, drawn_quiet' hh.2⟩))))
              go_wp2
              go_quiet (fail)
              go_wp2
              go_ret2
              exact ⟨rfl, blk_drewN (blk_put (blk_put (blk_drewN (X0.out) _) 7 _ rfl) 1 _ rfl) _, KB.drewN (KB.set (KB.set (KB.drewN (KB.refl gx w) _) 7 _) 1 _) _⟩
        · have d1b : (x.f3 != x.f8) = true := bne_iff_ne.2 d1
          rw [if_pos (show ¬ x.f3 = x.f8 ∨ l.wd ≤ x.f8 from .inl d1)] at h
          by_cases d3 : x.f8 < 7
          · have d3b := decide_eq_true d3
            rw [if_pos d3] at h
            have hr := Option.some.inj h
            clear h d3 d1
            cases hr
            go_enter Try.func50, Try.ntmps50
            go_wp2
            go_quiet (first
              | ((go_at_call 56; exact Calls.quiet_of ((spec_l05Seen.calls l.sg x.f7 x.f0 s1 s2 _ HS.out).mono fun e W hh => ⟨hh.1, drawn_quiet' hh.2⟩))))
            go_wp2
            go_quiet (fail)
            go_wp2
            go_ret2
            exact ⟨rfl, blk_put (blk_put (blk_drewN (blk_put (blk_put (blk_drewN (X0.out) _) 7 _ rfl) 1 _ rfl) _) 9 _ rfl) 8 _ rfl, KB.set (KB.set (KB.drewN (KB.set (KB.set (KB.drewN (KB.refl gx w) _) 7 _) 1 _) _) 9 _) 8 _⟩
          · have d3b := decide_eq_false d3
            rw [if_neg d3] at h
            have hr := Option.some.inj h
            clear h d3 d1
            cases hr
            go_enter Try.func50, Try.ntmps50
            go_wp2
            go_quiet (first
              | ((go_at_call 56; exact Calls.quiet_of ((spec_l05Seen.calls l.sg x.f7 x.f0 s1 s2 _ HS.out).mono fun e W hh => ⟨hh.1, drawn_quiet' hh.2⟩))))
            go_wp2
            go_quiet (fail)
            go_wp2
            go_ret2
            exact ⟨rfl, blk_put (blk_drewN (blk_put (blk_put (blk_drewN (X0.out) _) 7 _ rfl) 1 _ rfl) _) 9 _ rfl, KB.set (KB.drewN (KB.set (KB.set (KB.drewN (KB.refl gx w) _) 7 _) 1 _) _) 9 _⟩
    · have p4b : (l.ph == 4) = false := beq_eq_false_iff_ne.2 p4
      rw [if_neg (fun z => p4 z.1)] at h
      clear p4
      by_cases d1 : x.f3 = x.f8
      · have d1b : (x.f3 != x.f8) = false := bne_eq_false_iff_eq.2 d1
        by_cases d2 : l.wd ≤ x.f8
        · have d2b := decide_eq_true d2
          rw [if_pos (show ¬ x.f3 = x.f8 ∨ l.wd ≤ x.f8 from .inr d2)] at h
          by_cases d3 : x.f8 < 7
          · have d3b := decide_eq_true d3
            rw [if_pos d3] at h
            have hr := Option.some.inj h
            clear h d3 d1 d2
            cases hr
            go_enter Try.func50, Try.ntmps50
            go_wp2
            go_quiet (first
              | ((go_at_call 56; exact Calls.quiet_of ((spec_l05Seen.calls l.sg x.f7 x.f0 s1 s2 _ HS.out).mono fun e W hh => ⟨hh.1, drawn_quiet' hh.2⟩))))
            go_wp2
            go_quiet (fail)
            go_wp2
            go_ret2
            exact ⟨rfl, blk_put (blk_put (blk_drewN (blk_put (blk_put (blk_drewN (X0.out) _) 7 _ rfl) 1 _ rfl) _) 9 _ rfl) 8 _ rfl, KB.set (KB.set (KB.drewN (KB.set (KB.set (KB.drewN (KB.refl gx w) _) 7 _) 1 _) _) 9 _) 8 _⟩
          · have d3b := decide_eq_false d3
            rw [if_neg d3] at h
            have hr := Option.some.inj h
            clear h d3 d1 d2
            cases hr
            go_enter Try.func50, Try.ntmps50
            go_wp2
            go_quiet (first
              | ((go_at_call 56; exact Calls.quiet_of ((spec_l05Seen.calls l.sg x.f7 x.f0 s1 s2 _ HS.out).mono fun e W hh => ⟨hh.1, drawn_quiet' hh.2⟩))))
            go_wp2
            go_quiet (fail)
            go_wp2
            go_ret2
            exact ⟨rfl, blk_put (blk_drewN (blk_put (blk_put (blk_drewN (X0.out) _) 7 _ rfl) 1 _ rfl) _) 9 _ rfl, KB.set (KB.drewN (KB.set (KB.set (KB.drewN (KB.refl gx w) _) 7 _) 1 _) _) 9 _⟩
        · have d2b := decide_eq_false d2
          rw [if_neg (show ¬ (¬ x.f3 = x.f8 ∨ l.wd ≤ x.f8) from fun z => z.elim (fun z => z d1) d2)] at h
          by_cases d3 : x.f8 < 7
          · have d3b := decide_eq_true d3
            rw [if_pos d3] at h
            have hr := Option.some.inj h
            clear h d3 d1 d2
            cases hr
            go_enter Try.func50, Try.ntmps50
            go_wp2
            go_quiet (first
              | ((go_at_call 56; exact Calls.quiet_of ((spec_l05Seen.calls l.sg x.f7 x.f0 s1 s2 _ HS.out).mono fun e W hh => ⟨hh.1, drawn_quiet' hh.2⟩))))
            go_wp2
            go_quiet (fail)
            go_wp2
            go_ret2
            exact ⟨rfl, blk_put (blk_drewN (blk_put (blk_put (blk_drewN (X0.out) _) 7 _ rfl) 1 _ rfl) _) 8 _ rfl, KB.set (KB.drewN (KB.set (KB.set (KB.drewN (KB.refl gx w) _) 7 _) 1 _) _) 8 _⟩
          · have d3b := decide_eq_false d3
            rw [if_neg d3] at h
            have hr := Option.some.inj h
            clear h d3 d1 d2
            cases hr
            go_enter Try.func50, Try.ntmps50
            go_wp2
            go_quiet (first
              | ((go_at_call 56; exact Calls.quiet_of ((spec_l05Seen.calls l.sg x.f7 x.f0 s1 s2 _ HS.out).mono fun e W hh => ⟨hh.1, drawn_quiet' hh.2⟩))))
            go_wp2
            go_quiet (fail)
            go_wp2
            go_ret2
            exact ⟨rfl, blk_drewN (blk_put (blk_put (blk_drewN (X0.out) _) 7 _ rfl) 1 _ rfl) _, KB.drewN (KB.set (KB.set (KB.drewN (KB.refl gx w) _) 7 _) 1 _) _⟩
      · have d1b : (x.f3 != x.f8) = true := bne_iff_ne.2 d1
        rw [if_pos (show ¬ x.f3 = x.f8 ∨ l.wd ≤ x.f8 from .inl d1)] at h
        by_cases d3 : x.f8 < 7
        · have d3b := decide_eq_true d3
          rw [if_pos d3] at h
          have hr := Option.some.inj h
          clear h d3 d1
          cases hr
          go_enter Try.func50, Try.ntmps50
          go_wp2
          go_quiet (first
            | ((go_at_call 56; exact Calls.quiet_of ((spec_l05Seen.calls l.sg x.f7 x.f0 s1 s2 _ HS.out).mono fun e W hh => ⟨hh.1, drawn_quiet' hh.2⟩))))
          go_wp2
          go_quiet (fail)
          go_wp2
          go_ret2
          exact ⟨rfl, blk_put (blk_put (blk_drewN (blk_put (blk_put (blk_drewN (X0.out) _) 7 _ rfl) 1 _ rfl) _) 9 _ rfl) 8 _ rfl, KB.set (KB.set (KB.drewN (KB.set (KB.set (KB.drewN (KB.refl gx w) _) 7 _) 1 _) _) 9 _) 8 _⟩
        · have d3b := decide_eq_false d3
          rw [if_neg d3] at h
          have hr := Option.some.inj h
          clear h d3 d1
          cases hr
          go_enter Try.func50, Try.ntmps50
          go_wp2
          go_quiet (first
            | ((go_at_call 56; exact Calls.quiet_of ((spec_l05Seen.calls l.sg x.f7 x.f0 s1 s2 _ HS.out).mono fun e W hh => ⟨hh.1, drawn_quiet' hh.2⟩))))
          go_wp2
          go_quiet (fail)
          go_wp2
          go_ret2
          exact ⟨rfl, blk_put (blk_drewN (blk_put (blk_put (blk_drewN (X0.out) _) 7 _ rfl) 1 _ rfl) _) 9 _ rfl, KB.set (KB.drewN (KB.set (KB.set (KB.drewN (KB.refl gx w) _) 7 _) 1 _) _) 9 _⟩
end Go.Proofs.Ytgmnbpdfdagniaa.A
/- The state behind a step of a side of a link (the reference). No conditions. -/
namespace Go.Proofs.Ytgmnbpdfdagniaa.A
open Go.RowKit Go.Proofs.YtgmnbpdfdagniaaW.PrintWords Go.Proofs.YtgmnbpdfdagniaaW.PrintLast Go.Proofs.YtgmnbpdfdagniaaW.PrintMore
set_option linter.unusedVariables false
set_option linter.unusedSimpArgs false
section
variable {P : Program} {ops : Array Oper} {rest : List Oper} {o : Oper} {a : Act} {Q : Exit → Act → World → Prop}
/-- A struct is loaded whole. -/
theorem load_row_event {W : World} (hgd : o.guard = none) (ty : TypeId) (x : Operand) (ho : o.op = .load ty x) (g : Nat) (hx : a.eval x = .pointer (some ⟨g, 0, none⟩)) (t : TypeId) (cs : Array Value) (d : TypeDesc) (hg : W.heap[g]? = some (.cells cs t (0, 0))) (hu : P.underlying ty = some d) (hd : (match d with | .struct _ | .array _ _ => true | _ => false) = true) (hi : (P.info? ty).map (·.size) = some cs.size)
    (h : wpList P ops Q rest (a.put o.dst (.agg cs)) W) : wpList P ops Q (o :: rest) a W :=
  wpList_plain hgd fun K hK => wp_load_row ty x ho g hx t cs (0, 0) d hg hu hd hi (hK _ _ h)
/-- A struct is stored whole. -/
theorem store_row_event {W : World} (hgd : o.guard = none) (hN : o.dst = none) (ty : TypeId) (x y : Operand) (ho : o.op = .store ty x y) (g : Nat) (cells : Array Value) (hx : a.eval x = .pointer (some ⟨g, 0, none⟩)) (hy : a.eval y = .agg cells) (t : TypeId) (old : Array Value) (hg : W.heap[g]? = some (.cells old t (0, 0))) (hi : (P.info? ty).map (·.size) = some cells.size) (hold : old.size = cells.size) (h1 : cells.all (·.oneCell') = true)
    (h : ∀ w1, w1.heap[g]? = some (.cells cells t (0, 0)) → KB g W w1 → wpList P ops Q rest a w1) : wpList P ops Q (o :: rest) a W :=
  wpList_plain hgd fun K hK => wp_store_row ty x y ho g cells hx hy t old hg hi hold h1 (by
    rw [hN]
    exact hK _ _ (h _ (setRow_heap W g old cells t (0, 0) hg) ⟨rfl, rfl, rfl, by simp, fun i hi hne => setRow_other W g i cells hne⟩))
end
def zK : S57 := ⟨0, 0, 0, 0, 0, 0, 0, 0, 0, 0, 0, 0⟩
def valK (x : S57) : Value := .agg #[.int .i64 x.f0, .int .i64 x.f1, .int .i64 x.f2, .int .i64 x.f3, .int .i64 x.f4, .int .i64 x.f5, .int .i64 x.f6, .int .i64 x.f7, .int .i64 x.f8, .int .i64 x.f9, .int .i64 x.f10, .int .i64 x.f11]
def turnK (side : Int) (x : S57) : S57 := if x.f10 = side then x else { x with f10 := side, f11 := 0 }
def nextF (l : Lnk) (ratio side : Int) (x : S57) : Option (S57 × Bool) :=
  if (turnK side x).f11 = ratio then some (turnK side x, false)
  else if side = 1 then (sendF l { turnK side x with f11 := wrap64 ((turnK side x).f11 + 1) }).bind fun r => some (r, true)
  else (takeF l { turnK side x with f11 := wrap64 ((turnK side x).f11 + 1) }).bind fun r => some (r.1, true)
/-- What a step stands on: the state's box, the link's, the result's. -/
structure NI (w : World) (g gx gr : Nat) (l : Lnk) (x r : S57) (W : World) : Prop where
  bel : Below w.heap.size w W
  lb : W.heap[g]? = some (boxL l)
  xb : W.heap[gx]? = some (boxK x)
  rb : W.heap[gr]? = some (boxK r)
  lo : g < w.heap.size ∧ w.heap.size ≤ gx ∧ w.heap.size ≤ gr ∧ gx ≠ gr
theorem NI.kb {w : World} {g gx gr : Nat} {l : Lnk} {x r : S57} {W : World} (h : NI w g gx gr l x r W) {W' : World} (y : S57) (hx : W'.heap[gx]? = some (boxK y)) (hk : KB gx W W') : NI w g gx gr l y r W' :=
  ⟨hk.low h.bel h.lo.2.1, hk.keep h.lb (by have := h.lo; omega), hx, hk.keep h.rb h.lo.2.2.2.symm, h.lo⟩
set_option maxHeartbeats 6400000 in
set_option maxRecDepth 100000 in
theorem nextF.calls (g : Nat) (l : Lnk) (ratio side : Int) (x r : S57) (b : Bool) (w : World) (hl : w.heap[g]? = some (boxL l)) (h : nextF l ratio side x = some (r, b)) :
    Calls Try.prog 37 #[.pointer (some ⟨g, 0, none⟩), .int .i64 ratio, valK x, .int .i64 side] w fun e w' => e = .returned (.tuple #[valK r, .bool b]) ∧ Below w.heap.size w w' := by
  have hu57 := Try.underlying57
  have HL := Aside0.mk hl
  have HU := Aside0.mk hu57
  clear hl hu57
  unfold nextF turnK at h
  by_cases t1 : x.f10 = side
  · have t1b : (x.f10 != side) = false := bne_eq_false_iff_eq.2 t1
    simp only [if_pos t1] at h
    by_cases t2 : x.f11 = ratio
    · have t2b : (x.f11 == ratio) = true := beq_iff_eq.2 t2
      rw [if_pos t2] at h
      simp only [Option.some.injEq, Prod.mk.injEq] at h
      obtain ⟨rfl, rfl⟩ := h
      clear t1 t2
      go_enter Try.func37, Try.ntmps37
      go_wp2_with (first
        | ((with_reducible refine gate_dst (N := 6) rfl ?_); refine box_event ?hg (N := 6) ?hd (cs := #[.int .i64 x.f0, .int .i64 x.f1, .int .i64 x.f2, .int .i64 x.f3, .int .i64 x.f4, .int .i64 x.f5, .int .i64 x.f6, .int .i64 x.f7, .int .i64 x.f8, .int .i64 x.f9, .int .i64 x.f10, .int .i64 x.f11]) (t := 57) ?hr ?_; (case hd => rfl); (case hg => rfl); (case hr => first | (go_simp; done) | (go_simp; rfl)); intro gx hgx W1 hbox hb; have X1 := Aside0.mk hbox; have L1 := Aside0.mk (blk_below HL.out hb); have B1 := Aside0.mk hb; have G1 := Aside0.mk hgx; clear hbox hb hgx)
        | ((with_reducible refine gate_dst (N := 8) rfl ?_); refine box_event ?hg (N := 8) ?hd (cs := #[.int .i64 0, .int .i64 0, .int .i64 0, .int .i64 0, .int .i64 0, .int .i64 0, .int .i64 0, .int .i64 0, .int .i64 0, .int .i64 0, .int .i64 0, .int .i64 0]) (t := 57) ?hr ?_; (case hd => rfl); (case hg => rfl); (case hr => first | (go_simp; done) | (go_simp; rfl)); intro gr hgr W2 hbox hb; have N2 := Aside0.mk (show NI w g gx gr l x zK W2 from ⟨below_step B1.out hb, blk_below L1.out hb, blk_below X1.out hb, hbox, ⟨blk_lt HL.out, by (have h1_ := G1.out; omega), by (have h1_ := B1.out.size; omega), by (have h1_ := blk_lt X1.out; omega)⟩⟩); have x10 : W2.cell? ⟨gx, 10, none⟩ = some (.int .i64 x.f10) := (blk_cell N2.out.xb 10).trans rfl; have x11 : W2.cell? ⟨gx, 11, none⟩ = some (.int .i64 x.f11) := (blk_cell N2.out.xb 11).trans rfl; have y10 := blk_frozen N2.out.xb 10; have y11 := blk_frozen N2.out.xb 11; clear hbox hb hgr)
        | ((with_reducible refine gate_dst (N := 21) rfl ?_); have N3 := Aside0.mk (NI.kb N2.out ⟨x.f0, x.f1, x.f2, x.f3, x.f4, x.f5, x.f6, x.f7, x.f8, x.f9, x.f10, x.f11⟩ (N2.out.xb) (KB.refl gx _)); refine load_row_event rfl 57 (.tmp 6) rfl gx rfl 57 #[.int .i64 (x.f0), .int .i64 (x.f1), .int .i64 (x.f2), .int .i64 (x.f3), .int .i64 (x.f4), .int .i64 (x.f5), .int .i64 (x.f6), .int .i64 (x.f7), .int .i64 (x.f8), .int .i64 (x.f9), .int .i64 (x.f10), .int .i64 (x.f11)] _ N3.out.xb HU.out rfl (by kernel_rfl) ?_)
        | ((with_reducible refine gate_store (t := 57) (p := 8) rfl ?_); refine store_row_event rfl rfl 57 (.tmp 8) (.tmp 21) rfl gr #[.int .i64 (x.f0), .int .i64 (x.f1), .int .i64 (x.f2), .int .i64 (x.f3), .int .i64 (x.f4), .int .i64 (x.f5), .int .i64 (x.f6), .int .i64 (x.f7), .int .i64 (x.f8), .int .i64 (x.f9), .int .i64 (x.f10), .int .i64 (x.f11)] rfl rfl 57 _ N3.out.rb (by kernel_rfl) (by first | rfl | kernel_rfl) (by first | rfl | kernel_rfl | simp [Value.oneCell']) ?_; intro W9 hr9 hk9; have R9 := Aside0.mk hr9; have B9 := Aside0.mk (hk9.low N3.out.bel N3.out.lo.2.2.1); clear hr9 hk9))
      refine bodyPost_ret (results_ct rfl _ _ gr 57 #[.int .i64 (x.f0), .int .i64 (x.f1), .int .i64 (x.f2), .int .i64 (x.f3), .int .i64 (x.f4), .int .i64 (x.f5), .int .i64 (x.f6), .int .i64 (x.f7), .int .i64 (x.f8), .int .i64 (x.f9), .int .i64 (x.f10), .int .i64 (x.f11)] (0, 0) _ rfl R9.out HU.out rfl (by kernel_rfl)) rfl ?_
      exact ⟨rfl, B9.out⟩
    · have t2b : (x.f11 == ratio) = false := beq_eq_false_iff_ne.2 t2
      rw [if_neg t2] at h
      by_cases t3 : side = 1
      · have t3b : (side == 1) = true := beq_iff_eq.2 t3
        rw [if_pos t3] at h
        clear t1 t2 t3
        replace h := Option.bind_eq_some_iff.1 h
        obtain ⟨y, hs, h⟩ := h
        simp only [Option.some.injEq, Prod.mk.injEq] at h
        obtain ⟨rfl, rfl⟩ := h
        have HS := Aside0.mk hs
        clear hs
        go_enter Try.func37, Try.ntmps37
        go_wp2_with (first
          | ((with_reducible refine gate_dst (N := 6) rfl ?_); refine box_event ?hg (N := 6) ?hd (cs := #[.int .i64 x.f0, .int .i64 x.f1, .int .i64 x.f2, .int .i64 x.f3, .int .i64 x.f4, .int .i64 x.f5, .int .i64 x.f6, .int .i64 x.f7, .int .i64 x.f8, .int .i64 x.f9, .int .i64 x.f10, .int .i64 x.f11]) (t := 57) ?hr ?_; (case hd => rfl); (case hg => rfl); (case hr => first | (go_simp; done) | (go_simp; rfl)); intro gx hgx W1 hbox hb; have X1 := Aside0.mk hbox; have L1 := Aside0.mk (blk_below HL.out hb); have B1 := Aside0.mk hb; have G1 := Aside0.mk hgx; clear hbox hb hgx)
          | ((with_reducible refine gate_dst (N := 8) rfl ?_); refine box_event ?hg (N := 8) ?hd (cs := #[.int .i64 0, .int .i64 0, .int .i64 0, .int .i64 0, .int .i64 0, .int .i64 0, .int .i64 0, .int .i64 0, .int .i64 0, .int .i64 0, .int .i64 0, .int .i64 0]) (t := 57) ?hr ?_; (case hd => rfl); (case hg => rfl); (case hr => first | (go_simp; done) | (go_simp; rfl)); intro gr hgr W2 hbox hb; have N2 := Aside0.mk (show NI w g gx gr l x zK W2 from ⟨below_step B1.out hb, blk_below L1.out hb, blk_below X1.out hb, hbox, ⟨blk_lt HL.out, by (have h1_ := G1.out; omega), by (have h1_ := B1.out.size; omega), by (have h1_ := blk_lt X1.out; omega)⟩⟩); have x10 : W2.cell? ⟨gx, 10, none⟩ = some (.int .i64 x.f10) := (blk_cell N2.out.xb 10).trans rfl; have x11 : W2.cell? ⟨gx, 11, none⟩ = some (.int .i64 x.f11) := (blk_cell N2.out.xb 11).trans rfl; have y10 := blk_frozen N2.out.xb 10; have y11 := blk_frozen N2.out.xb 11; clear hbox hb hgr)
          | (go_at_call 49; have N3 := Aside0.mk (NI.kb N2.out ⟨x.f0, x.f1, x.f2, x.f3, x.f4, x.f5, x.f6, x.f7, x.f8, x.f9, x.f10, wrap64 (x.f11 + 1)⟩ (blk_put (N2.out.xb) 11 (.int .i64 (wrap64 (x.f11 + 1))) rfl) (KB.set (KB.refl gx _) 11 (.int .i64 (wrap64 (x.f11 + 1))))); (with_reducible refine (sendF.calls g gx l ⟨x.f0, x.f1, x.f2, x.f3, x.f4, x.f5, x.f6, x.f7, x.f8, x.f9, x.f10, wrap64 (x.f11 + 1)⟩ y _ ?hl ?hx HS.out).mono ?_); (case hl => exact N3.out.lb); (case hx => exact N3.out.xb); rintro e W5 ⟨rfl, hx5, hk5⟩; have N5 := Aside0.mk (NI.kb N3.out y hx5 hk5); clear hx5 hk5)
          | ((with_reducible refine gate_dst (N := 32) rfl ?_); refine load_row_event rfl 57 (.tmp 6) rfl gx rfl 57 #[.int .i64 (y.f0), .int .i64 (y.f1), .int .i64 (y.f2), .int .i64 (y.f3), .int .i64 (y.f4), .int .i64 (y.f5), .int .i64 (y.f6), .int .i64 (y.f7), .int .i64 (y.f8), .int .i64 (y.f9), .int .i64 (y.f10), .int .i64 (y.f11)] _ N5.out.xb HU.out rfl (by kernel_rfl) ?_)
          | ((with_reducible refine gate_store (t := 57) (p := 8) rfl ?_); refine store_row_event rfl rfl 57 (.tmp 8) (.tmp 32) rfl gr #[.int .i64 (y.f0), .int .i64 (y.f1), .int .i64 (y.f2), .int .i64 (y.f3), .int .i64 (y.f4), .int .i64 (y.f5), .int .i64 (y.f6), .int .i64 (y.f7), .int .i64 (y.f8), .int .i64 (y.f9), .int .i64 (y.f10), .int .i64 (y.f11)] rfl rfl 57 _ N5.out.rb (by kernel_rfl) (by first | rfl | kernel_rfl) (by first | rfl | kernel_rfl | simp [Value.oneCell']) ?_; intro W9 hr9 hk9; have R9 := Aside0.mk hr9; have B9 := Aside0.mk (hk9.low N5.out.bel N5.out.lo.2.2.1); clear hr9 hk9))
        refine bodyPost_ret (results_ct rfl _ _ gr 57 #[.int .i64 (y.f0), .int .i64 (y.f1), .int .i64 (y.f2), .int .i64 (y.f3), .int .i64 (y.f4), .int .i64 (y.f5), .int .i64 (y.f6), .int .i64 (y.f7), .int .i64 (y.f8), .int .i64 (y.f9), .int .i64 (y.f10), .int .i64 (y.f11)] (0, 0) _ rfl R9.out HU.out rfl (by kernel_rfl)) rfl ?_
        exact ⟨rfl, B9.out⟩
      · have t3b : (side == 1) = false := beq_eq_false_iff_ne.2 t3
        rw [if_neg t3] at h
        clear t1 t2 t3
        replace h := Option.bind_eq_some_iff.1 h
        obtain ⟨⟨y, v, tk⟩, hs, h⟩ := h
        simp only [Option.some.injEq, Prod.mk.injEq] at h
        obtain ⟨rfl, rfl⟩ := h
        have HS := Aside0.mk hs
        clear hs
        go_enter Try.func37, Try.ntmps37
        go_wp2_with (first
          | ((with_reducible refine gate_dst (N := 6) rfl ?_); refine box_event ?hg (N := 6) ?hd (cs := #[.int .i64 x.f0, .int .i64 x.f1, .int .i64 x.f2, .int .i64 x.f3, .int .i64 x.f4, .int .i64 x.f5, .int .i64 x.f6, .int .i64 x.f7, .int .i64 x.f8, .int .i64 x.f9, .int .i64 x.f10, .int .i64 x.f11]) (t := 57) ?hr ?_; (case hd => rfl); (case hg => rfl); (case hr => first | (go_simp; done) | (go_simp; rfl)); intro gx hgx W1 hbox hb; have X1 := Aside0.mk hbox; have L1 := Aside0.mk (blk_below HL.out hb); have B1 := Aside0.mk hb; have G1 := Aside0.mk hgx; clear hbox hb hgx)
          | ((with_reducible refine gate_dst (N := 8) rfl ?_); refine box_event ?hg (N := 8) ?hd (cs := #[.int .i64 0, .int .i64 0, .int .i64 0, .int .i64 0, .int .i64 0, .int .i64 0, .int .i64 0, .int .i64 0, .int .i64 0, .int .i64 0, .int .i64 0, .int .i64 0]) (t := 57) ?hr ?_; (case hd => rfl); (case hg => rfl); (case hr => first | (go_simp; done) | (go_simp; rfl)); intro gr hgr W2 hbox hb; have N2 := Aside0.mk (show NI w g gx gr l x zK W2 from ⟨below_step B1.out hb, blk_below L1.out hb, blk_below X1.out hb, hbox, ⟨blk_lt HL.out, by (have h1_ := G1.out; omega), by (have h1_ := B1.out.size; omega), by (have h1_ := blk_lt X1.out; omega)⟩⟩); have x10 : W2.cell? ⟨gx, 10, none⟩ = some (.int .i64 x.f10) := (blk_cell N2.out.xb 10).trans rfl; have x11 : W2.cell? ⟨gx, 11, none⟩ = some (.int .i64 x.f11) := (blk_cell N2.out.xb 11).trans rfl; have y10 := blk_frozen N2.out.xb 10; have y11 := blk_frozen N2.out.xb 11; clear hbox hb hgr)
          | (go_at_call 50; have N3 := Aside0.mk (NI.kb N2.out ⟨x.f0, x.f1, x.f2, x.f3, x.f4, x.f5, x.f6, x.f7, x.f8, x.f9, x.f10, wrap64 (x.f11 + 1)⟩ (blk_put (N2.out.xb) 11 (.int .i64 (wrap64 (x.f11 + 1))) rfl) (KB.set (KB.refl gx _) 11 (.int .i64 (wrap64 (x.f11 + 1))))); (with_reducible refine (takeF.calls g gx l ⟨x.f0, x.f1, x.f2, x.f3, x.f4, x.f5, x.f6, x.f7, x.f8, x.f9, x.f10, wrap64 (x.f11 + 1)⟩ y v tk _ ?hl ?hx HS.out).mono ?_); (case hl => exact N3.out.lb); (case hx => exact N3.out.xb); rintro e W5 ⟨rfl, hx5, hk5⟩; have N5 := Aside0.mk (NI.kb N3.out y hx5 hk5); clear hx5 hk5)
          | ((with_reducible refine gate_dst (N := 32) rfl ?_); refine load_row_event rfl 57 (.tmp 6) rfl gx rfl 57 #[.int .i64 (y.f0), .int .i64 (y.f1), .int .i64 (y.f2), .int .i64 (y.f3), .int .i64 (y.f4), .int .i64 (y.f5), .int .i64 (y.f6), .int .i64 (y.f7), .int .i64 (y.f8), .int .i64 (y.f9), .int .i64 (y.f10), .int .i64 (y.f11)] _ N5.out.xb HU.out rfl (by kernel_rfl) ?_)
          | ((with_reducible refine gate_store (t := 57) (p := 8) rfl ?_); refine store_row_event rfl rfl 57 (.tmp 8) (.tmp 32) rfl gr #[.int .i64 (y.f0), .int .i64 (y.f1), .int .i64 (y.f2), .int .i64 (y.f3), .int .i64 (y.f4), .int .i64 (y.f5), .int .i64 (y.f6), .int .i64 (y.f7), .int .i64 (y.f8), .int .i64 (y.f9), .int .i64 (y.f10), .int .i64 (y.f11)] rfl rfl 57 _ N5.out.rb (by kernel_rfl) (by first | rfl | kernel_rfl) (by first | rfl | kernel_rfl | simp [Value.oneCell']) ?_; intro W9 hr9 hk9; have R9 := Aside0.mk hr9; have B9 := Aside0.mk (hk9.low N5.out.bel N5.out.lo.2.2.1); clear hr9 hk9))
        refine bodyPost_ret (results_ct rfl _ _ gr 57 #[.int .i64 (y.f0), .int .i64 (y.f1), .int .i64 (y.f2), .int .i64 (y.f3), .int .i64 (y.f4), .int .i64 (y.f5), .int .i64 (y.f6), .int .i64 (y.f7), .int .i64 (y.f8), .int .i64 (y.f9), .int .i64 (y.f10), .int .i64 (y.f11)] (0, 0) _ rfl R9.out HU.out rfl (by kernel_rfl)) rfl ?_
        exact ⟨rfl, B9.out⟩
  · have t1b : (x.f10 != side) = true := bne_iff_ne.2 t1
    simp only [if_neg t1] at h
    by_cases t2 : (0 : Int) = ratio
    · have t2b : ((0 : Int) == ratio) = true := beq_iff_eq.2 t2
      rw [if_pos t2] at h
      simp only [Option.some.injEq, Prod.mk.injEq] at h
      obtain ⟨rfl, rfl⟩ := h
      clear t1 t2
      go_enter Try.func37, Try.ntmps37
      go_wp2_with (first
        | ((with_reducible refine gate_dst (N := 6) rfl ?_); refine box_event ?hg (N := 6) ?hd (cs := #[.int .i64 x.f0, .int .i64 x.f1, .int .i64 x.f2, .int .i64 x.f3, .int .i64 x.f4, .int .i64 x.f5, .int .i64 x.f6, .int .i64 x.f7, .int .i64 x.f8, .int .i64 x.f9, .int .i64 x.f10, .int .i64 x.f11]) (t := 57) ?hr ?_; (case hd => rfl); (case hg => rfl); (case hr => first | (go_simp; done) | (go_simp; rfl)); intro gx hgx W1 hbox hb; have X1 := Aside0.mk hbox; have L1 := Aside0.mk (blk_below HL.out hb); have B1 := Aside0.mk hb; have G1 := Aside0.mk hgx; clear hbox hb hgx)
        | ((with_reducible refine gate_dst (N := 8) rfl ?_); refine box_event ?hg (N := 8) ?hd (cs := #[.int .i64 0, .int .i64 0, .int .i64 0, .int .i64 0, .int .i64 0, .int .i64 0, .int .i64 0, .int .i64 0, .int .i64 0, .int .i64 0, .int .i64 0, .int .i64 0]) (t := 57) ?hr ?_; (case hd => rfl); (case hg => rfl); (case hr => first | (go_simp; done) | (go_simp; rfl)); intro gr hgr W2 hbox hb; have N2 := Aside0.mk (show NI w g gx gr l x zK W2 from ⟨below_step B1.out hb, blk_below L1.out hb, blk_below X1.out hb, hbox, ⟨blk_lt HL.out, by (have h1_ := G1.out; omega), by (have h1_ := B1.out.size; omega), by (have h1_ := blk_lt X1.out; omega)⟩⟩); have x10 : W2.cell? ⟨gx, 10, none⟩ = some (.int .i64 x.f10) := (blk_cell N2.out.xb 10).trans rfl; have x11 : W2.cell? ⟨gx, 11, none⟩ = some (.int .i64 x.f11) := (blk_cell N2.out.xb 11).trans rfl; have y10 := blk_frozen N2.out.xb 10; have y11 := blk_frozen N2.out.xb 11; clear hbox hb hgr)
        | ((with_reducible refine gate_dst (N := 21) rfl ?_); have N3 := Aside0.mk (NI.kb N2.out ⟨x.f0, x.f1, x.f2, x.f3, x.f4, x.f5, x.f6, x.f7, x.f8, x.f9, side, 0⟩ (blk_put (blk_put (N2.out.xb) 10 (.int .i64 (side)) rfl) 11 (.int .i64 (0)) rfl) (KB.set (KB.set (KB.refl gx _) 10 (.int .i64 (side))) 11 (.int .i64 (0)))); refine load_row_event rfl 57 (.tmp 6) rfl gx rfl 57 #[.int .i64 (x.f0), .int .i64 (x.f1), .int .i64 (x.f2), .int .i64 (x.f3), .int .i64 (x.f4), .int .i64 (x.f5), .int .i64 (x.f6), .int .i64 (x.f7), .int .i64 (x.f8), .int .i64 (x.f9), .int .i64 (side), .int .i64 (0)] _ N3.out.xb HU.out rfl (by kernel_rfl) ?_)
        | ((with_reducible refine gate_store (t := 57) (p := 8) rfl ?_); refine store_row_event rfl rfl 57 (.tmp 8) (.tmp 21) rfl gr #[.int .i64 (x.f0), .int .i64 (x.f1), .int .i64 (x.f2), .int .i64 (x.f3), .int .i64 (x.f4), .int .i64 (x.f5), .int .i64 (x.f6), .int .i64 (x.f7), .int .i64 (x.f8), .int .i64 (x.f9), .int .i64 (side), .int .i64 (0)] rfl rfl 57 _ N3.out.rb (by kernel_rfl) (by first | rfl | kernel_rfl) (by first | rfl | kernel_rfl | simp [Value.oneCell']) ?_; intro W9 hr9 hk9; have R9 := Aside0.mk hr9; have B9 := Aside0.mk (hk9.low N3.out.bel N3.out.lo.2.2.1); clear hr9 hk9))
      refine bodyPost_ret (results_ct rfl _ _ gr 57 #[.int .i64 (x.f0), .int .i64 (x.f1), .int .i64 (x.f2), .int .i64 (x.f3), .int .i64 (x.f4), .int .i64 (x.f5), .int .i64 (x.f6), .int .i64 (x.f7), .int .i64 (x.f8), .int .i64 (x.f9), .int .i64 (side), .int .i64 (0)] (0, 0) _ rfl R9.out HU.out rfl (by kernel_rfl)) rfl ?_
      exact ⟨rfl, B9.out⟩
    · have t2b : ((0 : Int) == ratio) = false := beq_eq_false_iff_ne.2 t2
      rw [if_neg t2] at h
      by_cases t3 : side = 1
      · have t3b : (side == 1) = true := beq_iff_eq.2 t3
        rw [if_pos t3] at h
        clear t1 t2 t3
        simp only [show wrap64 ((0 : Int) + 1) = 1 by unfold wrap64; omega] at h
        replace h := Option.bind_eq_some_iff.1 h
        obtain ⟨y, hs, h⟩ := h
        simp only [Option.some.injEq, Prod.mk.injEq] at h
        obtain ⟨rfl, rfl⟩ := h
        have HS := Aside0.mk hs
        clear hs
        go_enter Try.func37, Try.ntmps37
        go_wp2_with (first
          | ((with_reducible refine gate_dst (N := 6) rfl ?_); refine box_event ?hg (N := 6) ?hd (cs := #[.int .i64 x.f0, .int .i64 x.f1, .int .i64 x.f2, .int .i64 x.f3, .int .i64 x.f4, .int .i64 x.f5, .int .i64 x.f6, .int .i64 x.f7, .int .i64 x.f8, .int .i64 x.f9, .int .i64 x.f10, .int .i64 x.f11]) (t := 57) ?hr ?_; (case hd => rfl); (case hg => rfl); (case hr => first | (go_simp; done) | (go_simp; rfl)); intro gx hgx W1 hbox hb; have X1 := Aside0.mk hbox; have L1 := Aside0.mk (blk_below HL.out hb); have B1 := Aside0.mk hb; have G1 := Aside0.mk hgx; clear hbox hb hgx)
          | ((with_reducible refine gate_dst (N := 8) rfl ?_); refine box_event ?hg (N := 8) ?hd (cs := #[.int .i64 0, .int .i64 0, .int .i64 0, .int .i64 0, .int .i64 0, .int .i64 0, .int .i64 0, .int .i64 0, .int .i64 0, .int .i64 0, .int .i64 0, .int .i64 0]) (t := 57) ?hr ?_; (case hd => rfl); (case hg => rfl); (case hr => first | (go_simp; done) | (go_simp; rfl)); intro gr hgr W2 hbox hb; have N2 := Aside0.mk (show NI w g gx gr l x zK W2 from ⟨below_step B1.out hb, blk_below L1.out hb, blk_below X1.out hb, hbox, ⟨blk_lt HL.out, by (have h1_ := G1.out; omega), by (have h1_ := B1.out.size; omega), by (have h1_ := blk_lt X1.out; omega)⟩⟩); have x10 : W2.cell? ⟨gx, 10, none⟩ = some (.int .i64 x.f10) := (blk_cell N2.out.xb 10).trans rfl; have x11 : W2.cell? ⟨gx, 11, none⟩ = some (.int .i64 x.f11) := (blk_cell N2.out.xb 11).trans rfl; have y10 := blk_frozen N2.out.xb 10; have y11 := blk_frozen N2.out.xb 11; clear hbox hb hgr)
          | (go_at_call 49; have N3 := Aside0.mk (NI.kb N2.out ⟨x.f0, x.f1, x.f2, x.f3, x.f4, x.f5, x.f6, x.f7, x.f8, x.f9, side, 1⟩ (blk_put (blk_put (blk_put (N2.out.xb) 10 (.int .i64 (side)) rfl) 11 (.int .i64 (0)) rfl) 11 (.int .i64 (1)) rfl) (KB.set (KB.set (KB.set (KB.refl gx _) 10 (.int .i64 (side))) 11 (.int .i64 (0))) 11 (.int .i64 (1)))); (with_reducible refine (sendF.calls g gx l ⟨x.f0, x.f1, x.f2, x.f3, x.f4, x.f5, x.f6, x.f7, x.f8, x.f9, side, 1⟩ y _ ?hl ?hx HS.out).mono ?_); (case hl => exact N3.out.lb); (case hx => exact N3.out.xb); rintro e W5 ⟨rfl, hx5, hk5⟩; have N5 := Aside0.mk (NI.kb N3.out y hx5 hk5); clear hx5 hk5)
          | ((with_reducible refine gate_dst (N := 32) rfl ?_); refine load_row_event rfl 57 (.tmp 6) rfl gx rfl 57 #[.int .i64 (y.f0), .int .i64 (y.f1), .int .i64 (y.f2), .int .i64 (y.f3), .int .i64 (y.f4), .int .i64 (y.f5), .int .i64 (y.f6), .int .i64 (y.f7), .int .i64 (y.f8), .int .i64 (y.f9), .int .i64 (y.f10), .int .i64 (y.f11)] _ N5.out.xb HU.out rfl (by kernel_rfl) ?_)
          | ((with_reducible refine gate_store (t := 57) (p := 8) rfl ?_); refine store_row_event rfl rfl 57 (.tmp 8) (.tmp 32) rfl gr #[.int .i64 (y.f0), .int .i64 (y.f1), .int .i64 (y.f2), .int .i64 (y.f3), .int .i64 (y.f4), .int .i64 (y.f5), .int .i64 (y.f6), .int .i64 (y.f7), .int .i64 (y.f8), .int .i64 (y.f9), .int .i64 (y.f10), .int .i64 (y.f11)] rfl rfl 57 _ N5.out.rb (by kernel_rfl) (by first | rfl | kernel_rfl) (by first | rfl | kernel_rfl | simp [Value.oneCell']) ?_; intro W9 hr9 hk9; have R9 := Aside0.mk hr9; have B9 := Aside0.mk (hk9.low N5.out.bel N5.out.lo.2.2.1); clear hr9 hk9))
        refine bodyPost_ret (results_ct rfl _ _ gr 57 #[.int .i64 (y.f0), .int .i64 (y.f1), .int .i64 (y.f2), .int .i64 (y.f3), .int .i64 (y.f4), .int .i64 (y.f5), .int .i64 (y.f6), .int .i64 (y.f7), .int .i64 (y.f8), .int .i64 (y.f9), .int .i64 (y.f10), .int .i64 (y.f11)] (0, 0) _ rfl R9.out HU.out rfl (by kernel_rfl)) rfl ?_
        exact ⟨rfl, B9.out⟩
      · have t3b : (side == 1) = false := beq_eq_false_iff_ne.2 t3
        rw [if_neg t3] at h
        clear t1 t2 t3
        simp only [show wrap64 ((0 : Int) + 1) = 1 by unfold wrap64; omega] at h
        replace h := Option.bind_eq_some_iff.1 h
        obtain ⟨⟨y, v, tk⟩, hs, h⟩ := h
        simp only [Option.some.injEq, Prod.mk.injEq] at h
        obtain ⟨rfl, rfl⟩ := h
        have HS := Aside0.mk hs
        clear hs
        go_enter Try.func37, Try.ntmps37
        go_wp2_with (first
          | ((with_reducible refine gate_dst (N := 6) rfl ?_); refine box_event ?hg (N := 6) ?hd (cs := #[.int .i64 x.f0, .int .i64 x.f1, .int .i64 x.f2, .int .i64 x.f3, .int .i64 x.f4, .int .i64 x.f5, .int .i64 x.f6, .int .i64 x.f7, .int .i64 x.f8, .int .i64 x.f9, .int .i64 x.f10, .int .i64 x.f11]) (t := 57) ?hr ?_; (case hd => rfl); (case hg => rfl); (case hr => first | (go_simp; done) | (go_simp; rfl)); intro gx hgx W1 hbox hb; have X1 := Aside0.mk hbox; have L1 := Aside0.mk (blk_below HL.out hb); have B1 := Aside0.mk hb; have G1 := Aside0.mk hgx; clear hbox hb hgx)
          | ((with_reducible refine gate_dst (N := 8) rfl ?_); refine box_event ?hg (N := 8) ?hd (cs := #[.int .i64 0, .int .i64 0, .int .i64 0, .int .i64 0, .int .i64 0, .int .i64 0, .int .i64 0, .int .i64 0, .int .i64 0, .int .i64 0, .int .i64 0, .int .i64 0]) (t := 57) ?hr ?_; (case hd => rfl); (case hg => rfl); (case hr => first | (go_simp; done) | (go_simp; rfl)); intro gr hgr W2 hbox hb; have N2 := Aside0.mk (show NI w g gx gr l x zK W2 from ⟨below_step B1.out hb, blk_below L1.out hb, blk_below X1.out hb, hbox, ⟨blk_lt HL.out, by (have h1_ := G1.out; omega), by (have h1_ := B1.out.size; omega), by (have h1_ := blk_lt X1.out; omega)⟩⟩); have x10 : W2.cell? ⟨gx, 10, none⟩ = some (.int .i64 x.f10) := (blk_cell N2.out.xb 10).trans rfl; have x11 : W2.cell? ⟨gx, 11, none⟩ = some (.int .i64 x.f11) := (blk_cell N2.out.xb 11).trans rfl; have y10 := blk_frozen N2.out.xb 10; have y11 := blk_frozen N2.out.xb 11; clear hbox hb hgr)
          | (go_at_call 50; have N3 := Aside0.mk (NI.kb N2.out ⟨x.f0, x.f1, x.f2, x.f3, x.f4, x.f5, x.f6, x.f7, x.f8, x.f9, side, 1⟩ (blk_put (blk_put (blk_put (N2.out.xb) 10 (.int .i64 (side)) rfl) 11 (.int .i64 (0)) rfl) 11 (.int .i64 (1)) rfl) (KB.set (KB.set (KB.set (KB.refl gx _) 10 (.int .i64 (side))) 11 (.int .i64 (0))) 11 (.int .i64 (1)))); (with_reducible refine (takeF.calls g gx l ⟨x.f0, x.f1, x.f2, x.f3, x.f4, x.f5, x.f6, x.f7, x.f8, x.f9, side, 1⟩ y v tk _ ?hl ?hx HS.out).mono ?_); (case hl => exact N3.out.lb); (case hx => exact N3.out.xb); rintro e W5 ⟨rfl, hx5, hk5⟩; have N5 := Aside0.mk (NI.kb N3.out y hx5 hk5); clear hx5 hk5)
          | ((with_reducible refine gate_dst (N := 32) rfl ?_); refine load_row_event rfl 57 (.tmp 6) rfl gx rfl 57 #[.int .i64 (y.f0), .int .i64 (y.f1), .int .i64 (y.f2), .int .i64 (y.f3), .int .i64 (y.f4), .int .i64 (y.f5), .int .i64 (y.f6), .int .i64 (y.f7), .int .i64 (y.f8), .int .i64 (y.f9), .int .i64 (y.f10), .int .i64 (y.f11)] _ N5.out.xb HU.out rfl (by kernel_rfl) ?_)
          | ((with_reducible refine gate_store (t := 57) (p := 8) rfl ?_); refine store_row_event rfl rfl 57 (.tmp 8) (.tmp 32) rfl gr #[.int .i64 (y.f0), .int .i64 (y.f1), .int .i64 (y.f2), .int .i64 (y.f3), .int .i64 (y.f4), .int .i64 (y.f5), .int .i64 (y.f6), .int .i64 (y.f7), .int .i64 (y.f8), .int .i64 (y.f9), .int .i64 (y.f10), .int .i64 (y.f11)] rfl rfl 57 _ N5.out.rb (by kernel_rfl) (by first | rfl | kernel_rfl) (by first | rfl | kernel_rfl | simp [Value.oneCell']) ?_; intro W9 hr9 hk9; have R9 := Aside0.mk hr9; have B9 := Aside0.mk (hk9.low N5.out.bel N5.out.lo.2.2.1); clear hr9 hk9))
        refine bodyPost_ret (results_ct rfl _ _ gr 57 #[.int .i64 (y.f0), .int .i64 (y.f1), .int .i64 (y.f2), .int .i64 (y.f3), .int .i64 (y.f4), .int .i64 (y.f5), .int .i64 (y.f6), .int .i64 (y.f7), .int .i64 (y.f8), .int .i64 (y.f9), .int .i64 (y.f10), .int .i64 (y.f11)] (0, 0) _ rfl R9.out HU.out rfl (by kernel_rfl)) rfl ?_
        exact ⟨rfl, B9.out⟩
end Go.Proofs.Ytgmnbpdfdagniaa.A
/- The number of a link's state (the reference). No conditions. -/
namespace Go.Proofs.Ytgmnbpdfdagniaa.A
open Go.RowKit Go.Proofs.YtgmnbpdfdagniaaW.PrintWords Go.Proofs.YtgmnbpdfdagniaaW.PrintLast Go.Proofs.YtgmnbpdfdagniaaW.PrintMore
set_option linter.unusedVariables false
set_option linter.unusedSimpArgs false
def kkL (xs : List Int) : Int := xs.foldl (fun k p => wrap64 (wrap64 (8 * k) + p)) 0
theorem kkL_next (xs : List Int) (k : Nat) (h : k < xs.length) : kkL (xs.take (k + 1)) = wrap64 (wrap64 (8 * kkL (xs.take k)) + rd xs (k : Int)) := by
  unfold kkL
  rw [List.take_succ_eq_append_getElem h, List.foldl_append]
  simp [rd, h]
def partsK (x : S57) : List Int := [x.f0, x.f1, x.f2, wrap64 (x.f3 + 1), x.f4, x.f5, x.f6, x.f7, x.f8, x.f9, x.f10, x.f11]
def keyK (x : S57) : Int := kkL (partsK x)
theorem partsK_len (x : S57) : (partsK x).length = 12 := rfl
set_option maxHeartbeats 6400000 in
set_option maxRecDepth 100000 in
theorem keyK.calls (gx : Nat) (x : S57) (w : World) (hx : w.heap[gx]? = some (boxK x)) :
    Calls Try.prog 39 #[.pointer (some ⟨gx, 0, none⟩)] w fun e w' => e = .returned (.int .i64 (keyK x)) ∧ Below w.heap.size w w' := by
  obtain ⟨x0, x1, x2, x3, x4, x5, x6, x7, x8, x9, x10, x11⟩ := k_cells hx
  clear hx
  go_enter Try.func39, Try.ntmps39
  go_wp2
  go_region_held3 (fun w' => w'.cell? ⟨gx, 0, none⟩ = some (.int .i64 x.f0) ∧ w'.cell? ⟨gx, 1, none⟩ = some (.int .i64 x.f1) ∧ w'.cell? ⟨gx, 2, none⟩ = some (.int .i64 x.f2) ∧ w'.cell? ⟨gx, 3, none⟩ = some (.int .i64 x.f3) ∧ w'.cell? ⟨gx, 4, none⟩ = some (.int .i64 x.f4) ∧ w'.cell? ⟨gx, 5, none⟩ = some (.int .i64 x.f5) ∧ w'.cell? ⟨gx, 6, none⟩ = some (.int .i64 x.f6) ∧ w'.cell? ⟨gx, 7, none⟩ = some (.int .i64 x.f7) ∧ w'.cell? ⟨gx, 8, none⟩ = some (.int .i64 x.f8) ∧ w'.cell? ⟨gx, 9, none⟩ = some (.int .i64 x.f9) ∧ w'.cell? ⟨gx, 10, none⟩ = some (.int .i64 x.f10) ∧ w'.cell? ⟨gx, 11, none⟩ = some (.int .i64 x.f11))
    (first
      | exact ⟨x0, x1, x2, x3, x4, x5, x6, x7, x8, x9, x10, x11⟩
      | go_keep)
    (fail)
  obtain ⟨gp, hgp⟩ : ∃ gp, w.heap.size = gp := ⟨_, rfl⟩
  have HC := Aside0.mk (show ∀ k : Nat, k < 12 → ((w.alloc (.cells #[.int .i64 (x.f0), .int .i64 (x.f1), .int .i64 (x.f2), .int .i64 (wrap64 (x.f3 + 1)), .int .i64 (x.f4), .int .i64 (x.f5), .int .i64 (x.f6), .int .i64 (x.f7), .int .i64 (x.f8), .int .i64 (x.f9), .int .i64 (x.f10), .int .i64 (x.f11)] 2)).drew).cell? ⟨w.heap.size, k, none⟩ = some (.int .i64 (rd (partsK x) (k : Int))) from fun k hk => by
    have hb := blk_new w (.cells #[.int .i64 (x.f0), .int .i64 (x.f1), .int .i64 (x.f2), .int .i64 (wrap64 (x.f3 + 1)), .int .i64 (x.f4), .int .i64 (x.f5), .int .i64 (x.f6), .int .i64 (x.f7), .int .i64 (x.f8), .int .i64 (x.f9), .int .i64 (x.f10), .int .i64 (x.f11)] 2)
    rcases (show k = 0 ∨ k = 1 ∨ k = 2 ∨ k = 3 ∨ k = 4 ∨ k = 5 ∨ k = 6 ∨ k = 7 ∨ k = 8 ∨ k = 9 ∨ k = 10 ∨ k = 11 by omega) with rfl | rfl | rfl | rfl | rfl | rfl | rfl | rfl | rfl | rfl | rfl | rfl <;> exact (blk_cell hb _).trans rfl)
  have HB := Aside0.mk (below_drew (below_alloc (Below.refl w.heap.size w) (.cells #[.int .i64 (x.f0), .int .i64 (x.f1), .int .i64 (x.f2), .int .i64 (wrap64 (x.f3 + 1)), .int .i64 (x.f4), .int .i64 (x.f5), .int .i64 (x.f6), .int .i64 (x.f7), .int .i64 (x.f8), .int .i64 (x.f9), .int .i64 (x.f10), .int .i64 (x.f11)] 2)))
  simp only [i64_w]
  obtain ⟨W, hW⟩ : ∃ W, ((w.alloc (.cells #[.int .i64 (x.f0), .int .i64 (x.f1), .int .i64 (x.f2), .int .i64 (wrap64 (x.f3 + 1)), .int .i64 (x.f4), .int .i64 (x.f5), .int .i64 (x.f6), .int .i64 (x.f7), .int .i64 (x.f8), .int .i64 (x.f9), .int .i64 (x.f10), .int .i64 (x.f11)] 2)).drew) = W := ⟨_, rfl⟩
  rw [hW] at HC HB ⊢
  rw [hgp] at HC ⊢
  clear hW hgp x0 x1 x2 x3 x4 x5 x6 x7 x8 x9 x10 x11
  go_wp2
  go_loopw [3, 5] (fun v3 v5 wp => ∃ k : Nat, k ≤ 12 ∧ v5 = .int .i64 (k : Int) ∧ v3 = .int .i64 (kkL ((partsK x).take k)) ∧ wp = W) (fun v3 v5 _ => 12 - (intOf v5).toNat)
  case atStart => exact ⟨0, by omega, rfl, rfl, rfl⟩
  case round =>
    obtain ⟨kp, hkp, rfl, rfl, rfl⟩ := hrel
    by_cases hk7 : kp < 12
    · have hk7b : decide ((kp : Int) < 12) = true := decide_eq_true (by omega)
      have y14 := HC.out kp hk7
      obtain ⟨pz, hpz⟩ : ∃ pz, rd (partsK x) (kp : Int) = pz := ⟨_, rfl⟩
      have HNXT := Aside0.mk (kkL_next (partsK x) kp (by rw [partsK_len]; omega))
      obtain ⟨ky, hky⟩ : ∃ ky, kkL ((partsK x).take kp) = ky := ⟨_, rfl⟩
      rw [hpz] at y14
      rw [hky]
      have HN2 := Aside0.mk (show kkL ((partsK x).take (kp + 1)) = wrap64 (wrap64 (8 * ky) + pz) by rw [HNXT.out, hky, hpz])
      have hkp0 : (0 : Int) ≤ (kp : Int) := by omega
      have hkp7 : (kp : Int) < 12 := by omega
      clear hpz hky
      go_wp2
      exact ⟨⟨kp + 1, by omega, by go_num, by first | trivial | rw [HN2.out], by first | trivial | rfl⟩, by simp [intOf]; omega⟩
    · obtain rfl : kp = 12 := by omega
      have hkey : kkL ((partsK x).take 12) = keyK x := rfl
      rw [hkey]
      clear hkey
      go_wp2
      go_ret
      exact ⟨rfl, HB.out⟩
end Go.Proofs.Ytgmnbpdfdagniaa.A
/- The program's link: where it begins, what a side sees, how a row moves on. No conditions. -/
namespace Go.Proofs.Ytgmnbpdfdagniaa.A
open Go.RowKit Go.Proofs.YtgmnbpdfdagniaaW.PrintWords Go.Proofs.YtgmnbpdfdagniaaW.PrintLast Go.Proofs.YtgmnbpdfdagniaaW.PrintMore
set_option linter.unusedVariables false
set_option linter.unusedSimpArgs false
/-- A link's node. -/
structure LN where
  sent : Int
  req : Int
  ans : Int
  plc : Int
  ow : Bool
  word : Int
  gone : Int
  s0 : Int
  s1 : Int
  r0 : Int
  r1 : Int
  taken : Int
  last : Int
  run : Int
def boxN (x : LN) : Obj := .cells #[.int .i64 x.sent, .int .i64 x.req, .int .i64 x.ans, .int .i64 x.plc, .bool x.ow, .int .i64 x.word, .int .i64 x.gone, .int .i64 x.s0, .int .i64 x.s1, .int .i64 x.r0, .int .i64 x.r1, .int .i64 x.taken, .int .u8 x.last, .int .i64 x.run] 55 (0, 0)
def seesF (l : Lnk) (a b set : Int) : Option Int := if l.sg = 0 then some set else if l.sg = 1 then some a else if l.sg = 2 then some b else none
set_option maxHeartbeats 6400000 in
set_option maxRecDepth 100000 in
theorem seesF.calls (l : Lnk) (a b set r : Int) (w : World) (h : seesF l a b set = some r) :
    Calls Try.prog 59 #[.agg #[.int .i64 l.ph, .int .i64 l.sg, .int .i64 l.sk, .int .i64 l.wd], .agg #[.int .i64 a, .int .i64 b], .int .i64 set] w fun e w' => e = .returned (.int .i64 r) ∧ Below w.heap.size w w' := by
  unfold seesF at h
  by_cases c0 : l.sg = 0
  · rw [if_pos c0] at h
    cases h
    have c0b : (l.sg == 0) = true := beq_iff_eq.2 c0
    clear c0
    go_enter Try.func59, Try.ntmps59
    go_wp2_with (first
      | ((with_reducible refine gate_dst (N := 3) rfl ?_); refine box_event ?hg (N := 3) ?hd (cs := #[.int .i64 l.ph, .int .i64 l.sg, .int .i64 l.sk, .int .i64 l.wd]) (t := 33) ?hr ?_; (case hd => rfl); (case hg => rfl); (case hr => first | (go_simp; done) | (go_simp; rfl)); intro gl hgl W1 hbox hb; have L1 := Aside0.mk hbox; have B1 := Aside0.mk hb; clear hbox hb hgl)
      | ((with_reducible refine gate_dst (N := 4) rfl ?_); refine box_event ?hg (N := 4) ?hd (cs := #[.int .i64 a, .int .i64 b]) (t := 51) ?hr ?_; (case hd => rfl); (case hg => rfl); (case hr => first | (go_simp; done) | (go_simp; rfl)); intro ga hga W2 hbox hb; have A2 := Aside0.mk hbox; have L2 := Aside0.mk (blk_below L1.out hb); have B2 := Aside0.mk (below_step B1.out hb); have l1 : W2.cell? ⟨gl, 1, none⟩ = some (.int .i64 l.sg) := (blk_cell L2.out 1).trans rfl; clear hbox hb hga))
    go_ret
    exact ⟨rfl, B2.out⟩
  rw [if_neg c0] at h
  have c0b : (l.sg == 0) = false := beq_eq_false_iff_ne.2 c0
  by_cases c1 : l.sg = 1
  · rw [if_pos c1] at h
    cases h
    obtain ⟨sg, hsg⟩ : ∃ sg, l.sg = sg := ⟨_, rfl⟩
    rw [hsg] at c0b c1 ⊢
    subst c1
    clear c0 c0b hsg
    go_enter Try.func59, Try.ntmps59
    go_wp2_with (first
      | ((with_reducible refine gate_dst (N := 3) rfl ?_); refine box_event ?hg (N := 3) ?hd (cs := #[.int .i64 l.ph, .int .i64 1, .int .i64 l.sk, .int .i64 l.wd]) (t := 33) ?hr ?_; (case hd => rfl); (case hg => rfl); (case hr => first | (go_simp; done) | (go_simp; rfl)); intro gl hgl W1 hbox hb; have L1 := Aside0.mk hbox; have B1 := Aside0.mk hb; clear hbox hb hgl)
      | ((with_reducible refine gate_dst (N := 4) rfl ?_); refine box_event ?hg (N := 4) ?hd (cs := #[.int .i64 a, .int .i64 b]) (t := 51) ?hr ?_; (case hd => rfl); (case hg => rfl); (case hr => first | (go_simp; done) | (go_simp; rfl)); intro ga hga W2 hbox hb; have A2 := Aside0.mk hbox; have L2 := Aside0.mk (blk_below L1.out hb); have B2 := Aside0.mk (below_step B1.out hb); have l1 : W2.cell? ⟨gl, 1, none⟩ = some (.int .i64 1) := (blk_cell L2.out 1).trans rfl; have a0 : W2.cell? ⟨ga, 0, none⟩ = some (.int .i64 a) := (blk_cell A2.out 0).trans rfl; have a1 : W2.cell? ⟨ga, 1, none⟩ = some (.int .i64 b) := (blk_cell A2.out 1).trans rfl; clear hbox hb hga))
    go_ret
    exact ⟨rfl, B2.out⟩
  rw [if_neg c1] at h
  by_cases c2 : l.sg = 2
  · rw [if_pos c2] at h
    cases h
    obtain ⟨sg, hsg⟩ : ∃ sg, l.sg = sg := ⟨_, rfl⟩
    rw [hsg] at c0b c2 ⊢
    subst c2
    clear c0 c0b hsg c1
    go_enter Try.func59, Try.ntmps59
    go_wp2_with (first
      | ((with_reducible refine gate_dst (N := 3) rfl ?_); refine box_event ?hg (N := 3) ?hd (cs := #[.int .i64 l.ph, .int .i64 2, .int .i64 l.sk, .int .i64 l.wd]) (t := 33) ?hr ?_; (case hd => rfl); (case hg => rfl); (case hr => first | (go_simp; done) | (go_simp; rfl)); intro gl hgl W1 hbox hb; have L1 := Aside0.mk hbox; have B1 := Aside0.mk hb; clear hbox hb hgl)
      | ((with_reducible refine gate_dst (N := 4) rfl ?_); refine box_event ?hg (N := 4) ?hd (cs := #[.int .i64 a, .int .i64 b]) (t := 51) ?hr ?_; (case hd => rfl); (case hg => rfl); (case hr => first | (go_simp; done) | (go_simp; rfl)); intro ga hga W2 hbox hb; have A2 := Aside0.mk hbox; have L2 := Aside0.mk (blk_below L1.out hb); have B2 := Aside0.mk (below_step B1.out hb); have l1 : W2.cell? ⟨gl, 1, none⟩ = some (.int .i64 2) := (blk_cell L2.out 1).trans rfl; have a0 : W2.cell? ⟨ga, 0, none⟩ = some (.int .i64 a) := (blk_cell A2.out 0).trans rfl; have a1 : W2.cell? ⟨ga, 1, none⟩ = some (.int .i64 b) := (blk_cell A2.out 1).trans rfl; clear hbox hb hga))
    go_ret
    exact ⟨rfl, B2.out⟩
  rw [if_neg c2] at h
  cases h
set_option maxHeartbeats 6400000 in
set_option maxRecDepth 100000 in
theorem moveOn.calls (a b set : Int) (w : World) :
    Calls Try.prog 61 #[.agg #[.int .i64 a, .int .i64 b], .int .i64 set] w fun e w' => e = .returned (.agg #[.int .i64 set, .int .i64 a]) ∧ Below w.heap.size w w' := by
  have HU := Aside0.mk Try.underlying51
  go_enter Try.func61, Try.ntmps61
  go_wp2_with (first
    | ((with_reducible refine gate_dst (N := 2) rfl ?_); refine box_event ?hg (N := 2) ?hd (cs := #[.int .i64 a, .int .i64 b]) (t := 51) ?hr ?_; (case hd => rfl); (case hg => rfl); (case hr => first | (go_simp; done) | (go_simp; rfl)); intro ga hga W1 hbox hb; have A1 := Aside0.mk hbox; have B1 := Aside0.mk hb; have GA := Aside0.mk hga; clear hbox hb hga)
    | ((with_reducible refine gate_dst (N := 4) rfl ?_); refine box_event ?hg (N := 4) ?hd (cs := #[.int .i64 0, .int .i64 0]) (t := 51) ?hr ?_; (case hd => rfl); (case hg => rfl); (case hr => first | (go_simp; done) | (go_simp; rfl)); intro gr hgr W2 hbox hb; have R2 := Aside0.mk hbox; have A2 := Aside0.mk (blk_below A1.out hb); have B2 := Aside0.mk (below_step B1.out hb); have GR := Aside0.mk (show gr ≠ ga ∧ w.heap.size ≤ gr ∧ w.heap.size ≤ ga by (have h1_ := GA.out; have h2_ := blk_lt A1.out; have h3_ := B1.out.size; omega)); have a0 : W2.cell? ⟨ga, 0, none⟩ = some (.int .i64 a) := (blk_cell A2.out 0).trans rfl; have y0 := blk_frozen A2.out 0; have y1 := blk_frozen A2.out 1; clear hbox hb hgr))
  go_loopw [5] (fun v5 wp => ∃ k : Nat, k ≤ 1 ∧ v5 = .int .i64 (k : Int) ∧ Aside0 (wp.heap[ga]? = some (.cells #[.int .i64 a, .int .i64 (if k = 1 then b else a)] 51 (0, 0))) ∧ Aside0 (wp.heap[gr]? = some (.cells #[.int .i64 0, .int .i64 0] 51 (0, 0))) ∧ Aside0 (Below w.heap.size w wp)) (fun v5 _ => (intOf v5).toNat)
  case atStart => exact ⟨1, Nat.le_refl _, rfl, ⟨A2.out⟩, R2, B2⟩
  case round =>
    clear a0 y0 y1 B2 A2 R2 A1 B1
    obtain ⟨k, hk, rfl, A3, R3, B3⟩ := hrel
    rcases (show k = 1 ∨ k = 0 by omega) with rfl | rfl
    · have A4 := Aside0.mk (show wr.heap[ga]? = some (.cells #[.int .i64 a, .int .i64 b] 51 (0, 0)) from A3.out)
      have a0 : wr.cell? ⟨ga, 0, none⟩ = some (.int .i64 a) := (blk_cell A4.out 0).trans rfl
      have a1 : wr.cell? ⟨ga, 1, none⟩ = some (.int .i64 b) := (blk_cell A4.out 1).trans rfl
      have y1 := blk_frozen A4.out 1
      clear A3
      go_wp2
      exact ⟨⟨0, by omega, rfl, ⟨blk_put A4.out 1 _ rfl⟩, ⟨(KB.set (KB.refl ga wr) 1 _).keep R3.out GR.out.1⟩, ⟨(KB.set (KB.refl ga wr) 1 _).low B3.out GR.out.2.2⟩⟩, by simp [intOf]⟩
    · have A4 := Aside0.mk (show wr.heap[ga]? = some (.cells #[.int .i64 a, .int .i64 a] 51 (0, 0)) from A3.out)
      have a0 : wr.cell? ⟨ga, 0, none⟩ = some (.int .i64 a) := (blk_cell A4.out 0).trans rfl
      have y0 := blk_frozen A4.out 0
      have gne : gr ≠ ga := GR.out.1
      have gne2 : ga ≠ gr := Ne.symm GR.out.1
      have r0 : wr.cell? ⟨gr, 0, none⟩ = some (.int .i64 0) := (blk_cell R3.out 0).trans rfl
      have r1 : wr.cell? ⟨gr, 1, none⟩ = some (.int .i64 0) := (blk_cell R3.out 1).trans rfl
      have z0 := blk_frozen R3.out 0
      have z1 := blk_frozen R3.out 1
      clear A3
      go_wp2_with (first
        | ((with_reducible refine gate_dst (N := 18) rfl ?_); refine load_row_event rfl 51 (.tmp 2) rfl ga rfl 51 #[.int .i64 set, .int .i64 a] _ (blk_put A4.out 0 _ rfl) HU.out rfl (by kernel_rfl) ?_))
      refine bodyPost_ret (results_cell_row rfl _ _ gr 51 #[.int .i64 set, .int .i64 a] (0, 0) _ rfl (blk_put (blk_put ((KB.set (KB.refl ga wr) 0 _).keep R3.out GR.out.1) 0 _ rfl) 1 _ rfl) HU.out rfl (by kernel_rfl)) rfl ?_
      exact ⟨rfl, (KB.set (KB.set (KB.refl gr _) 0 _) 1 _).low ((KB.set (KB.refl ga wr) 0 _).low B3.out GR.out.2.2) GR.out.2.1⟩
end Go.Proofs.Ytgmnbpdfdagniaa.A
/- The program's link: a word is sent. No conditions. -/
namespace Go.Proofs.Ytgmnbpdfdagniaa.A
open Go.RowKit Go.Proofs.YtgmnbpdfdagniaaW.PrintWords Go.Proofs.YtgmnbpdfdagniaaW.PrintLast Go.Proofs.YtgmnbpdfdagniaaW.PrintMore
set_option linter.unusedVariables false
set_option linter.unusedSimpArgs false
theorem n_cells {w : World} {g : Nat} {x : LN} (h : w.heap[g]? = some (boxN x)) : w.cell? ⟨g, 0, none⟩ = some (.int .i64 x.sent) ∧ w.cell? ⟨g, 1, none⟩ = some (.int .i64 x.req) ∧ w.cell? ⟨g, 2, none⟩ = some (.int .i64 x.ans) ∧ w.cell? ⟨g, 3, none⟩ = some (.int .i64 x.plc) ∧ w.cell? ⟨g, 4, none⟩ = some (.bool x.ow) ∧ w.cell? ⟨g, 5, none⟩ = some (.int .i64 x.word) ∧ w.cell? ⟨g, 6, none⟩ = some (.int .i64 x.gone) ∧ w.cell? ⟨g, 7, none⟩ = some (.int .i64 x.s0) ∧ w.cell? ⟨g, 8, none⟩ = some (.int .i64 x.s1) ∧ w.cell? ⟨g, 9, none⟩ = some (.int .i64 x.r0) ∧ w.cell? ⟨g, 10, none⟩ = some (.int .i64 x.r1) ∧ w.cell? ⟨g, 11, none⟩ = some (.int .i64 x.taken) ∧ w.cell? ⟨g, 12, none⟩ = some (.int .u8 x.last) ∧ w.cell? ⟨g, 13, none⟩ = some (.int .i64 x.run) := ⟨(blk_cell h 0).trans rfl, (blk_cell h 1).trans rfl, (blk_cell h 2).trans rfl, (blk_cell h 3).trans rfl, (blk_cell h 4).trans rfl, (blk_cell h 5).trans rfl, (blk_cell h 6).trans rfl, (blk_cell h 7).trans rfl, (blk_cell h 8).trans rfl, (blk_cell h 9).trans rfl, (blk_cell h 10).trans rfl, (blk_cell h 11).trans rfl, (blk_cell h 12).trans rfl, (blk_cell h 13).trans rfl⟩
theorem n_frozen {w : World} {g : Nat} {x : LN} (h : w.heap[g]? = some (boxN x)) : w.frozen? ⟨g, 0, none⟩ = false ∧ w.frozen? ⟨g, 1, none⟩ = false ∧ w.frozen? ⟨g, 2, none⟩ = false ∧ w.frozen? ⟨g, 3, none⟩ = false ∧ w.frozen? ⟨g, 4, none⟩ = false ∧ w.frozen? ⟨g, 5, none⟩ = false ∧ w.frozen? ⟨g, 6, none⟩ = false ∧ w.frozen? ⟨g, 7, none⟩ = false ∧ w.frozen? ⟨g, 8, none⟩ = false ∧ w.frozen? ⟨g, 9, none⟩ = false ∧ w.frozen? ⟨g, 10, none⟩ = false ∧ w.frozen? ⟨g, 11, none⟩ = false ∧ w.frozen? ⟨g, 12, none⟩ = false ∧ w.frozen? ⟨g, 13, none⟩ = false := ⟨blk_frozen h 0, blk_frozen h 1, blk_frozen h 2, blk_frozen h 3, blk_frozen h 4, blk_frozen h 5, blk_frozen h 6, blk_frozen h 7, blk_frozen h 8, blk_frozen h 9, blk_frozen h 10, blk_frozen h 11, blk_frozen h 12, blk_frozen h 13⟩
def sendN (l : Lnk) (x : LN) : LN := if l.sk = 0 then { x with plc := x.sent, sent := wrap64 (x.sent + 1) } else { x with ow := true, word := x.sent, gone := 0, sent := wrap64 (x.sent + 1) }
set_option maxHeartbeats 6400000 in
set_option maxRecDepth 100000 in
theorem sendN.calls (gx : Nat) (l : Lnk) (x : LN) (w : World) (hx : w.heap[gx]? = some (boxN x)) :
    Calls Try.prog 60 #[.pointer (some ⟨gx, 0, none⟩), .agg #[.int .i64 l.ph, .int .i64 l.sg, .int .i64 l.sk, .int .i64 l.wd]] w fun e w' => e = .returned (.tuple #[]) ∧ w'.heap[gx]? = some (boxN (sendN l x)) ∧ KB gx w w' := by
  have HX := Aside0.mk hx
  clear hx
  unfold sendN
  by_cases c0 : l.sk = 0
  · rw [if_pos c0]
    have c0b : (l.sk == 0) = true := beq_iff_eq.2 c0
    clear c0
    go_enter Try.func60, Try.ntmps60
    go_wp2_with (first
      | ((with_reducible refine gate_dst (N := 3) rfl ?_); refine box_event ?hg (N := 3) ?hd (cs := #[.int .i64 l.ph, .int .i64 l.sg, .int .i64 l.sk, .int .i64 l.wd]) (t := 33) ?hr ?_; (case hd => rfl); (case hg => rfl); (case hr => first | (go_simp; done) | (go_simp; rfl)); intro gl hgl W1 hbox hb; have X1 := Aside0.mk (blk_below HX.out hb); have NE := Aside0.mk (show gl ≠ gx by (have h1_ := blk_lt HX.out; omega)); have L1 := Aside0.mk (show W1.heap[gl]? = some (boxL l) from hbox); have B1 := Aside0.mk hb; obtain ⟨l0, l1, l2, l3⟩ := l_cells L1.out; obtain ⟨n0, n1, n2, n3, n4, n5, n6, n7, n8, n9, n10, n11, n12, n13⟩ := n_cells X1.out; obtain ⟨y0, y1, y2, y3, y4, y5, y6, y7, y8, y9, y10, y11, y12, y13⟩ := n_frozen X1.out; clear hbox hb hgl))
    first | go_end0 | ((try simp only [Exit.inBlock, Exit.then]); refine bodyPost_ret (results_none rfl _ _ _) rfl ?_)
    exact ⟨rfl, blk_put (blk_put X1.out 3 _ rfl) 0 _ rfl, KB.set (KB.set (KB.of_below B1.out) 3 _) 0 _⟩
  · rw [if_neg c0]
    have c0b : (l.sk == 0) = false := beq_eq_false_iff_ne.2 c0
    clear c0
    go_enter Try.func60, Try.ntmps60
    go_wp2_with (first
      | ((with_reducible refine gate_dst (N := 3) rfl ?_); refine box_event ?hg (N := 3) ?hd (cs := #[.int .i64 l.ph, .int .i64 l.sg, .int .i64 l.sk, .int .i64 l.wd]) (t := 33) ?hr ?_; (case hd => rfl); (case hg => rfl); (case hr => first | (go_simp; done) | (go_simp; rfl)); intro gl hgl W1 hbox hb; have X1 := Aside0.mk (blk_below HX.out hb); have NE := Aside0.mk (show gl ≠ gx by (have h1_ := blk_lt HX.out; omega)); have L1 := Aside0.mk (show W1.heap[gl]? = some (boxL l) from hbox); have B1 := Aside0.mk hb; obtain ⟨l0, l1, l2, l3⟩ := l_cells L1.out; obtain ⟨n0, n1, n2, n3, n4, n5, n6, n7, n8, n9, n10, n11, n12, n13⟩ := n_cells X1.out; obtain ⟨y0, y1, y2, y3, y4, y5, y6, y7, y8, y9, y10, y11, y12, y13⟩ := n_frozen X1.out; clear hbox hb hgl))
    first | go_end0 | ((try simp only [Exit.inBlock, Exit.then]); refine bodyPost_ret (results_none rfl _ _ _) rfl ?_)
    exact ⟨rfl, blk_put (blk_put (blk_put (blk_put X1.out 4 _ rfl) 5 _ rfl) 6 _ rfl) 0 _ rfl, KB.set (KB.set (KB.set (KB.set (KB.of_below B1.out) 4 _) 5 _) 6 _) 0 _⟩
end Go.Proofs.Ytgmnbpdfdagniaa.A
/- The program's link: the first state, and the test for a fault. No conditions. -/
namespace Go.Proofs.Ytgmnbpdfdagniaa.A
open Go.RowKit Go.Proofs.YtgmnbpdfdagniaaW.PrintWords Go.Proofs.YtgmnbpdfdagniaaW.PrintLast Go.Proofs.YtgmnbpdfdagniaaW.PrintMore
set_option linter.unusedVariables false
set_option linter.unusedSimpArgs false
set_option maxHeartbeats 6400000 in
set_option maxRecDepth 100000 in
theorem isFault.calls (x : LN) (b : Bool) (w : World) :
    Calls Try.prog 33 #[.agg #[.int .i64 x.sent, .int .i64 x.req, .int .i64 x.ans, .int .i64 x.plc, .bool x.ow, .int .i64 x.word, .int .i64 x.gone, .int .i64 x.s0, .int .i64 x.s1, .int .i64 x.r0, .int .i64 x.r1, .int .i64 x.taken, .int .u8 x.last, .int .i64 x.run], .bool b] w fun e w' => e = .returned (.bool (!b)) ∧ Below w.heap.size w w' := by
  go_enter Try.func33, Try.ntmps33
  go_wp2_with (first
    | ((with_reducible refine gate_dst (N := 2) rfl ?_); refine box_event ?hg (N := 2) ?hd (cs := #[.int .i64 x.sent, .int .i64 x.req, .int .i64 x.ans, .int .i64 x.plc, .bool x.ow, .int .i64 x.word, .int .i64 x.gone, .int .i64 x.s0, .int .i64 x.s1, .int .i64 x.r0, .int .i64 x.r1, .int .i64 x.taken, .int .u8 x.last, .int .i64 x.run]) (t := 55) ?hr ?_; (case hd => rfl); (case hg => rfl); (case hr => first | (go_simp; done) | (go_simp; rfl)); intro gl hgl W1 hbox hb; have B1 := Aside0.mk hb; clear hbox hb hgl))
  go_ret
  exact ⟨rfl, B1.out⟩
set_option maxHeartbeats 6400000 in
set_option maxRecDepth 100000 in
theorem startOfLink.calls (w : World) :
    Calls Try.prog 41 #[] w fun e w' => e = .returned (.agg #[.int .i64 0, .int .i64 0, .int .i64 0, .int .i64 (-1), .bool false, .int .i64 0, .int .i64 0, .int .i64 0, .int .i64 0, .int .i64 0, .int .i64 0]) ∧ Below w.heap.size w w' := by
  have HU := Aside0.mk Try.underlying53
  go_enter Try.func41, Try.ntmps41
  go_wp2_with (first
    | ((with_reducible refine gate_dst (N := 0) rfl ?_); refine box_event ?hg (N := 0) ?hd (cs := #[.int .i64 0, .int .i64 0, .int .i64 0, .int .i64 0, .bool false, .int .i64 0, .int .i64 0, .int .i64 0, .int .i64 0, .int .i64 0, .int .i64 0]) (t := 53) ?hr ?_; (case hd => rfl); (case hg => rfl); (case hr => first | (go_simp; done) | (go_simp; rfl)); intro gr hgr W1 hbox hb; have X1 := Aside0.mk hbox; have B1 := Aside0.mk hb; have GR := Aside0.mk (show w.heap.size ≤ gr by omega); clear hbox hb hgr)
    | ((with_reducible refine gate_store (t := 53) (p := 0) rfl ?_); refine store_row_event rfl rfl 53 (.tmp 0) (.tmp 1) rfl gr #[.int .i64 0, .int .i64 0, .int .i64 0, .int .i64 (-1), .bool false, .int .i64 0, .int .i64 0, .int .i64 0, .int .i64 0, .int .i64 0, .int .i64 0] rfl rfl 53 _ X1.out (by kernel_rfl) (by first | rfl | kernel_rfl) (by first | rfl | kernel_rfl | simp [Value.oneCell']) ?_; intro w7 hr7 hk7; have R7 := Aside0.mk hr7; have B7 := Aside0.mk (hk7.low B1.out GR.out); clear hr7 hk7))
  refine bodyPost_ret (results_cell_row rfl _ _ gr 53 #[.int .i64 0, .int .i64 0, .int .i64 0, .int .i64 (-1), .bool false, .int .i64 0, .int .i64 0, .int .i64 0, .int .i64 0, .int .i64 0, .int .i64 0] (0, 0) _ rfl R7.out HU.out rfl (by kernel_rfl)) rfl ?_
  exact ⟨rfl, B7.out⟩
end Go.Proofs.Ytgmnbpdfdagniaa.A
/- The program's link: a step of the sender. No conditions. -/
namespace Go.Proofs.Ytgmnbpdfdagniaa.A
open Go.RowKit Go.Proofs.YtgmnbpdfdagniaaW.PrintWords Go.Proofs.YtgmnbpdfdagniaaW.PrintLast Go.Proofs.YtgmnbpdfdagniaaW.PrintMore
set_option linter.unusedVariables false
set_option linter.unusedSimpArgs false
/-- The word on its way comes nearer. -/
def wayN (l : Lnk) (x : LN) : LN := if x.ow = true then (if wrap64 (x.gone + 1) = l.sk then { x with plc := x.word, ow := false, word := 0, gone := 0 } else { x with gone := wrap64 (x.gone + 1) }) else x
def reqN (l : Lnk) (seen : Int) (x : LN) : LN :=
  if l.ph = 2 ∧ seen = x.req ∧ x.sent < l.wd then sendN l { x with req := wrap64 (1 - x.req) }
  else if l.ph = 4 ∧ x.req = 0 ∧ seen = 0 ∧ x.sent < l.wd then sendN l { x with req := 1 }
  else if l.ph = 4 ∧ x.req = 1 ∧ seen = 1 then { x with req := 0 }
  else x
def stepS (l : Lnk) (x : LN) : Option LN := (seesF l x.s0 x.s1 x.ans).bind fun seen => some { reqN l seen (wayN l x) with s0 := x.ans, s1 := x.s0 }
theorem reqN_keep (l : Lnk) (seen : Int) (y : LN) : (reqN l seen y).ans = y.ans ∧ (reqN l seen y).s0 = y.s0 ∧ (reqN l seen y).s1 = y.s1 := by
  unfold reqN sendN
  repeat' split
  all_goals exact ⟨rfl, rfl, rfl⟩
set_option maxHeartbeats 6400000 in
set_option maxRecDepth 100000 in
theorem stepS.calls (gx : Nat) (l : Lnk) (x r : LN) (w : World) (hx : w.heap[gx]? = some (boxN x)) (h : stepS l x = some r) :
    Calls Try.prog 54 #[.pointer (some ⟨gx, 0, none⟩), .agg #[.int .i64 l.ph, .int .i64 l.sg, .int .i64 l.sk, .int .i64 l.wd]] w fun e w' => e = .returned (.tuple #[]) ∧ w'.heap[gx]? = some (boxN r) ∧ KB gx w w' := by
  have HX := Aside0.mk hx
  clear hx
  unfold stepS at h
  obtain ⟨seen, hse, h⟩ := Option.bind_eq_some_iff.1 h
  obtain ⟨y, hy⟩ : ∃ y, wayN l x = y := ⟨_, rfl⟩
  have e2 : x.ans = y.ans := by rw [← hy]; unfold wayN; split <;> (try split) <;> rfl
  have e7 : x.s0 = y.s0 := by rw [← hy]; unfold wayN; split <;> (try split) <;> rfl
  have e8 : x.s1 = y.s1 := by rw [← hy]; unfold wayN; split <;> (try split) <;> rfl
  rw [hy, e2, e7] at h
  rw [e2, e7, e8] at hse
  have HSE := Aside0.mk hse
  have H := Aside0.mk h
  have HY := Aside0.mk hy
  clear h hse hy e2 e7 e8
  go_enter Try.func54, Try.ntmps54
  go_upto_if 8 with (first
    | ((with_reducible refine gate_dst (N := 3) rfl ?_); refine box_event ?hg (N := 3) ?hd (cs := #[.int .i64 l.ph, .int .i64 l.sg, .int .i64 l.sk, .int .i64 l.wd]) (t := 33) ?hr ?_; (case hd => rfl); (case hg => rfl); (case hr => first | (go_simp; done) | (go_simp; rfl)); intro gl hgl W1 hbox hb; have X1 := Aside0.mk (blk_below HX.out hb); have NE := Aside0.mk (show gl ≠ gx by (have h1_ := blk_lt HX.out; omega)); have L1 := Aside0.mk (show W1.heap[gl]? = some (boxL l) from hbox); have B1 := Aside0.mk hb; obtain ⟨l0, l1, l2, l3⟩ := l_cells L1.out; obtain ⟨n0, n1, n2, n3, n4, n5, n6, n7, n8, n9, n10, n11, n12, n13⟩ := n_cells X1.out; obtain ⟨y0, y1, y2, y3, y4, y5, y6, y7, y8, y9, y10, y11, y12, y13⟩ := n_frozen X1.out; clear hbox hb hgl))
  go_cut [] from 8 (fun wc => Aside0 (wc.heap[gx]? = some (boxN y)) ∧ Aside0 (wc.heap[gl]? = some (boxL l)) ∧ Aside0 (KB gx w wc))
  case first =>
    by_cases f0 : x.ow = true
    · rw [f0]
      by_cases f1 : wrap64 (x.gone + 1) = l.sk
      · have f1b : (wrap64 (x.gone + 1) == l.sk) = true := beq_iff_eq.2 f1
        have hnr : wayN l x = { x with plc := x.word, ow := false, word := 0, gone := 0 } := by unfold wayN; rw [if_pos f0, if_pos f1]
        clear f0 f1
        go_wp2
        go_quiet (fail)
        go_wp2
        go_meet
        case rel => exact ⟨⟨by rw [← HY.out, hnr]; exact blk_put (blk_put (blk_put (blk_put (blk_put X1.out 6 (.int .i64 (wrap64 (x.gone + 1))) rfl) 3 (.int .i64 x.word) rfl) 4 (.bool false) rfl) 5 (.int .i64 0) rfl) 6 (.int .i64 0) rfl⟩, ⟨(KB.set (KB.set (KB.set (KB.set (KB.set (KB.refl gx _) 6 (.int .i64 (wrap64 (x.gone + 1)))) 3 (.int .i64 x.word)) 4 (.bool false)) 5 (.int .i64 0)) 6 (.int .i64 0)).keep L1.out NE.out⟩, ⟨KB.set (KB.set (KB.set (KB.set (KB.drewN (KB.set (KB.of_below B1.out) 6 (.int .i64 (wrap64 (x.gone + 1)))) _) 3 (.int .i64 x.word)) 4 (.bool false)) 5 (.int .i64 0)) 6 (.int .i64 0)⟩⟩
      · have f1b : (wrap64 (x.gone + 1) == l.sk) = false := beq_eq_false_iff_ne.2 f1
        have hnr : wayN l x = { x with gone := wrap64 (x.gone + 1) } := by unfold wayN; rw [if_pos f0, if_neg f1]
        clear f0 f1
        go_wp2
        go_quiet (fail)
        go_wp2
        go_meet
        case rel => exact ⟨⟨by rw [← HY.out, hnr]; exact blk_put X1.out 6 _ rfl⟩, ⟨(KB.set (KB.refl gx _) 6 _).keep L1.out NE.out⟩, ⟨KB.drewN (KB.set (KB.of_below B1.out) 6 _) _⟩⟩
    · have f0b : x.ow = false := Bool.eq_false_iff.2 f0
      have hnr : wayN l x = x := by unfold wayN; rw [if_neg f0]
      rw [f0b]
      clear f0
      go_wp2
      go_meet
      case rel => exact ⟨⟨by rw [← HY.out, hnr]; exact X1.out⟩, L1, ⟨KB.of_below B1.out⟩⟩
  case rest =>
    clear l0 l1 l2 l3 n0 n1 n2 n3 n4 n5 n6 n7 n8 n9 n10 n11 n12 n13 y0 y1 y2 y3 y4 y5 y6 y7 y8 y9 y10 y11 y12 y13
    obtain ⟨X2, L2, K2⟩ := hcut
    obtain ⟨l0, l1, l2, l3⟩ := l_cells L2.out
    obtain ⟨n0, n1, n2, n3, n4, n5, n6, n7, n8, n9, n10, n11, n12, n13⟩ := n_cells X2.out
    obtain ⟨y0, y1, y2, y3, y4, y5, y6, y7, y8, y9, y10, y11, y12, y13⟩ := n_frozen X2.out
    go_wp2
    go_region_held3 (fun w' => w'.cell? ⟨gl, 0, none⟩ = some (.int .i64 l.ph) ∧ w'.cell? ⟨gl, 1, none⟩ = some (.int .i64 l.sg) ∧ w'.cell? ⟨gl, 2, none⟩ = some (.int .i64 l.sk) ∧ w'.cell? ⟨gl, 3, none⟩ = some (.int .i64 l.wd) ∧ w'.cell? ⟨gx, 2, none⟩ = some (.int .i64 y.ans) ∧ w'.cell? ⟨gx, 7, none⟩ = some (.int .i64 y.s0) ∧ w'.cell? ⟨gx, 8, none⟩ = some (.int .i64 y.s1))
      (first
        | exact ⟨l0, l1, l2, l3, n2, n7, n8⟩
        | exact ⟨(blk_cell L3.out 0).trans rfl, (blk_cell L3.out 1).trans rfl, (blk_cell L3.out 2).trans rfl, (blk_cell L3.out 3).trans rfl, (blk_cell X3.out 2).trans rfl, (blk_cell X3.out 7).trans rfl, (blk_cell X3.out 8).trans rfl⟩
        | go_keep)
      (first
        | (go_at_call 59; (with_reducible refine (seesF.calls l y.s0 y.s1 y.ans seen _ HSE.out).mono ?_); rintro e v3 ⟨rfl, hB⟩; have X3 := Aside0.mk (blk_below (o := boxN y) (w := wc.drew) X2.out hB); have L3 := Aside0.mk (blk_below (o := boxL l) (w := wc.drew) L2.out hB); have K3 := Aside0.mk (KB.below (b := wc.drew) (KB.drew K2.out) hB); clear hB))
    clear l0 l1 l2 l3 n0 n1 n2 n3 n4 n5 n6 n7 n8 n9 n10 n11 n12 n13 y0 y1 y2 y3 y4 y5 y6 y7 y8 y9 y10 y11 y12 y13
    obtain ⟨l0, l1, l2, l3⟩ := l_cells L3.out
    obtain ⟨n0, n1, n2, n3, n4, n5, n6, n7, n8, n9, n10, n11, n12, n13⟩ := n_cells X3.out
    obtain ⟨y0, y1, y2, y3, y4, y5, y6, y7, y8, y9, y10, y11, y12, y13⟩ := n_frozen X3.out
    have ne := NE.out
    have ne' : gx ≠ gl := Ne.symm NE.out
    go_step
    rename_i aK hH
    refine aK _ _ ?_
    clear aK hH
    (try go_step)

    go_cut [4] from 49 (fun v4 wd => v4 = .int .i64 seen ∧ Aside0 (wd.heap[gx]? = some (boxN (reqN l seen y))) ∧ Aside0 (wd.heap[gl]? = some (boxL l)) ∧ Aside0 (KB gx w wd))
    case first =>
      by_cases p2 : l.ph = 2
      · have p2b : (l.ph == 2) = true := beq_iff_eq.2 p2
        have p4b : (l.ph == 4) = false := by rw [p2]; rfl
        by_cases q : seen = y.req
        · have qb : (seen == y.req) = true := beq_iff_eq.2 q
          by_cases r : y.sent < l.wd
          · have rb : decide (y.sent < l.wd) = true := decide_eq_true r
            have hnr : reqN l seen y = sendN l { y with req := wrap64 (1 - y.req) } := by unfold reqN; simp [*]
            have HNR := Aside0.mk hnr
            clear hnr p2 q r
            go_wp2
            go_quiet (fail)
            go_wp2_with (first
              | (go_at_call 60; (with_reducible refine (sendN.calls gx l { y with req := wrap64 (1 - y.req) } _ ?hx).mono ?_); (case hx => exact blk_put X3.out 1 (.int .i64 (wrap64 (1 - y.req))) rfl); rintro e w7 ⟨rfl, hx7, hk7⟩; have X7 := Aside0.mk hx7; have L7 := Aside0.mk (hk7.keep ((KB.set (KB.refl gx _) 1 (.int .i64 (wrap64 (1 - y.req)))).keep L3.out NE.out) NE.out); have K7 := Aside0.mk ((KB.set (KB.drewN K3.out _) 1 (.int .i64 (wrap64 (1 - y.req)))).trans hk7); clear hx7 hk7))
            go_meet
            case rel => exact ⟨rfl, ⟨by rw [HNR.out]; exact X7.out⟩, L7, K7⟩
          · have rb : decide (y.sent < l.wd) = false := decide_eq_false r
            have hnr : reqN l seen y = y := by unfold reqN; simp [*]
            have HNR := Aside0.mk hnr
            clear hnr p2 q r
            go_wp2
            go_quiet (fail)
            go_wp2
            go_quiet (fail)
            go_wp2
            go_meet
            case rel => exact ⟨rfl, ⟨by rw [HNR.out]; exact X3.out⟩, ⟨L3.out⟩, ⟨KB.drewN K3.out _⟩⟩
        · have qb : (seen == y.req) = false := beq_eq_false_iff_ne.2 q
          have hnr : reqN l seen y = y := by unfold reqN; simp [*]
          have HNR := Aside0.mk hnr
          clear hnr p2 q
          go_wp2
          go_quiet (fail)
          go_wp2
          go_quiet (fail)
          go_wp2
          go_meet
          case rel => exact ⟨rfl, ⟨by rw [HNR.out]; exact X3.out⟩, ⟨L3.out⟩, ⟨KB.drewN K3.out _⟩⟩
      · have p2b : (l.ph == 2) = false := beq_eq_false_iff_ne.2 p2
        by_cases p4 : l.ph = 4
        · have p4b : (l.ph == 4) = true := beq_iff_eq.2 p4
          by_cases q0 : y.req = 0
          · have q0b : (y.req == 0) = true := beq_iff_eq.2 q0
            have q1b : (y.req == 1) = false := by rw [q0]; rfl
            by_cases s0 : seen = 0
            · have s0b : (seen == 0) = true := beq_iff_eq.2 s0
              by_cases r : y.sent < l.wd
              · have rb : decide (y.sent < l.wd) = true := decide_eq_true r
                have hnr : reqN l seen y = sendN l { y with req := 1 } := by unfold reqN; simp [*]
                have HNR := Aside0.mk hnr
                clear hnr p2 p4 q0 s0 r
                go_wp2
                go_quiet (fail)
                go_wp2
                go_quiet (fail)
                go_wp2_with (first
                  | (go_at_call 60; (with_reducible refine (sendN.calls gx l { y with req := 1 } _ ?hx).mono ?_); (case hx => exact blk_put X3.out 1 (.int .i64 (1)) rfl); rintro e w7 ⟨rfl, hx7, hk7⟩; have X7 := Aside0.mk hx7; have L7 := Aside0.mk (hk7.keep ((KB.set (KB.refl gx _) 1 (.int .i64 (1))).keep L3.out NE.out) NE.out); have K7 := Aside0.mk ((KB.set (KB.drewN K3.out _) 1 (.int .i64 (1))).trans hk7); clear hx7 hk7))
                go_meet
                case rel => exact ⟨rfl, ⟨by rw [HNR.out]; exact X7.out⟩, L7, K7⟩
              · have rb : decide (y.sent < l.wd) = false := decide_eq_false r
                have hnr : reqN l seen y = y := by unfold reqN; simp [*]
                have HNR := Aside0.mk hnr
                clear hnr p2 p4 q0 s0 r
                go_wp2
                go_quiet (fail)
                go_wp2
                go_quiet (fail)
                go_wp2
                go_meet
                case rel => exact ⟨rfl, ⟨by rw [HNR.out]; exact X3.out⟩, ⟨L3.out⟩, ⟨KB.drewN K3.out _⟩⟩
            · have s0b : (seen == 0) = false := beq_eq_false_iff_ne.2 s0
              have hnr : reqN l seen y = y := by unfold reqN; simp [*]
              have HNR := Aside0.mk hnr
              clear hnr p2 p4 q0 s0
              go_wp2
              go_quiet (fail)
              go_wp2
              go_quiet (fail)
              go_wp2
              go_meet
              case rel => exact ⟨rfl, ⟨by rw [HNR.out]; exact X3.out⟩, ⟨L3.out⟩, ⟨KB.drewN K3.out _⟩⟩
          · have q0b : (y.req == 0) = false := beq_eq_false_iff_ne.2 q0
            by_cases q1 : y.req = 1
            · have q1b : (y.req == 1) = true := beq_iff_eq.2 q1
              by_cases s1 : seen = 1
              · have s1b : (seen == 1) = true := beq_iff_eq.2 s1
                have hnr : reqN l seen y = { y with req := 0 } := by unfold reqN; simp [*]
                have HNR := Aside0.mk hnr
                clear hnr p2 p4 q0 q1 s1
                go_wp2
                go_quiet (fail)
                go_wp2
                go_quiet (fail)
                go_wp2
                go_meet
                case rel => exact ⟨rfl, ⟨by rw [HNR.out]; exact blk_put X3.out 1 _ rfl⟩, ⟨(KB.set (KB.refl gx _) 1 _).keep L3.out NE.out⟩, ⟨KB.set (KB.drewN K3.out _) 1 _⟩⟩
              · have s1b : (seen == 1) = false := beq_eq_false_iff_ne.2 s1
                have hnr : reqN l seen y = y := by unfold reqN; simp [*]
                have HNR := Aside0.mk hnr
                clear hnr p2 p4 q0 q1 s1
                go_wp2
                go_quiet (fail)
                go_wp2
                go_quiet (fail)
                go_wp2
                go_meet
                case rel => exact ⟨rfl, ⟨by rw [HNR.out]; exact X3.out⟩, ⟨L3.out⟩, ⟨KB.drewN K3.out _⟩⟩
            · have q1b : (y.req == 1) = false := beq_eq_false_iff_ne.2 q1
              have hnr : reqN l seen y = y := by unfold reqN; simp [*]
              have HNR := Aside0.mk hnr
              clear hnr p2 p4 q0 q1
              go_wp2
              go_quiet (fail)
              go_wp2
              go_quiet (fail)
              go_wp2
              go_meet
              case rel => exact ⟨rfl, ⟨by rw [HNR.out]; exact X3.out⟩, ⟨L3.out⟩, ⟨KB.drewN K3.out _⟩⟩
        · have p4b : (l.ph == 4) = false := beq_eq_false_iff_ne.2 p4
          have hnr : reqN l seen y = y := by unfold reqN; simp [*]
          have HNR := Aside0.mk hnr
          clear hnr p2 p4
          go_wp2
          go_quiet (fail)
          go_wp2
          go_quiet (fail)
          go_wp2
          go_meet
          case rel => exact ⟨rfl, ⟨by rw [HNR.out]; exact X3.out⟩, ⟨L3.out⟩, ⟨KB.drewN K3.out _⟩⟩
    case rest =>
      obtain ⟨rfl, X4, L4, K4⟩ := hcut
      clear l0 l1 l2 l3 n0 n1 n2 n3 n4 n5 n6 n7 n8 n9 n10 n11 n12 n13 y0 y1 y2 y3 y4 y5 y6 y7 y8 y9 y10 y11 y12 y13
      have hr := Option.some.inj H.out
      have hk := reqN_keep l seen y
      obtain ⟨q, hq⟩ : ∃ q, reqN l seen y = q := ⟨_, rfl⟩
      rw [hq, ← hk.1, ← hk.2.1, hq] at hr
      rw [hq] at X4
      have HR := Aside0.mk hr
      clear hr hk hq
      have X5 := Aside0.mk (show wc.drew.heap[gx]? = some (boxN q) from X4.out)
      obtain ⟨n0, n1, n2, n3, n4, n5, n6, n7, n8, n9, n10, n11, n12, n13⟩ := n_cells X4.out
      obtain ⟨y0, y1, y2, y3, y4, y5, y6, y7, y8, y9, y10, y11, y12, y13⟩ := n_frozen X4.out
      go_upto_region 14 with (fail)
      go_region_law (first
        | (go_simp; go_at_call 61; (with_reducible refine (moveOn.calls q.s0 q.s1 q.ans _).mono ?_); rintro e w7 ⟨rfl, hB⟩; have X7 := Aside0.mk (blk_below (w := wc.drew) X5.out hB); have K7 := Aside0.mk (KB.below (b := wc.drew) (KB.drew K4.out) hB); clear n0 n1 n2 n3 n4 n5 n6 n7 n8 n9 n10 n11 n12 n13 y0 y1 y2 y3 y4 y5 y6 y7 y8 y9 y10 y11 y12 y13; obtain ⟨n0, n1, n2, n3, n4, n5, n6, n7, n8, n9, n10, n11, n12, n13⟩ := n_cells X7.out; obtain ⟨y0, y1, y2, y3, y4, y5, y6, y7, y8, y9, y10, y11, y12, y13⟩ := n_frozen X7.out; clear hB))
      all_goals try go_wp2
      all_goals first | go_end0 | ((try simp only [Exit.inBlock, Exit.then]); refine bodyPost_ret (results_none rfl _ _ _) rfl ?_)
      all_goals exact ⟨rfl, by rw [← HR.out]; exact blk_put (blk_put X7.out 7 _ rfl) 8 _ rfl, KB.set (KB.set K7.out 7 _) 8 _⟩
end Go.Proofs.Ytgmnbpdfdagniaa.A
/- The program's link: a step of the receiver. No conditions. -/
namespace Go.Proofs.Ytgmnbpdfdagniaa.A
open Go.RowKit Go.Proofs.YtgmnbpdfdagniaaW.PrintWords Go.Proofs.YtgmnbpdfdagniaaW.PrintLast Go.Proofs.YtgmnbpdfdagniaaW.PrintMore
set_option linter.unusedVariables false
set_option linter.unusedSimpArgs false
def stepR (l : Lnk) (x : LN) : Option (LN × Int × Bool) :=
  (seesF l x.r0 x.r1 x.req).bind fun seen =>
  if seen = x.ans then some ({ x with r0 := x.req, r1 := x.r0 }, x.plc, false)
  else some ({ x with ans := seen, r0 := x.req, r1 := x.r0 }, x.plc, l.ph == 2 || seen == 1)
set_option maxHeartbeats 6400000 in
set_option maxRecDepth 100000 in
theorem stepR.calls (gx : Nat) (l : Lnk) (x r : LN) (v : Int) (tk : Bool) (w : World) (hx : w.heap[gx]? = some (boxN x)) (h : stepR l x = some (r, v, tk)) :
    Calls Try.prog 55 #[.pointer (some ⟨gx, 0, none⟩), .agg #[.int .i64 l.ph, .int .i64 l.sg, .int .i64 l.sk, .int .i64 l.wd]] w fun e w' => e = .returned (.tuple #[.int .i64 v, .bool tk]) ∧ w'.heap[gx]? = some (boxN r) ∧ KB gx w w' := by
  have HX := Aside0.mk hx
  clear hx
  unfold stepR at h
  obtain ⟨seen, hse, h⟩ := Option.bind_eq_some_iff.1 h
  have HSE := Aside0.mk hse
  have H := Aside0.mk h
  clear h hse
  go_enter Try.func55, Try.ntmps55
  go_wp2_with (first
    | ((with_reducible refine gate_dst (N := 3) rfl ?_); refine box_event ?hg (N := 3) ?hd (cs := #[.int .i64 l.ph, .int .i64 l.sg, .int .i64 l.sk, .int .i64 l.wd]) (t := 33) ?hr ?_; (case hd => rfl); (case hg => rfl); (case hr => first | (go_simp; done) | (go_simp; rfl)); intro gl hgl W1 hbox hb; have X1 := Aside0.mk (blk_below HX.out hb); have NE := Aside0.mk (show gl ≠ gx by (have h1_ := blk_lt HX.out; omega)); have L1 := Aside0.mk (show W1.heap[gl]? = some (boxL l) from hbox); have B1 := Aside0.mk hb; obtain ⟨l0, l1, l2, l3⟩ := l_cells L1.out; obtain ⟨n0, n1, n2, n3, n4, n5, n6, n7, n8, n9, n10, n11, n12, n13⟩ := n_cells X1.out; obtain ⟨y0, y1, y2, y3, y4, y5, y6, y7, y8, y9, y10, y11, y12, y13⟩ := n_frozen X1.out; clear hbox hb hgl))
  go_region_held3 (fun w' => w'.cell? ⟨gl, 0, none⟩ = some (.int .i64 l.ph) ∧ w'.cell? ⟨gl, 1, none⟩ = some (.int .i64 l.sg) ∧ w'.cell? ⟨gl, 2, none⟩ = some (.int .i64 l.sk) ∧ w'.cell? ⟨gl, 3, none⟩ = some (.int .i64 l.wd) ∧ w'.cell? ⟨gx, 1, none⟩ = some (.int .i64 x.req) ∧ w'.cell? ⟨gx, 9, none⟩ = some (.int .i64 x.r0) ∧ w'.cell? ⟨gx, 10, none⟩ = some (.int .i64 x.r1))
    (first
      | exact ⟨l0, l1, l2, l3, n1, n9, n10⟩
      | exact ⟨(blk_cell L3.out 0).trans rfl, (blk_cell L3.out 1).trans rfl, (blk_cell L3.out 2).trans rfl, (blk_cell L3.out 3).trans rfl, (blk_cell X3.out 1).trans rfl, (blk_cell X3.out 9).trans rfl, (blk_cell X3.out 10).trans rfl⟩
      | go_keep)
    (first
      | (go_at_call 59; (with_reducible refine (seesF.calls l x.r0 x.r1 x.req seen _ HSE.out).mono ?_); rintro e v3 ⟨rfl, hB⟩; have X3 := Aside0.mk (blk_below (o := boxN x) (w := W1.drew) X1.out hB); have L3 := Aside0.mk (blk_below (o := boxL l) (w := W1.drew) L1.out hB); have K3 := Aside0.mk (show KB gx w v3 from KB.below (b := W1.drew) (KB.drew (KB.of_below B1.out)) hB); clear hB))
  clear l0 l1 l2 l3 n0 n1 n2 n3 n4 n5 n6 n7 n8 n9 n10 n11 n12 n13 y0 y1 y2 y3 y4 y5 y6 y7 y8 y9 y10 y11 y12 y13
  obtain ⟨l0, l1, l2, l3⟩ := l_cells L3.out
  obtain ⟨n0, n1, n2, n3, n4, n5, n6, n7, n8, n9, n10, n11, n12, n13⟩ := n_cells X3.out
  obtain ⟨y0, y1, y2, y3, y4, y5, y6, y7, y8, y9, y10, y11, y12, y13⟩ := n_frozen X3.out
  have ne := NE.out
  have ne' : gx ≠ gl := Ne.symm NE.out
  have hr := H.out
  by_cases c0 : seen = x.ans
  · rw [if_pos c0] at hr
    have c0b : (seen != x.ans) = false := bne_eq_false_iff_eq.2 c0
    simp only [Option.some.injEq, Prod.mk.injEq] at hr
    obtain ⟨rfl, rfl, rfl⟩ := hr
    clear c0 H
    go_upto_region 5 with (fail)
    go_region_law (first
      | (go_simp; go_at_call 61; (with_reducible refine (moveOn.calls x.r0 x.r1 x.req _).mono ?_); rintro e w7 ⟨rfl, hB⟩; have X7 := Aside0.mk (blk_below (o := boxN x) (w := (v3).drew) (X3.out) hB); have K7 := Aside0.mk (show KB gx w w7 from KB.below (b := (v3).drew) (KB.drew (K3.out)) hB); clear n0 n1 n2 n3 n4 n5 n6 n7 n8 n9 n10 n11 n12 n13 y0 y1 y2 y3 y4 y5 y6 y7 y8 y9 y10 y11 y12 y13; obtain ⟨n0, n1, n2, n3, n4, n5, n6, n7, n8, n9, n10, n11, n12, n13⟩ := n_cells X7.out; obtain ⟨y0, y1, y2, y3, y4, y5, y6, y7, y8, y9, y10, y11, y12, y13⟩ := n_frozen X7.out; clear hB))
    all_goals try go_wp2
    all_goals go_ret2
    all_goals exact ⟨rfl, blk_put (blk_put X7.out 9 _ rfl) 10 _ rfl, KB.set (KB.set K7.out 9 _) 10 _⟩
  · rw [if_neg c0] at hr
    have c0b : (seen != x.ans) = true := bne_iff_ne.2 c0
    simp only [Option.some.injEq, Prod.mk.injEq] at hr
    obtain ⟨rfl, rfl, e3⟩ := hr
    clear c0 H
    by_cases p2 : l.ph = 2
    · have p2b : (l.ph == 2) = true := beq_iff_eq.2 p2
      rw [p2b, Bool.true_or] at e3
      subst e3
      clear p2
      go_upto_region 5 with (fail)
      go_region_law (first
        | (go_simp; go_at_call 61; (with_reducible refine (moveOn.calls x.r0 x.r1 x.req _).mono ?_); rintro e w7 ⟨rfl, hB⟩; have X7 := Aside0.mk (blk_below (o := boxN { x with ans := seen }) (w := (v3.setCell ⟨gx, 2, none⟩ (.int .i64 seen)).drew) (blk_put X3.out 2 (.int .i64 seen) rfl) hB); have K7 := Aside0.mk (show KB gx w w7 from KB.below (b := (v3.setCell ⟨gx, 2, none⟩ (.int .i64 seen)).drew) (KB.drew (KB.set K3.out 2 (.int .i64 seen))) hB); clear n0 n1 n2 n3 n4 n5 n6 n7 n8 n9 n10 n11 n12 n13 y0 y1 y2 y3 y4 y5 y6 y7 y8 y9 y10 y11 y12 y13; obtain ⟨n0, n1, n2, n3, n4, n5, n6, n7, n8, n9, n10, n11, n12, n13⟩ := n_cells X7.out; obtain ⟨y0, y1, y2, y3, y4, y5, y6, y7, y8, y9, y10, y11, y12, y13⟩ := n_frozen X7.out; clear hB))
      all_goals try go_wp2
      all_goals go_ret2
      all_goals exact ⟨rfl, blk_put (blk_put X7.out 9 _ rfl) 10 _ rfl, KB.set (KB.set K7.out 9 _) 10 _⟩
    · have p2b : (l.ph == 2) = false := beq_eq_false_iff_ne.2 p2
      by_cases s1 : seen = 1
      · have s1b : (seen == 1) = true := beq_iff_eq.2 s1
        rw [p2b, s1b, Bool.false_or] at e3
        subst e3
        clear p2 s1
        go_upto_region 5 with (fail)
        go_region_law (first
          | (go_simp; go_at_call 61; (with_reducible refine (moveOn.calls x.r0 x.r1 x.req _).mono ?_); rintro e w7 ⟨rfl, hB⟩; have X7 := Aside0.mk (blk_below (o := boxN { x with ans := seen }) (w := (v3.setCell ⟨gx, 2, none⟩ (.int .i64 seen)).drew) (blk_put X3.out 2 (.int .i64 seen) rfl) hB); have K7 := Aside0.mk (show KB gx w w7 from KB.below (b := (v3.setCell ⟨gx, 2, none⟩ (.int .i64 seen)).drew) (KB.drew (KB.set K3.out 2 (.int .i64 seen))) hB); clear n0 n1 n2 n3 n4 n5 n6 n7 n8 n9 n10 n11 n12 n13 y0 y1 y2 y3 y4 y5 y6 y7 y8 y9 y10 y11 y12 y13; obtain ⟨n0, n1, n2, n3, n4, n5, n6, n7, n8, n9, n10, n11, n12, n13⟩ := n_cells X7.out; obtain ⟨y0, y1, y2, y3, y4, y5, y6, y7, y8, y9, y10, y11, y12, y13⟩ := n_frozen X7.out; clear hB))
        all_goals try go_wp2
        all_goals go_ret2
        all_goals exact ⟨rfl, blk_put (blk_put X7.out 9 _ rfl) 10 _ rfl, KB.set (KB.set K7.out 9 _) 10 _⟩
      · have s1b : (seen == 1) = false := beq_eq_false_iff_ne.2 s1
        rw [p2b, s1b, Bool.false_or] at e3
        subst e3
        clear p2 s1
        go_upto_region 5 with (fail)
        go_region_law (first
          | (go_simp; go_at_call 61; (with_reducible refine (moveOn.calls x.r0 x.r1 x.req _).mono ?_); rintro e w7 ⟨rfl, hB⟩; have X7 := Aside0.mk (blk_below (o := boxN { x with ans := seen }) (w := (v3.setCell ⟨gx, 2, none⟩ (.int .i64 seen)).drew) (blk_put X3.out 2 (.int .i64 seen) rfl) hB); have K7 := Aside0.mk (show KB gx w w7 from KB.below (b := (v3.setCell ⟨gx, 2, none⟩ (.int .i64 seen)).drew) (KB.drew (KB.set K3.out 2 (.int .i64 seen))) hB); clear n0 n1 n2 n3 n4 n5 n6 n7 n8 n9 n10 n11 n12 n13 y0 y1 y2 y3 y4 y5 y6 y7 y8 y9 y10 y11 y12 y13; obtain ⟨n0, n1, n2, n3, n4, n5, n6, n7, n8, n9, n10, n11, n12, n13⟩ := n_cells X7.out; obtain ⟨y0, y1, y2, y3, y4, y5, y6, y7, y8, y9, y10, y11, y12, y13⟩ := n_frozen X7.out; clear hB))
        all_goals try go_wp2
        all_goals go_ret2
        all_goals exact ⟨rfl, blk_put (blk_put X7.out 9 _ rfl) 10 _ rfl, KB.set (KB.set K7.out 9 _) 10 _⟩
end Go.Proofs.Ytgmnbpdfdagniaa.A
