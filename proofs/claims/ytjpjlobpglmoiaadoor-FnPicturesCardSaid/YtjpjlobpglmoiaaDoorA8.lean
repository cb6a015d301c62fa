-- Printed by this session's oprint.py through the kit's printer.
import Derived.Test.YtjpjlobpglmoiaaDoorQ23
import Derived.Test.YtjpjlobpglmoiaaDoorQ24
import Derived.Test.YtjpjlobpglmoiaaDoorA28
namespace Go.Proofs.YtjpjlobpglmoiaaDoor.A
open Go.RowKit Go.Proofs.YtjpjlobpglmoiaaDoorW.PrintWords Go.Proofs.YtjpjlobpglmoiaaDoorW.PrintLast Go.Proofs.YtjpjlobpglmoiaaDoorW.PrintMore
attribute [local go_sem] max2_int min2_int max_two min_two max_three min_three max_four min_four   -- for this text's walks alone
set_option linter.unusedVariables false
set_option linter.unusedSimpArgs false

/-! ### laws_FnPictures: function 8 -/
mutual
def laws_FnPictures.j0 : Nat → Int → Int → ByteArray → Bool → List ByteArray → List ByteArray → Option (Bool)
  | 0, _, _, _, _, _, _ => none
  | k + 1, x6, x7, x8, x45, x429000, x429001 => if x45 = true then (some false) else (laws_FnPictures.l0 k x6 x7 x8 0 x429000 x429001)
def laws_FnPictures.l0 : Nat → Int → Int → ByteArray → Int → List ByteArray → List ByteArray → Option (Bool)
  | 0, _, _, _, _, _, _ => none
  | k + 1, x6, x7, x8, x10, x429000, x429001 => if x10 < (x429000.length : Int) then (if 0 ≤ (wrap64 ((wrap64 (x7 + 11)) * x10)) then (if (wrap64 ((wrap64 (x7 + 11)) * x10)) ≤ (x8.size : Int) then (laws_FnPictures.l1 k x6 x7 x8 x10 (x8.extract ((wrap64 ((wrap64 (x7 + 11)) * x10)) : Int).toNat x8.size) 0 x429000 x429001) else (none)) else (none)) else (some true)
def laws_FnPictures.l1 : Nat → Int → Int → ByteArray → Int → ByteArray → Int → List ByteArray → List ByteArray → Option (Bool)
  | 0, _, _, _, _, _, _, _, _ => none
  | k + 1, x6, x7, x8, x10, x11, x12, x429000, x429001 => if x12 < 10 then (if 0 ≤ x10 then (if x10 < (x429000.length : Int) then (if x12 < ((rdOf ByteArray.empty x429000 x10).size : Int) then (if 0 ≤ x12 then (if x12 < (x11.size : Int) then (if (bt x11 x12) = (bt (rdOf ByteArray.empty x429000 x10) x12) then (laws_FnPictures.l1 k x6 x7 x8 x10 x11 (wrap64 (x12 + 1)) x429000 x429001) else (some false)) else (none)) else (none)) else (if 0 ≤ x12 then (if x12 < (x11.size : Int) then (if (bt x11 x12) = 32 then (laws_FnPictures.l1 k x6 x7 x8 x10 x11 (wrap64 (x12 + 1)) x429000 x429001) else (some false)) else (none)) else (none))) else (none)) else (none)) else (laws_FnPictures.l2 k x6 x7 x8 x10 x11 0 x429000 x429001)
def laws_FnPictures.l2 : Nat → Int → Int → ByteArray → Int → ByteArray → Int → List ByteArray → List ByteArray → Option (Bool)
  | 0, _, _, _, _, _, _, _, _ => none
  | k + 1, x6, x7, x8, x10, x11, x14, x429000, x429001 => if x14 < x7 then (if 0 ≤ x10 then (if x10 < (x429001.length : Int) then (if (wrap64 (x6 + x14)) < ((rdOf ByteArray.empty x429001 x10).size : Int) then (if 0 ≤ (wrap64 (x6 + x14)) then (if 0 ≤ (((bt (rdOf ByteArray.empty x429001 x10) (wrap64 (x6 + x14))) - 48) % 256) then (if (((bt (rdOf ByteArray.empty x429001 x10) (wrap64 (x6 + x14))) - 48) % 256) < 2 then (if 0 ≤ (wrap64 (10 + x14)) then (if (wrap64 (10 + x14)) < (x11.size : Int) then (if (bt x11 (wrap64 (10 + x14))) = (bt (⟨#[95, 35]⟩ : ByteArray) (((bt (rdOf ByteArray.empty x429001 x10) (wrap64 (x6 + x14))) - 48) % 256)) then (laws_FnPictures.l2 k x6 x7 x8 x10 x11 (wrap64 (x14 + 1)) x429000 x429001) else (some false)) else (none)) else (none)) else (none)) else (none)) else (none)) else (if 0 ≤ (wrap64 (10 + x14)) then (if (wrap64 (10 + x14)) < (x11.size : Int) then (if (bt x11 (wrap64 (10 + x14))) = 32 then (laws_FnPictures.l2 k x6 x7 x8 x10 x11 (wrap64 (x14 + 1)) x429000 x429001) else (some false)) else (none)) else (none))) else (none)) else (none)) else (if 0 ≤ (wrap64 (10 + x7)) then (if (wrap64 (10 + x7)) < (x11.size : Int) then (if (bt x11 (wrap64 (10 + x7))) = 10 then (laws_FnPictures.l0 k x6 x7 x8 (wrap64 (x10 + 1)) x429000 x429001) else (some false)) else (none)) else (none))
end
def laws_FnPictures.f (k : Nat) (l0 : List Int) (l1 : List Int) : Option (Bool) := (laws_b10Long.f l0 l1).bind fun t421 => (if t421 = true then (some true) else ((spec_B10Scope.f k l0).bind fun bt422 => ((laws_b10At.f l1 0 30).bind fun t429 => ((laws_b10At.f l1 1 40).bind fun t430 => ((impl_PictureOf.f k bt422.1 bt422.2 t429 (wrap64 (1 + t430))).bind fun bt431 => (if bt431.2 = true then (laws_FnPictures.j0 k t429 (wrap64 (1 + t430)) bt431.1 ((bt431.1.size : Int) != (wrap64 ((wrap64 ((wrap64 (1 + t430)) + 11)) * (bt422.1.length : Int)))) bt422.1 bt422.2) else (laws_FnPictures.j0 k t429 (wrap64 (1 + t430)) bt431.1 true bt422.1 bt422.2)))))))
theorem laws_FnPictures.mono_l : ∀ k, (∀ y0 y1 y2 y3 y4 y5, LeO (laws_FnPictures.j0 k y0 y1 y2 y3 y4 y5) (laws_FnPictures.j0 (k + 1) y0 y1 y2 y3 y4 y5)) ∧ (∀ y0 y1 y2 y3 y4 y5, LeO (laws_FnPictures.l0 k y0 y1 y2 y3 y4 y5) (laws_FnPictures.l0 (k + 1) y0 y1 y2 y3 y4 y5)) ∧ (∀ y0 y1 y2 y3 y4 y5 y6 y7, LeO (laws_FnPictures.l1 k y0 y1 y2 y3 y4 y5 y6 y7) (laws_FnPictures.l1 (k + 1) y0 y1 y2 y3 y4 y5 y6 y7)) ∧ (∀ y0 y1 y2 y3 y4 y5 y6 y7, LeO (laws_FnPictures.l2 k y0 y1 y2 y3 y4 y5 y6 y7) (laws_FnPictures.l2 (k + 1) y0 y1 y2 y3 y4 y5 y6 y7))
  | 0 => ⟨fun _ _ _ _ _ _ r h => by simp [laws_FnPictures.j0] at h, fun _ _ _ _ _ _ r h => by simp [laws_FnPictures.l0] at h, fun _ _ _ _ _ _ _ _ r h => by simp [laws_FnPictures.l1] at h, fun _ _ _ _ _ _ _ _ r h => by simp [laws_FnPictures.l2] at h⟩
  | k + 1 => by
    obtain ⟨ih0, ih1, ih2, ih3⟩ := laws_FnPictures.mono_l k
    refine ⟨?_, ?_, ?_, ?_⟩
    · intro y0 y1 y2 y3 y4 y5
      unfold laws_FnPictures.j0
      repeat' first
      | (with_reducible exact ih0 _ _ _ _ _ _)
      | (with_reducible exact ih1 _ _ _ _ _ _)
      | (with_reducible exact ih2 _ _ _ _ _ _ _ _)
      | (with_reducible exact ih3 _ _ _ _ _ _ _ _)
      | (with_reducible exact impl_PictureOf.mono _ _ _ _ _)
      | (with_reducible exact spec_B10Scope.mono _ _)
      | (with_reducible exact LeO.refl _)
      | (with_reducible exact LeO.none _)
      | (with_reducible refine LeO.ite ?_ ?_)
      | (with_reducible refine LeO.bind ?_ (fun _ => ?_))
      | exact ih0 _ _ _ _ _ _
      | exact ih1 _ _ _ _ _ _
      | exact ih2 _ _ _ _ _ _ _ _
      | exact ih3 _ _ _ _ _ _ _ _
      | exact impl_PictureOf.mono _ _ _ _ _
      | exact spec_B10Scope.mono _ _
      | exact LeO.none _
      | refine LeO.ite ?_ ?_
      | refine LeO.bind ?_ (fun _ => ?_)
    · intro y0 y1 y2 y3 y4 y5
      unfold laws_FnPictures.l0
      repeat' first
      | (with_reducible exact ih0 _ _ _ _ _ _)
      | (with_reducible exact ih1 _ _ _ _ _ _)
      | (with_reducible exact ih2 _ _ _ _ _ _ _ _)
      | (with_reducible exact ih3 _ _ _ _ _ _ _ _)
      | (with_reducible exact impl_PictureOf.mono _ _ _ _ _)
      | (with_reducible exact spec_B10Scope.mono _ _)
      | (with_reducible exact LeO.refl _)
      | (with_reducible exact LeO.none _)
      | (with_reducible refine LeO.ite ?_ ?_)
      | (with_reducible refine LeO.bind ?_ (fun _ => ?_))
      | exact ih0 _ _ _ _ _ _
      | exact ih1 _ _ _ _ _ _
      | exact ih2 _ _ _ _ _ _ _ _
      | exact ih3 _ _ _ _ _ _ _ _
      | exact impl_PictureOf.mono _ _ _ _ _
      | exact spec_B10Scope.mono _ _
      | exact LeO.none _
      | refine LeO.ite ?_ ?_
      | refine LeO.bind ?_ (fun _ => ?_)
    · intro y0 y1 y2 y3 y4 y5 y6 y7
      unfold laws_FnPictures.l1
      repeat' first
      | (with_reducible exact ih0 _ _ _ _ _ _)
      | (with_reducible exact ih1 _ _ _ _ _ _)
      | (with_reducible exact ih2 _ _ _ _ _ _ _ _)
      | (with_reducible exact ih3 _ _ _ _ _ _ _ _)
      | (with_reducible exact impl_PictureOf.mono _ _ _ _ _)
      | (with_reducible exact spec_B10Scope.mono _ _)
      | (with_reducible exact LeO.refl _)
      | (with_reducible exact LeO.none _)
      | (with_reducible refine LeO.ite ?_ ?_)
      | (with_reducible refine LeO.bind ?_ (fun _ => ?_))
      | exact ih0 _ _ _ _ _ _
      | exact ih1 _ _ _ _ _ _
      | exact ih2 _ _ _ _ _ _ _ _
      | exact ih3 _ _ _ _ _ _ _ _
      | exact impl_PictureOf.mono _ _ _ _ _
      | exact spec_B10Scope.mono _ _
      | exact LeO.none _
      | refine LeO.ite ?_ ?_
      | refine LeO.bind ?_ (fun _ => ?_)
    · intro y0 y1 y2 y3 y4 y5 y6 y7
      unfold laws_FnPictures.l2
      repeat' first
      | (with_reducible exact ih0 _ _ _ _ _ _)
      | (with_reducible exact ih1 _ _ _ _ _ _)
      | (with_reducible exact ih2 _ _ _ _ _ _ _ _)
      | (with_reducible exact ih3 _ _ _ _ _ _ _ _)
      | (with_reducible exact impl_PictureOf.mono _ _ _ _ _)
      | (with_reducible exact spec_B10Scope.mono _ _)
      | (with_reducible exact LeO.refl _)
      | (with_reducible exact LeO.none _)
      | (with_reducible refine LeO.ite ?_ ?_)
      | (with_reducible refine LeO.bind ?_ (fun _ => ?_))
      | exact ih0 _ _ _ _ _ _
      | exact ih1 _ _ _ _ _ _
      | exact ih2 _ _ _ _ _ _ _ _
      | exact ih3 _ _ _ _ _ _ _ _
      | exact impl_PictureOf.mono _ _ _ _ _
      | exact spec_B10Scope.mono _ _
      | exact LeO.none _
      | refine LeO.ite ?_ ?_
      | refine LeO.bind ?_ (fun _ => ?_)
theorem laws_FnPictures.mono : ∀ a0 a1 k, LeO (laws_FnPictures.f k a0 a1) (laws_FnPictures.f (k + 1) a0 a1) := by
  intro a0 a1 k
  obtain ⟨ih0, ih1, ih2, ih3⟩ := laws_FnPictures.mono_l k
  unfold laws_FnPictures.f
  repeat' first
      | (with_reducible exact ih0 _ _ _ _ _ _)
      | (with_reducible exact ih1 _ _ _ _ _ _)
      | (with_reducible exact ih2 _ _ _ _ _ _ _ _)
      | (with_reducible exact ih3 _ _ _ _ _ _ _ _)
      | (with_reducible exact impl_PictureOf.mono _ _ _ _ _)
      | (with_reducible exact spec_B10Scope.mono _ _)
      | (with_reducible exact LeO.refl _)
      | (with_reducible exact LeO.none _)
      | (with_reducible refine LeO.ite ?_ ?_)
      | (with_reducible refine LeO.bind ?_ (fun _ => ?_))
      | exact ih0 _ _ _ _ _ _
      | exact ih1 _ _ _ _ _ _
      | exact ih2 _ _ _ _ _ _ _ _
      | exact ih3 _ _ _ _ _ _ _ _
      | exact impl_PictureOf.mono _ _ _ _ _
      | exact spec_B10Scope.mono _ _
      | exact LeO.none _
      | refine LeO.ite ?_ ?_
      | refine LeO.bind ?_ (fun _ => ?_)
set_option maxHeartbeats 8000000 in
set_option maxRecDepth 100000 in
theorem laws_FnPictures.calls (k : Nat) (A0 : Option Addr) (c0 : Nat) (l0 : List Int) (A1 : Option Addr) (c1 : Nat) (l1 : List Int) (r : Bool) (w : World) (hr0 : Kd.C (Kd.int .u8) w A0 l0.length l0) (hc0 : l0.length ≤ c0) (hr1 : Kd.C (Kd.int .u8) w A1 l1.length l1) (hc1 : l1.length ≤ c1) (h : laws_FnPictures.f k l0 l1 = some r) :
    Calls Tryd.prog 8 #[.slice A0 l0.length c0, .slice A1 l1.length c1] w fun e w' => e = .returned (.bool r) ∧ Below w.heap.size w w' := by
  have hu27 := Tryd.underlying27
  have HR0 := Aside0.mk hr0
  have HC0 := Aside0.mk hc0
  clear hr0 hc0
  have HR1 := Aside0.mk hr1
  have HC1 := Aside0.mk hc1
  clear hr1 hc1
  have HB := Aside0.mk (Below.refl w.heap.size w)
  have H : ((laws_b10Long.f l0 l1).bind fun t421 => (if t421 = true then (some true) else ((spec_B10Scope.f k l0).bind fun bt422 => ((laws_b10At.f l1 0 30).bind fun t429 => ((laws_b10At.f l1 1 40).bind fun t430 => ((impl_PictureOf.f k bt422.1 bt422.2 t429 (wrap64 (1 + t430))).bind fun bt431 => (if bt431.2 = true then (laws_FnPictures.j0 k t429 (wrap64 (1 + t430)) bt431.1 ((bt431.1.size : Int) != (wrap64 ((wrap64 ((wrap64 (1 + t430)) + 11)) * (bt422.1.length : Int)))) bt422.1 bt422.2) else (laws_FnPictures.j0 k t429 (wrap64 (1 + t430)) bt431.1 true bt422.1 bt422.2)))))))) = some r := h
  clear h
  replace H := Option.bind_eq_some_iff.mp H
  obtain ⟨t421, A30, H⟩ := H
  replace H : (if t421 = true then (some true) else ((spec_B10Scope.f k l0).bind fun bt422 => ((laws_b10At.f l1 0 30).bind fun t429 => ((laws_b10At.f l1 1 40).bind fun t430 => ((impl_PictureOf.f k bt422.1 bt422.2 t429 (wrap64 (1 + t430))).bind fun bt431 => (if bt431.2 = true then (laws_FnPictures.j0 k t429 (wrap64 (1 + t430)) bt431.1 ((bt431.1.size : Int) != (wrap64 ((wrap64 ((wrap64 (1 + t430)) + 11)) * (bt422.1.length : Int)))) bt422.1 bt422.2) else (laws_FnPictures.j0 k t429 (wrap64 (1 + t430)) bt431.1 true bt422.1 bt422.2))))))) = some r := H
  have A3 := Aside0.mk A30
  clear A30
  by_cases c4 : t421 = true
  · subst c4
    have H1 : (some true) = some r := by rw [if_pos rfl] at H; exact H
    clear H
    have H := H1
    clear H1
    obtain rfl := Option.some.inj H
    go_enter Tryd.func8, Tryd.ntmps8
    go_wp2_with (first | ((with_reducible refine gate_callee (f := 23) rfl ?_); refine goesL_ (some 18) rfl rfl Tryd.func23 (by kernel_rfl) rfl #[.slice A0 l0.length c0, .slice A1 l1.length c1] rfl (by (try simp only [List.map_toArray, List.map_cons, List.map_nil]); first | done | rfl | (simp only [List.length_drop, List.length_take]; rfl)) ?_; (with_reducible refine (laws_b10Long.calls _ _ l0 _ _ l1 true _ ?side1 ?side2 ?side3 ?side4 A3.out).mono ?_); (case side1 => repeat (first | exact HR0.out | (with_reducible refine Kd.C_alloc ?_ _) | (with_reducible refine Kd.C_drewN ?_ _) | (with_reducible refine Kd.C_drew ?_))); (case side2 => exact HC0.out); (case side3 => repeat (first | exact HR1.out | (with_reducible refine Kd.C_alloc ?_ _) | (with_reducible refine Kd.C_drewN ?_ _) | (with_reducible refine Kd.C_drew ?_))); (case side4 => exact HC1.out); rintro e w' ⟨rfl, ⟨nd, rfl⟩⟩; refine ⟨_, rfl, ?_⟩))
    go_ret
    exact ⟨by first | rfl | (simp [errW_none, errW_some] <;> rfl) | (simp [*, errW_none, errW_some] <;> rfl), by repeat (first | (with_reducible first | exact HB.out | apply below_alloc | apply pw_below_drewN | apply below_drew1) | exact HB.out)⟩
  · replace c4 := Bool.eq_false_iff.mpr c4
    subst c4
    have H1 : ((spec_B10Scope.f k l0).bind fun bt422 => ((laws_b10At.f l1 0 30).bind fun t429 => ((laws_b10At.f l1 1 40).bind fun t430 => ((impl_PictureOf.f k bt422.1 bt422.2 t429 (wrap64 (1 + t430))).bind fun bt431 => (if bt431.2 = true then (laws_FnPictures.j0 k t429 (wrap64 (1 + t430)) bt431.1 ((bt431.1.size : Int) != (wrap64 ((wrap64 ((wrap64 (1 + t430)) + 11)) * (bt422.1.length : Int)))) bt422.1 bt422.2) else (laws_FnPictures.j0 k t429 (wrap64 (1 + t430)) bt431.1 true bt422.1 bt422.2)))))) = some r := by rw [if_neg (show ¬ (false = true) by decide)] at H; exact H
    clear H
    have H := H1
    clear H1
    replace H := Option.bind_eq_some_iff.mp H
    obtain ⟨⟨t422, t425⟩, A50, H⟩ := H
    replace H : ((laws_b10At.f l1 0 30).bind fun t429 => ((laws_b10At.f l1 1 40).bind fun t430 => ((impl_PictureOf.f k t422 t425 t429 (wrap64 (1 + t430))).bind fun bt431 => (if bt431.2 = true then (laws_FnPictures.j0 k t429 (wrap64 (1 + t430)) bt431.1 ((bt431.1.size : Int) != (wrap64 ((wrap64 ((wrap64 (1 + t430)) + 11)) * (t422.length : Int)))) t422 t425) else (laws_FnPictures.j0 k t429 (wrap64 (1 + t430)) bt431.1 true t422 t425))))) = some r := H
    have A5 := Aside0.mk A50
    clear A50
    replace H := Option.bind_eq_some_iff.mp H
    obtain ⟨t429, A60, H⟩ := H
    replace H : ((laws_b10At.f l1 1 40).bind fun t430 => ((impl_PictureOf.f k t422 t425 t429 (wrap64 (1 + t430))).bind fun bt431 => (if bt431.2 = true then (laws_FnPictures.j0 k t429 (wrap64 (1 + t430)) bt431.1 ((bt431.1.size : Int) != (wrap64 ((wrap64 ((wrap64 (1 + t430)) + 11)) * (t422.length : Int)))) t422 t425) else (laws_FnPictures.j0 k t429 (wrap64 (1 + t430)) bt431.1 true t422 t425)))) = some r := H
    have A6 := Aside0.mk A60
    clear A60
    replace H := Option.bind_eq_some_iff.mp H
    obtain ⟨t430, A70, H⟩ := H
    replace H : ((impl_PictureOf.f k t422 t425 t429 (wrap64 (1 + t430))).bind fun bt431 => (if bt431.2 = true then (laws_FnPictures.j0 k t429 (wrap64 (1 + t430)) bt431.1 ((bt431.1.size : Int) != (wrap64 ((wrap64 ((wrap64 (1 + t430)) + 11)) * (t422.length : Int)))) t422 t425) else (laws_FnPictures.j0 k t429 (wrap64 (1 + t430)) bt431.1 true t422 t425))) = some r := H
    have A7 := Aside0.mk A70
    clear A70
    replace H := Option.bind_eq_some_iff.mp H
    obtain ⟨⟨t431, t432⟩, A80, H⟩ := H
    replace H : (if t432 = true then (laws_FnPictures.j0 k t429 (wrap64 (1 + t430)) t431 ((t431.size : Int) != (wrap64 ((wrap64 ((wrap64 (1 + t430)) + 11)) * (t422.length : Int)))) t422 t425) else (laws_FnPictures.j0 k t429 (wrap64 (1 + t430)) t431 true t422 t425)) = some r := H
    have A8 := Aside0.mk A80
    clear A80
    have HC9 := Aside0.mk H
    clear H
    go_enter Tryd.func8, Tryd.ntmps8
    go_upto_region 7 with (first | ((with_reducible refine gate_callee (f := 23) rfl ?_); refine goesL_ (some 18) rfl rfl Tryd.func23 (by kernel_rfl) rfl #[.slice A0 l0.length c0, .slice A1 l1.length c1] rfl (by (try simp only [List.map_toArray, List.map_cons, List.map_nil]); first | done | rfl | (simp only [List.length_drop, List.length_take]; rfl)) ?_; (with_reducible refine (laws_b10Long.calls _ _ l0 _ _ l1 false _ ?side1 ?side2 ?side3 ?side4 A3.out).mono ?_); (case side1 => repeat (first | exact HR0.out | (with_reducible refine Kd.C_alloc ?_ _) | (with_reducible refine Kd.C_drewN ?_ _) | (with_reducible refine Kd.C_drew ?_))); (case side2 => exact HC0.out); (case side3 => repeat (first | exact HR1.out | (with_reducible refine Kd.C_alloc ?_ _) | (with_reducible refine Kd.C_drewN ?_ _) | (with_reducible refine Kd.C_drew ?_))); (case side4 => exact HC1.out); rintro e w' ⟨rfl, ⟨nd, rfl⟩⟩; refine ⟨_, rfl, ?_⟩) | ((with_reducible refine gate_callee (f := 25) rfl ?_); refine goesL_ (some 20) rfl rfl Tryd.func25 (by kernel_rfl) rfl #[.slice A0 l0.length c0] rfl (by (try simp only [List.map_toArray, List.map_cons, List.map_nil]); first | done | rfl | (simp only [List.length_drop, List.length_take]; rfl)) ?_; (with_reducible refine (spec_B10Scope.calls k _ _ l0 t422 t425 _ ?side1 ?side2 A5.out).mono ?_); (case side1 => repeat (first | exact HR0.out | (with_reducible refine Kd.C_alloc ?_ _) | (with_reducible refine Kd.C_drewN ?_ _) | (with_reducible refine Kd.C_drew ?_))); (case side2 => exact HC0.out); rintro e w10 ⟨v423, v426, rfl, ho0, ho1, hb⟩; refine ⟨_, rfl, ?_⟩; have n0_ := Aside0.mk (Kd.R_lower ho0 (below_size (by repeat (first | (with_reducible first | exact HB.out | apply below_alloc | apply pw_below_drewN | apply below_drew1) | exact HB.out)))); have n1_ := Aside0.mk (Kd.R_lower ho1 (below_size (by repeat (first | (with_reducible first | exact HB.out | apply below_alloc | apply pw_below_drewN | apply below_drew1) | exact HB.out)))); have n2_ := Aside0.mk (below_step (by repeat (first | (with_reducible first | exact HB.out | apply below_alloc | apply pw_below_drewN | apply below_drew1) | exact HB.out)) hb); clear HB; have HO424 := n0_; have HO427 := n1_; have HB := n2_; clear n0_ n1_ n2_; (try clear hb); (try clear hb2); (try clear hk); (try clear hi); (try clear ho0); (try clear ho1)) | ((with_reducible refine gate_dst (N := 5) rfl ?_); (try (refine gate_guard (by rfl) ?_; dsimp only)); refine box_event ?hg (N := 5) ?hd (cs := #[.slice none 0 0, .slice none 0 0]) (t := 27) ?hr ?_; (case hd => rfl); (case hg => rfl); (case hr => first | (go_simp; done) | (go_simp; rfl)); intro gb428 hg w11 hbox hb; have n0_ := Aside0.mk (Kd.R_below (by (with_reducible repeat (first | apply Kd.R_alloc | apply Kd.R_drewN | apply Kd.R_drew)); exact HO424.out) hb); have n1_ := Aside0.mk (Kd.R_below (by (with_reducible repeat (first | apply Kd.R_alloc | apply Kd.R_drewN | apply Kd.R_drew)); exact HO427.out) hb); have n2_ := Aside0.mk (below_step (by repeat (first | (with_reducible first | exact HB.out | apply below_alloc | apply pw_below_drewN | apply below_drew1) | exact HB.out)) hb); have n3_ := Aside0.mk (hbox); have n4_ := Aside0.mk ((by rw [hg]; exact (below_size (by repeat (first | (with_reducible first | exact HB.out | apply below_alloc | apply pw_below_drewN | apply below_drew1) | exact HB.out))) : w.heap.size ≤ gb428)); have n5_ := Aside0.mk ((by rw [hg]; exact (below_size (by repeat (first | (with_reducible first | exact HB.out | apply below_alloc | apply pw_below_drewN | apply below_drew1) | exact HB.out))) : w.heap.size ≤ gb428)); clear HO424; clear HO427; clear HB; have HO424 := n0_; have HO427 := n1_; have HB := n2_; have BK428 := n3_; have GW428 := n4_; have GE428 := n5_; clear n0_ n1_ n2_ n3_ n4_ n5_; clear hb hbox hg; obtain ⟨Ao12, co12, eo12⟩ := Kd.R_slice HO424.out; subst eo12; have hcz13_0 : w11.cell? ⟨gb428, 0, none⟩ = some (.slice none 0 0) := (blk_cell BK428.out 0).trans rfl; have hcz13_1 : w11.cell? ⟨gb428, 1, none⟩ = some (.slice none 0 0) := (blk_cell BK428.out 1).trans rfl; have hfz13_0 := blk_frozen BK428.out 0; have hfz13_1 := blk_frozen BK428.out 1; obtain ⟨Ao14, co14, eo14⟩ := Kd.R_slice HO427.out; subst eo14) | ((with_reducible refine gate_callee (f := 26) rfl ?_); refine goesL_ (some 22) rfl rfl Tryd.func26 (by kernel_rfl) rfl #[.slice A1 l1.length c1, .int .i64 0, .int .i64 30] rfl (by (try simp only [List.map_toArray, List.map_cons, List.map_nil]); first | done | rfl | (simp only [List.length_drop, List.length_take]; rfl)) ?_; (with_reducible refine (laws_b10At.calls _ _ l1 0 30 t429 _ ?side1 ?side2 A6.out).mono ?_); (case side1 => exact Kd.C_below HR1.out (by repeat (first | (with_reducible first | exact HB.out | apply below_alloc | apply pw_below_drewN | apply below_drew1 | refine below_set ?_ GE428.out) | exact HB.out))); (case side2 => exact HC1.out); rintro e w' ⟨rfl, ⟨nd, rfl⟩⟩; refine ⟨_, rfl, ?_⟩) | ((with_reducible refine gate_callee (f := 26) rfl ?_); refine goesL_ (some 24) rfl rfl Tryd.func26 (by kernel_rfl) rfl #[.slice A1 l1.length c1, .int .i64 1, .int .i64 40] rfl (by (try simp only [List.map_toArray, List.map_cons, List.map_nil]); first | done | rfl | (simp only [List.length_drop, List.length_take]; rfl)) ?_; (with_reducible refine (laws_b10At.calls _ _ l1 1 40 t430 _ ?side1 ?side2 A7.out).mono ?_); (case side1 => exact Kd.C_below HR1.out (by repeat (first | (with_reducible first | exact HB.out | apply below_alloc | apply pw_below_drewN | apply below_drew1 | refine below_set ?_ GE428.out) | exact HB.out))); (case side2 => exact HC1.out); rintro e w' ⟨rfl, ⟨nd, rfl⟩⟩; refine ⟨_, rfl, ?_⟩) | ((with_reducible refine gate_callee (f := 28) rfl ?_); refine goesL_ (some 30) rfl rfl Tryd.func28 (by kernel_rfl) rfl #[.agg #[.slice Ao12 t422.length co12, .slice Ao14 t425.length co14], .int .i64 t429, .int .i64 (wrap64 (1 + t430))] rfl (by (try simp only [List.map_toArray, List.map_cons, List.map_nil]); first | done | rfl | (simp only [List.length_drop, List.length_take]; rfl)) ?_; (with_reducible refine (impl_PictureOf.calls k _ _ t422 _ _ t425 t429 (wrap64 (1 + t430)) t431 t432 _ ?side1 ?side2 ?side3 ?side4 A8.out).mono ?_); (case side1 => refine (Kd.R_reads' (e := 9) (base := w.heap.size) (ok := fun k_ => some k_ ≠ (.slice Ao14 t425.length co14 : Value).ownBlock) (n := t422.length) (c := co12) ?_).2.2; exact (by (with_reducible repeat (first | apply Kd.R_alloc | apply Kd.R_drewN | apply Kd.R_drew)); exact (Kd.R_mono (Kd.R_far (p := ⟨gb428, 1, none⟩) (Kd.R_far (p := ⟨gb428, 0, none⟩) (Kd.R_types HO424.out BK428.out (by decide)) (fun _ hk => hk.2) (.slice Ao12 t422.length co12)) (fun _ hk => hk.2) (.slice Ao14 t425.length co14)) (fun _ h_ => h_.1)))); (case side2 => exact (Kd.R_reads' HO424.out).2.1); (case side3 => refine (Kd.R_reads' (e := 9) (base := w.heap.size) (ok := fun k_ => some k_ ≠ (.slice Ao12 t422.length co12 : Value).ownBlock) (n := t425.length) (c := co14) ?_).2.2; exact (by (with_reducible repeat (first | apply Kd.R_alloc | apply Kd.R_drewN | apply Kd.R_drew)); exact (Kd.R_mono (Kd.R_far (p := ⟨gb428, 1, none⟩) (Kd.R_far (p := ⟨gb428, 0, none⟩) (Kd.R_types HO427.out BK428.out (by decide)) (fun _ hk => hk.2) (.slice Ao12 t422.length co12)) (fun _ hk => hk.2) (.slice Ao14 t425.length co14)) (fun _ h_ => h_.1)))); (case side4 => exact (Kd.R_reads' HO427.out).2.1); rintro e w15 ⟨rfl, hb⟩; refine ⟨_, rfl, ?_⟩; have n0_ := Aside0.mk (Kd.R_below (by (with_reducible repeat (first | apply Kd.R_alloc | apply Kd.R_drewN | apply Kd.R_drew)); exact (Kd.R_mono (Kd.R_far (p := ⟨gb428, 1, none⟩) (Kd.R_far (p := ⟨gb428, 0, none⟩) (Kd.R_types HO424.out BK428.out (by decide)) (fun _ hk => hk.2) (.slice Ao12 t422.length co12)) (fun _ hk => hk.2) (.slice Ao14 t425.length co14)) (fun _ h_ => h_.1))) hb); have n1_ := Aside0.mk (Kd.R_below (by (with_reducible repeat (first | apply Kd.R_alloc | apply Kd.R_drewN | apply Kd.R_drew)); exact (Kd.R_mono (Kd.R_far (p := ⟨gb428, 1, none⟩) (Kd.R_far (p := ⟨gb428, 0, none⟩) (Kd.R_types HO427.out BK428.out (by decide)) (fun _ hk => hk.2) (.slice Ao12 t422.length co12)) (fun _ hk => hk.2) (.slice Ao14 t425.length co14)) (fun _ h_ => h_.1))) hb); have n2_ := Aside0.mk (blk_below (g := gb428) (o := .cells #[.slice Ao12 t422.length co12, .slice Ao14 t425.length co14] 27 (0, 0)) (by (with_reducible repeat (first | refine blk_drewN ?_ _ | refine blk_drew ?_ | refine blk_alloc ?_ _)); refine blk_put (cs := #[.slice Ao12 t422.length co12, .slice none 0 0]) ?_ 1 _ rfl; (with_reducible repeat (first | refine blk_drewN ?_ _ | refine blk_drew ?_ | refine blk_alloc ?_ _)); refine blk_put (cs := #[.slice none 0 0, .slice none 0 0]) ?_ 0 _ rfl; (with_reducible repeat (first | refine blk_drewN ?_ _ | refine blk_drew ?_ | refine blk_alloc ?_ _)); exact BK428.out) hb); have n3_ := Aside0.mk (below_step (by repeat (first | (with_reducible first | exact HB.out | apply below_alloc | apply pw_below_drewN | apply below_drew1 | refine below_set ?_ GE428.out) | exact HB.out)) hb); clear HO424; clear HO427; clear BK428; clear HB; have HO424 := n0_; have HO427 := n1_; have BK428 := n2_; have HB := n3_; clear n0_ n1_ n2_ n3_; (try clear hb); (try clear hb2); (try clear hk); (try clear hi)))
    (try simp only [Act.put, List.setIfInBounds_toArray, List.set_cons_zero, List.set_cons_succ])
    go_cut [45] (fun v45 wc => ∃ (kq : Nat) (x45_8 : Bool), v45 = .bool x45_8 ∧ Aside0 (laws_FnPictures.j0 kq t429 (wrap64 (1 + t430)) t431 x45_8 t422 t425 = some r) ∧ Aside0 (kq ≤ k) ∧ Aside0 (Kd.R Kd.string 9 wc w.heap.size (fun k_ => some k_ ≠ ((.slice Ao14 t425.length co14) : Value).ownBlock) (.slice Ao12 t422.length co12) t422) ∧ Aside0 (Kd.R Kd.string 9 wc w.heap.size (fun k_ => some k_ ≠ ((.slice Ao12 t422.length co12) : Value).ownBlock) (.slice Ao14 t425.length co14) t425) ∧ Aside0 (wc.heap[gb428]? = some (.cells #[(.slice Ao12 t422.length co12), (.slice Ao14 t425.length co14)] 27 (0, 0))) ∧ Aside0 (Below w.heap.size w wc))
    case first =>
      have H := HC9.out
      clear HC9
      by_cases c16 : t432 = true
      · subst c16
        have H1 : (laws_FnPictures.j0 k t429 (wrap64 (1 + t430)) t431 ((t431.size : Int) != (wrap64 ((wrap64 ((wrap64 (1 + t430)) + 11)) * (t422.length : Int)))) t422 t425) = some r := by rw [if_pos rfl] at H; exact H
        clear H
        have H := H1
        clear H1
        have H' := Aside0.mk H
        clear H
        have hcz17_0 : w15.cell? ⟨gb428, 0, none⟩ = some (.slice Ao12 t422.length co12) := (blk_cell BK428.out 0).trans rfl
        have hcz17_1 : w15.cell? ⟨gb428, 1, none⟩ = some (.slice Ao14 t425.length co14) := (blk_cell BK428.out 1).trans rfl
        have hfz17_0 := blk_frozen BK428.out 0
        have hfz17_1 := blk_frozen BK428.out 1
        go_wp2
        go_meet
        case rel => exact ⟨_, (((t431.size : Int) != (wrap64 ((wrap64 ((wrap64 (1 + t430)) + 11)) * (t422.length : Int))))), (by first | rfl | (simp; done) | (simp [*]; done)), H', ⟨by first | omega | exact Nat.le_refl _⟩, ⟨by (with_reducible repeat (first | apply Kd.R_alloc | apply Kd.R_drewN | apply Kd.R_drew)); exact HO424.out⟩, ⟨by (with_reducible repeat (first | apply Kd.R_alloc | apply Kd.R_drewN | apply Kd.R_drew)); exact HO427.out⟩, ⟨by (with_reducible repeat (first | refine blk_drewN ?_ _ | refine blk_drew ?_ | refine blk_alloc ?_ _)); exact BK428.out⟩, ⟨by repeat (first | (with_reducible first | exact HB.out | apply below_alloc | apply pw_below_drewN | apply below_drew1 | refine below_set ?_ GE428.out) | exact HB.out)⟩⟩
      · replace c16 := Bool.eq_false_iff.mpr c16
        subst c16
        have H1 : (laws_FnPictures.j0 k t429 (wrap64 (1 + t430)) t431 true t422 t425) = some r := by rw [if_neg (show ¬ (false = true) by decide)] at H; exact H
        clear H
        have H := H1
        clear H1
        have H' := Aside0.mk H
        clear H
        go_wp2
        go_meet
        case rel => exact ⟨_, (true), (by first | rfl | (simp; done) | (simp [*]; done)), H', ⟨by first | omega | exact Nat.le_refl _⟩, ⟨by (with_reducible repeat (first | apply Kd.R_alloc | apply Kd.R_drewN | apply Kd.R_drew)); exact HO424.out⟩, ⟨by (with_reducible repeat (first | apply Kd.R_alloc | apply Kd.R_drewN | apply Kd.R_drew)); exact HO427.out⟩, ⟨by (with_reducible repeat (first | refine blk_drewN ?_ _ | refine blk_drew ?_ | refine blk_alloc ?_ _)); exact BK428.out⟩, ⟨by repeat (first | (with_reducible first | exact HB.out | apply below_alloc | apply pw_below_drewN | apply below_drew1 | refine below_set ?_ GE428.out) | exact HB.out)⟩⟩
    case rest =>
      clear HC9
      try clear c1
      try clear c2
      try clear p2
      try clear c4
      try clear p6
      try clear c8
      try clear c16
      try clear hcz13_0
      try clear hcz13_1
      try clear hcz17_0
      try clear hcz17_1
      try clear hfz13_0
      try clear hfz13_1
      try clear hfz17_0
      try clear hfz17_1
      obtain ⟨kq, x45_8, rfl, HA, HJ8, HO_429000, HO_429001, BK428, HB⟩ := hcut
      cases kq with
      | zero => exact absurd HA.out (by simp [laws_FnPictures.j0])
      | succ kj8 =>
        have H := HA.out
        clear HA
        simp only [laws_FnPictures.j0] at H
        by_cases c18 : x45_8 = true
        · subst c18
          have H1 : (some false) = some r := by rw [if_pos rfl] at H; exact H
          clear H
          have H := H1
          clear H1
          obtain rfl := Option.some.inj H
          go_wp2
          go_ret
          exact ⟨by first | rfl | (simp [errW_none, errW_some] <;> rfl) | (simp [*, errW_none, errW_some] <;> rfl), by repeat (first | (with_reducible first | exact HB.out | apply below_alloc | apply pw_below_drewN | apply below_drew1 | refine below_set ?_ GE428.out) | exact HB.out)⟩
        · replace c18 := Bool.eq_false_iff.mpr c18
          subst c18
          have H1 : (laws_FnPictures.l0 kj8 t429 (wrap64 (1 + t430)) t431 0 t422 t425) = some r := by rw [if_neg (show ¬ (false = true) by decide)] at H; exact H
          clear H
          have H := H1
          clear H1
          have H' := Aside0.mk H
          clear H
          go_wp2
          go_loopg [10] kj8 (fun kq v10 w' => ∃ (x10_2 : Int), v10 = .int .i64 x10_2 ∧ Aside0 (laws_FnPictures.l0 kq t429 (wrap64 (1 + t430)) t431 x10_2 t422 t425 = some r) ∧ Aside0 (kq ≤ kj8) ∧ Aside0 (Kd.R Kd.string 9 w' w.heap.size (fun k_ => some k_ ≠ ((.slice Ao14 t425.length co14) : Value).ownBlock) (.slice Ao12 t422.length co12) t422) ∧ Aside0 (Kd.R Kd.string 9 w' w.heap.size (fun k_ => some k_ ≠ ((.slice Ao12 t422.length co12) : Value).ownBlock) (.slice Ao14 t425.length co14) t425) ∧ Aside0 (w'.heap[gb428]? = some (.cells #[(.slice Ao12 t422.length co12), (.slice Ao14 t425.length co14)] 27 (0, 0))) ∧ Aside0 (Below w.heap.size w w'))
          case atStart => exact ⟨(0), (by first | rfl | (simp; done) | (simp [*]; done)), H', ⟨Nat.le_refl _⟩, ⟨by (with_reducible repeat (first | apply Kd.R_alloc | apply Kd.R_drewN | apply Kd.R_drew)); exact HO_429000.out⟩, ⟨by (with_reducible repeat (first | apply Kd.R_alloc | apply Kd.R_drewN | apply Kd.R_drew)); exact HO_429001.out⟩, ⟨by (with_reducible repeat (first | refine blk_drewN ?_ _ | refine blk_drew ?_ | refine blk_alloc ?_ _)); exact BK428.out⟩, ⟨by repeat (first | (with_reducible first | exact HB.out | apply below_alloc | apply pw_below_drewN | apply below_drew1 | refine below_set ?_ GE428.out) | exact HB.out)⟩⟩
          case round =>
            clear H'
            try clear c1
            try clear c2
            try clear p2
            try clear c4
            try clear p6
            try clear c8
            try clear c16
            try clear c18
            try clear hcz13_0
            try clear hcz13_1
            try clear hcz17_0
            try clear hcz17_1
            try clear hfz13_0
            try clear hfz13_1
            try clear hfz17_0
            try clear hfz17_1
            try clear p2
            try clear p6
            obtain ⟨x10_2, rfl, HA, HK2, HO_429000, HO_429001, BK428, HB⟩ := hrel
            cases gk with
            | zero => exact absurd HA.out (by simp [laws_FnPictures.l0])
            | succ k2 =>
              have H := HA.out
              clear HA
              simp only [laws_FnPictures.l0] at H
              by_cases c19 : x10_2 < (t422.length : Int)
              · rw [if_pos c19] at H
                have c19b0 : decide (x10_2 < (t422.length : Int)) = true := decide_eq_true c19
                clear c19
                obtain ⟨ji20, hji20⟩ : ∃ j_ : Int, (wrap64 ((wrap64 ((wrap64 (1 + t430)) + 11)) * x10_2)) = j_ := ⟨_, rfl⟩
                replace H : (if 0 ≤ (ji20) then (if (ji20) ≤ (t431.size : Int) then (laws_FnPictures.l1 k2 t429 (wrap64 (1 + t430)) t431 x10_2 (t431.extract ((ji20) : Int).toNat t431.size) 0 t422 t425) else (none)) else (none)) = some r := by first | (rw [hji20] at H; exact H) | (simp only [hji20] at H ⊢; exact H)
                have hji20w : (IntKind.i64.wrap ((wrap64 ((wrap64 (1 + t430)) + 11)) * x10_2)) = ji20 := (i64_w _).trans hji20
                by_cases c21 : 0 ≤ (ji20)
                · rw [if_pos c21] at H
                  have c21b0 := eq_true c21
                  have c21b1 : decide (0 ≤ (ji20)) = true := decide_eq_true c21
                  clear c21
                  by_cases c22 : (ji20) ≤ (t431.size : Int)
                  · rw [if_pos c22] at H
                    have c22b0 := eq_true c22
                    have c22b1 : decide ((ji20) ≤ (t431.size : Int)) = true := decide_eq_true c22
                    clear c22
                    obtain ⟨XR, hXR⟩ : ∃ XR, t431.extract ((ji20) : Int).toNat t431.size = XR := ⟨_, rfl⟩
                    rw [hXR] at H
                    have H' := Aside0.mk H
                    clear H
                    have hcz23_0 : wr.cell? ⟨gb428, 0, none⟩ = some (.slice Ao12 t422.length co12) := (blk_cell BK428.out 0).trans rfl
                    have hcz23_1 : wr.cell? ⟨gb428, 1, none⟩ = some (.slice Ao14 t425.length co14) := (blk_cell BK428.out 1).trans rfl
                    have hfz23_0 := blk_frozen BK428.out 0
                    have hfz23_1 := blk_frozen BK428.out 1
                    go_wp2
                    (try rw [hXR])
                    clear hXR
                    go_loopg [12] k2 (fun kq v12 w' => ∃ (x12_3 : Int), v12 = .int .i64 x12_3 ∧ Aside0 (laws_FnPictures.l1 kq t429 (wrap64 (1 + t430)) t431 x10_2 XR x12_3 t422 t425 = some r) ∧ Aside0 (kq ≤ k2) ∧ Aside0 (Kd.R Kd.string 9 w' w.heap.size (fun k_ => some k_ ≠ ((.slice Ao14 t425.length co14) : Value).ownBlock) (.slice Ao12 t422.length co12) t422) ∧ Aside0 (Kd.R Kd.string 9 w' w.heap.size (fun k_ => some k_ ≠ ((.slice Ao12 t422.length co12) : Value).ownBlock) (.slice Ao14 t425.length co14) t425) ∧ Aside0 (w'.heap[gb428]? = some (.cells #[(.slice Ao12 t422.length co12), (.slice Ao14 t425.length co14)] 27 (0, 0))) ∧ Aside0 (Below w.heap.size w w'))
                    case atStart => exact ⟨(0), (by first | rfl | (simp; done) | (simp [*]; done)), H', ⟨Nat.le_refl _⟩, ⟨by (with_reducible repeat (first | apply Kd.R_alloc | apply Kd.R_drewN | apply Kd.R_drew)); exact HO_429000.out⟩, ⟨by (with_reducible repeat (first | apply Kd.R_alloc | apply Kd.R_drewN | apply Kd.R_drew)); exact HO_429001.out⟩, ⟨by (with_reducible repeat (first | refine blk_drewN ?_ _ | refine blk_drew ?_ | refine blk_alloc ?_ _)); exact BK428.out⟩, ⟨by repeat (first | (with_reducible first | exact HB.out | apply below_alloc | apply pw_below_drewN | apply below_drew1 | refine below_set ?_ GE428.out) | exact HB.out)⟩⟩
                    case round =>
                      clear H'
                      try clear c1
                      try clear c2
                      try clear p2
                      try clear c4
                      try clear p6
                      try clear c8
                      try clear c16
                      try clear c18
                      try clear c19
                      try clear c19b0
                      try clear c21
                      try clear c21b0
                      try clear c21b1
                      try clear c22
                      try clear c22b0
                      try clear c22b1
                      try clear c23
                      try clear hcz13_0
                      try clear hcz13_1
                      try clear hcz17_0
                      try clear hcz17_1
                      try clear hcz23_0
                      try clear hcz23_1
                      try clear hfz13_0
                      try clear hfz13_1
                      try clear hfz17_0
                      try clear hfz17_1
                      try clear hfz23_0
                      try clear hfz23_1
                      try clear p2
                      try clear p6
                      obtain ⟨x12_3, rfl, HA, HK3, HO_429000, HO_429001, BK428, HB⟩ := hrel
                      cases gk with
                      | zero => exact absurd HA.out (by simp [laws_FnPictures.l1])
                      | succ k3 =>
                        have H := HA.out
                        clear HA
                        simp only [laws_FnPictures.l1] at H
                        by_cases c24 : x12_3 < 10
                        · rw [if_pos c24] at H
                          have c24b0 : decide (x12_3 < 10) = true := decide_eq_true c24
                          clear c24
                          by_cases c25 : 0 ≤ x10_2
                          · rw [if_pos c25] at H
                            have c25b0 : decide (0 ≤ x10_2) = true := decide_eq_true c25
                            clear c25
                            by_cases c26 : x10_2 < (t422.length : Int)
                            · rw [if_pos c26] at H
                              have c26b0 : decide (x10_2 < (t422.length : Int)) = true := decide_eq_true c26
                              clear c26
                              by_cases c27 : x12_3 < ((rdOf ByteArray.empty t422 x10_2).size : Int)
                              · rw [if_pos c27] at H
                                have c27b0 : decide (x12_3 < ((rdOf ByteArray.empty t422 x10_2).size : Int)) = true := decide_eq_true c27
                                clear c27
                                by_cases c28 : 0 ≤ x12_3
                                · rw [if_pos c28] at H
                                  have c28b0 : decide (0 ≤ x12_3) = true := decide_eq_true c28
                                  clear c28
                                  by_cases c30 : x12_3 < (XR.size : Int)
                                  · rw [if_pos c30] at H
                                    have c30b0 : decide (x12_3 < (XR.size : Int)) = true := decide_eq_true c30
                                    clear c30
                                    by_cases c32 : (bt XR x12_3) = (bt (rdOf ByteArray.empty t422 x10_2) x12_3)
                                    · rw [if_pos c32] at H
                                      have c32b0 : ((bt XR x12_3) == (bt (rdOf ByteArray.empty t422 x10_2) x12_3)) = true := beq_iff_eq.mpr c32
                                      have c32b1 : ((bt XR x12_3) != (bt (rdOf ByteArray.empty t422 x10_2) x12_3)) = false := bne_eq_false_iff_eq.mpr c32
                                      clear c32
                                      have H' := Aside0.mk H
                                      clear H
                                      have hcz33_0 : wr.cell? ⟨gb428, 0, none⟩ = some (.slice Ao12 t422.length co12) := (blk_cell BK428.out 0).trans rfl
                                      have hcz33_1 : wr.cell? ⟨gb428, 1, none⟩ = some (.slice Ao14 t425.length co14) := (blk_cell BK428.out 1).trans rfl
                                      have hfz33_0 := blk_frozen BK428.out 0
                                      have hfz33_1 := blk_frozen BK428.out 1
                                      have p433 : 0 ≤ (x10_2 : Int) := of_decide_eq_true (by first | (with_reducible assumption) | assumption)
                                      have q433 : x10_2 < (t422.length : Int) := of_decide_eq_true (by first | (with_reducible assumption) | assumption)
                                      obtain ⟨ad433, e433, hx433_0⟩ := Kd.at_string (Kd.R_reads' HO_429000.out).2.2 x10_2 p433 q433
                                      cases e433
                                      replace p433 := eq_true p433
                                      replace q433 := eq_true q433
                                      have p434 : 0 ≤ (x10_2 : Int) := of_decide_eq_true (by first | (with_reducible assumption) | assumption)
                                      have q434 : x10_2 < (t422.length : Int) := of_decide_eq_true (by first | (with_reducible assumption) | assumption)
                                      obtain ⟨ad434, e434, hx434_0⟩ := Kd.at_string (Kd.R_reads' HO_429000.out).2.2 x10_2 p434 q434
                                      obtain rfl : ad433 = ad434 := (by injection e434)
                                      replace p434 := eq_true p434
                                      replace q434 := eq_true q434
                                      have p29 : 0 ≤ (x12_3 : Int) := of_decide_eq_true (by first | (with_reducible assumption) | assumption)
                                      have q29 : x12_3 < ((rdOf ByteArray.empty t422 x10_2).size : Int) := of_decide_eq_true (by first | (with_reducible assumption) | assumption)
                                      have hx29 := bt_at (rdOf ByteArray.empty t422 x10_2) x12_3
                                      replace p29 := eq_true p29
                                      replace q29 := eq_true q29
                                      have p31 : 0 ≤ (x12_3 : Int) := of_decide_eq_true (by first | (with_reducible assumption) | assumption)
                                      have q31 : x12_3 < (XR.size : Int) := of_decide_eq_true (by first | (with_reducible assumption) | assumption)
                                      have hx31 := bt_at XR x12_3
                                      replace p31 := eq_true p31
                                      replace q31 := eq_true q31
                                      go_wp2
                                      go_roundg k3
                                      case measure => have := HJ8.out; have := HK2.out; have := HK3.out; omega
                                      case rel => exact ⟨(wrap64 (x12_3 + 1)), (by first | rfl | (simp; done) | (simp [*]; done)), H', ⟨by have := HJ8.out; have := HK2.out; have := HK3.out; omega⟩, ⟨by (with_reducible repeat (first | apply Kd.R_alloc | apply Kd.R_drewN | apply Kd.R_drew)); exact HO_429000.out⟩, ⟨by (with_reducible repeat (first | apply Kd.R_alloc | apply Kd.R_drewN | apply Kd.R_drew)); exact HO_429001.out⟩, ⟨by (with_reducible repeat (first | refine blk_drewN ?_ _ | refine blk_drew ?_ | refine blk_alloc ?_ _)); exact BK428.out⟩, ⟨by repeat (first | (with_reducible first | exact HB.out | apply below_alloc | apply pw_below_drewN | apply below_drew1 | refine below_set ?_ GE428.out) | exact HB.out)⟩⟩
                                    · rw [if_neg c32] at H
                                      have c32b0 : ((bt XR x12_3) == (bt (rdOf ByteArray.empty t422 x10_2) x12_3)) = false := beq_eq_false_iff_ne.mpr c32
                                      have c32b1 : ((bt XR x12_3) != (bt (rdOf ByteArray.empty t422 x10_2) x12_3)) = true := bne_iff_ne.mpr c32
                                      obtain rfl := Option.some.inj H
                                      have hcz34_0 : wr.cell? ⟨gb428, 0, none⟩ = some (.slice Ao12 t422.length co12) := (blk_cell BK428.out 0).trans rfl
                                      have hcz34_1 : wr.cell? ⟨gb428, 1, none⟩ = some (.slice Ao14 t425.length co14) := (blk_cell BK428.out 1).trans rfl
                                      have hfz34_0 := blk_frozen BK428.out 0
                                      have hfz34_1 := blk_frozen BK428.out 1
                                      have p433 : 0 ≤ (x10_2 : Int) := of_decide_eq_true (by first | (with_reducible assumption) | assumption)
                                      have q433 : x10_2 < (t422.length : Int) := of_decide_eq_true (by first | (with_reducible assumption) | assumption)
                                      obtain ⟨ad433, e433, hx433_0⟩ := Kd.at_string (Kd.R_reads' HO_429000.out).2.2 x10_2 p433 q433
                                      cases e433
                                      replace p433 := eq_true p433
                                      replace q433 := eq_true q433
                                      have p434 : 0 ≤ (x10_2 : Int) := of_decide_eq_true (by first | (with_reducible assumption) | assumption)
                                      have q434 : x10_2 < (t422.length : Int) := of_decide_eq_true (by first | (with_reducible assumption) | assumption)
                                      obtain ⟨ad434, e434, hx434_0⟩ := Kd.at_string (Kd.R_reads' HO_429000.out).2.2 x10_2 p434 q434
                                      obtain rfl : ad433 = ad434 := (by injection e434)
                                      replace p434 := eq_true p434
                                      replace q434 := eq_true q434
                                      have p29 : 0 ≤ (x12_3 : Int) := of_decide_eq_true (by first | (with_reducible assumption) | assumption)
                                      have q29 : x12_3 < ((rdOf ByteArray.empty t422 x10_2).size : Int) := of_decide_eq_true (by first | (with_reducible assumption) | assumption)
                                      have hx29 := bt_at (rdOf ByteArray.empty t422 x10_2) x12_3
                                      replace p29 := eq_true p29
                                      replace q29 := eq_true q29
                                      have p31 : 0 ≤ (x12_3 : Int) := of_decide_eq_true (by first | (with_reducible assumption) | assumption)
                                      have q31 : x12_3 < (XR.size : Int) := of_decide_eq_true (by first | (with_reducible assumption) | assumption)
                                      have hx31 := bt_at XR x12_3
                                      replace p31 := eq_true p31
                                      replace q31 := eq_true q31
                                      go_wp2
                                      go_ret
                                      exact ⟨by first | rfl | (simp [errW_none, errW_some] <;> rfl) | (simp only [← hji20]; first | rfl | (simp [errW_none, errW_some] <;> rfl)) | (simp [*, errW_none, errW_some] <;> rfl), by repeat (first | (with_reducible first | exact HB.out | apply below_alloc | apply pw_below_drewN | apply below_drew1 | refine below_set ?_ GE428.out) | exact HB.out)⟩
                                  · rw [if_neg c30] at H
                                    exact absurd H (by simp)
                                · rw [if_neg c28] at H
                                  exact absurd H (by simp)
                              · rw [if_neg c27] at H
                                have c27b0 : decide (x12_3 < ((rdOf ByteArray.empty t422 x10_2).size : Int)) = false := decide_eq_false c27
                                clear c27
                                by_cases c35 : 0 ≤ x12_3
                                · rw [if_pos c35] at H
                                  have c35b0 : decide (0 ≤ x12_3) = true := decide_eq_true c35
                                  clear c35
                                  by_cases c36 : x12_3 < (XR.size : Int)
                                  · rw [if_pos c36] at H
                                    have c36b0 : decide (x12_3 < (XR.size : Int)) = true := decide_eq_true c36
                                    clear c36
                                    by_cases c38 : (bt XR x12_3) = 32
                                    · rw [if_pos c38] at H
                                      have c38b0 : ((bt XR x12_3) == 32) = true := beq_iff_eq.mpr c38
                                      have c38b1 : ((bt XR x12_3) != 32) = false := bne_eq_false_iff_eq.mpr c38
                                      clear c38
                                      have H' := Aside0.mk H
                                      clear H
                                      have hcz39_0 : wr.cell? ⟨gb428, 0, none⟩ = some (.slice Ao12 t422.length co12) := (blk_cell BK428.out 0).trans rfl
                                      have hcz39_1 : wr.cell? ⟨gb428, 1, none⟩ = some (.slice Ao14 t425.length co14) := (blk_cell BK428.out 1).trans rfl
                                      have hfz39_0 := blk_frozen BK428.out 0
                                      have hfz39_1 := blk_frozen BK428.out 1
                                      have p433 : 0 ≤ (x10_2 : Int) := of_decide_eq_true (by first | (with_reducible assumption) | assumption)
                                      have q433 : x10_2 < (t422.length : Int) := of_decide_eq_true (by first | (with_reducible assumption) | assumption)
                                      obtain ⟨ad433, e433, hx433_0⟩ := Kd.at_string (Kd.R_reads' HO_429000.out).2.2 x10_2 p433 q433
                                      cases e433
                                      replace p433 := eq_true p433
                                      replace q433 := eq_true q433
                                      have p37 : 0 ≤ (x12_3 : Int) := of_decide_eq_true (by first | (with_reducible assumption) | assumption)
                                      have q37 : x12_3 < (XR.size : Int) := of_decide_eq_true (by first | (with_reducible assumption) | assumption)
                                      have hx37 := bt_at XR x12_3
                                      replace p37 := eq_true p37
                                      replace q37 := eq_true q37
                                      go_wp2
                                      go_roundg k3
                                      case measure => have := HJ8.out; have := HK2.out; have := HK3.out; omega
                                      case rel => exact ⟨(wrap64 (x12_3 + 1)), (by first | rfl | (simp; done) | (simp [*]; done)), H', ⟨by have := HJ8.out; have := HK2.out; have := HK3.out; omega⟩, ⟨by (with_reducible repeat (first | apply Kd.R_alloc | apply Kd.R_drewN | apply Kd.R_drew)); exact HO_429000.out⟩, ⟨by (with_reducible repeat (first | apply Kd.R_alloc | apply Kd.R_drewN | apply Kd.R_drew)); exact HO_429001.out⟩, ⟨by (with_reducible repeat (first | refine blk_drewN ?_ _ | refine blk_drew ?_ | refine blk_alloc ?_ _)); exact BK428.out⟩, ⟨by repeat (first | (with_reducible first | exact HB.out | apply below_alloc | apply pw_below_drewN | apply below_drew1 | refine below_set ?_ GE428.out) | exact HB.out)⟩⟩
                                    · rw [if_neg c38] at H
                                      have c38b0 : ((bt XR x12_3) == 32) = false := beq_eq_false_iff_ne.mpr c38
                                      have c38b1 : ((bt XR x12_3) != 32) = true := bne_iff_ne.mpr c38
                                      obtain rfl := Option.some.inj H
                                      have hcz40_0 : wr.cell? ⟨gb428, 0, none⟩ = some (.slice Ao12 t422.length co12) := (blk_cell BK428.out 0).trans rfl
                                      have hcz40_1 : wr.cell? ⟨gb428, 1, none⟩ = some (.slice Ao14 t425.length co14) := (blk_cell BK428.out 1).trans rfl
                                      have hfz40_0 := blk_frozen BK428.out 0
                                      have hfz40_1 := blk_frozen BK428.out 1
                                      have p433 : 0 ≤ (x10_2 : Int) := of_decide_eq_true (by first | (with_reducible assumption) | assumption)
                                      have q433 : x10_2 < (t422.length : Int) := of_decide_eq_true (by first | (with_reducible assumption) | assumption)
                                      obtain ⟨ad433, e433, hx433_0⟩ := Kd.at_string (Kd.R_reads' HO_429000.out).2.2 x10_2 p433 q433
                                      cases e433
                                      replace p433 := eq_true p433
                                      replace q433 := eq_true q433
                                      have p37 : 0 ≤ (x12_3 : Int) := of_decide_eq_true (by first | (with_reducible assumption) | assumption)
                                      have q37 : x12_3 < (XR.size : Int) := of_decide_eq_true (by first | (with_reducible assumption) | assumption)
                                      have hx37 := bt_at XR x12_3
                                      replace p37 := eq_true p37
                                      replace q37 := eq_true q37
                                      go_wp2
                                      go_ret
                                      exact ⟨by first | rfl | (simp [errW_none, errW_some] <;> rfl) | (simp only [← hji20]; first | rfl | (simp [errW_none, errW_some] <;> rfl)) | (simp [*, errW_none, errW_some] <;> rfl), by repeat (first | (with_reducible first | exact HB.out | apply below_alloc | apply pw_below_drewN | apply below_drew1 | refine below_set ?_ GE428.out) | exact HB.out)⟩
                                  · rw [if_neg c36] at H
                                    exact absurd H (by simp)
                                · rw [if_neg c35] at H
                                  exact absurd H (by simp)
                            · rw [if_neg c26] at H
                              exact absurd H (by simp)
                          · rw [if_neg c25] at H
                            exact absurd H (by simp)
                        · rw [if_neg c24] at H
                          have c24b0 : decide (x12_3 < 10) = false := decide_eq_false c24
                          clear c24
                          have H' := Aside0.mk H
                          clear H
                          go_wp2
                          go_loopg [14] k3 (fun kq v14 w' => ∃ (x14_4 : Int), v14 = .int .i64 x14_4 ∧ Aside0 (laws_FnPictures.l2 kq t429 (wrap64 (1 + t430)) t431 x10_2 XR x14_4 t422 t425 = some r) ∧ Aside0 (kq ≤ k3) ∧ Aside0 (Kd.R Kd.string 9 w' w.heap.size (fun k_ => some k_ ≠ ((.slice Ao14 t425.length co14) : Value).ownBlock) (.slice Ao12 t422.length co12) t422) ∧ Aside0 (Kd.R Kd.string 9 w' w.heap.size (fun k_ => some k_ ≠ ((.slice Ao12 t422.length co12) : Value).ownBlock) (.slice Ao14 t425.length co14) t425) ∧ Aside0 (w'.heap[gb428]? = some (.cells #[(.slice Ao12 t422.length co12), (.slice Ao14 t425.length co14)] 27 (0, 0))) ∧ Aside0 (Below w.heap.size w w'))
                          case atStart => exact ⟨(0), (by first | rfl | (simp; done) | (simp [*]; done)), H', ⟨Nat.le_refl _⟩, ⟨by (with_reducible repeat (first | apply Kd.R_alloc | apply Kd.R_drewN | apply Kd.R_drew)); exact HO_429000.out⟩, ⟨by (with_reducible repeat (first | apply Kd.R_alloc | apply Kd.R_drewN | apply Kd.R_drew)); exact HO_429001.out⟩, ⟨by (with_reducible repeat (first | refine blk_drewN ?_ _ | refine blk_drew ?_ | refine blk_alloc ?_ _)); exact BK428.out⟩, ⟨by repeat (first | (with_reducible first | exact HB.out | apply below_alloc | apply pw_below_drewN | apply below_drew1 | refine below_set ?_ GE428.out) | exact HB.out)⟩⟩
                          case round =>
                            clear H'
                            try clear c1
                            try clear c2
                            try clear p2
                            try clear q2
                            try clear hx2
                            try clear c3
                            try clear p3
                            try clear q3
                            try clear hx3
                            try clear c4
                            try clear p4
                            try clear q4
                            try clear hx4
                            try clear p6
                            try clear c8
                            try clear c16
                            try clear c18
                            try clear c19
                            try clear c19b0
                            try clear c21
                            try clear c21b0
                            try clear c21b1
                            try clear c22
                            try clear c22b0
                            try clear c22b1
                            try clear c23
                            try clear c24
                            try clear c24b0
                            try clear c25
                            try clear c25b0
                            try clear c26
                            try clear c26b0
                            try clear c27
                            try clear c27b0
                            try clear c28
                            try clear c28b0
                            try clear p29
                            try clear q29
                            try clear hx29
                            try clear c30
                            try clear c30b0
                            try clear p31
                            try clear q31
                            try clear hx31
                            try clear c32
                            try clear c32b0
                            try clear c32b1
                            try clear c35
                            try clear c35b0
                            try clear c36
                            try clear c36b0
                            try clear p37
                            try clear q37
                            try clear hx37
                            try clear c38
                            try clear c38b0
                            try clear c38b1
                            try clear hcz13_0
                            try clear hcz13_1
                            try clear hcz17_0
                            try clear hcz17_1
                            try clear hcz23_0
                            try clear hcz23_1
                            try clear hcz33_0
                            try clear hcz33_1
                            try clear hcz34_0
                            try clear hcz34_1
                            try clear hcz39_0
                            try clear hcz39_1
                            try clear hcz40_0
                            try clear hcz40_1
                            try clear hfz13_0
                            try clear hfz13_1
                            try clear hfz17_0
                            try clear hfz17_1
                            try clear hfz23_0
                            try clear hfz23_1
                            try clear hfz33_0
                            try clear hfz33_1
                            try clear hfz34_0
                            try clear hfz34_1
                            try clear hfz39_0
                            try clear hfz39_1
                            try clear hfz40_0
                            try clear hfz40_1
                            try clear hx433_0
                            try clear hx434_0
                            try clear p2
                            try clear p29
                            try clear p31
                            try clear p37
                            try clear p433
                            try clear p434
                            try clear p6
                            try clear q29
                            try clear q31
                            try clear q37
                            try clear q433
                            try clear q434
                            obtain ⟨x14_4, rfl, HA, HK4, HO_429000, HO_429001, BK428, HB⟩ := hrel
                            cases gk with
                            | zero => exact absurd HA.out (by simp [laws_FnPictures.l2])
                            | succ k4 =>
                              have H := HA.out
                              clear HA
                              simp only [laws_FnPictures.l2] at H
                              by_cases c41 : x14_4 < (wrap64 (1 + t430))
                              · rw [if_pos c41] at H
                                have c41b0 : decide (x14_4 < (wrap64 (1 + t430))) = true := decide_eq_true c41
                                clear c41
                                by_cases c42 : 0 ≤ x10_2
                                · rw [if_pos c42] at H
                                  have c42b0 : decide (0 ≤ x10_2) = true := decide_eq_true c42
                                  clear c42
                                  by_cases c43 : x10_2 < (t425.length : Int)
                                  · rw [if_pos c43] at H
                                    have c43b0 : decide (x10_2 < (t425.length : Int)) = true := decide_eq_true c43
                                    clear c43
                                    by_cases c44 : (wrap64 (t429 + x14_4)) < ((rdOf ByteArray.empty t425 x10_2).size : Int)
                                    · rw [if_pos c44] at H
                                      have c44b0 : decide ((wrap64 (t429 + x14_4)) < ((rdOf ByteArray.empty t425 x10_2).size : Int)) = true := decide_eq_true c44
                                      clear c44
                                      obtain ⟨ji45, hji45⟩ : ∃ j_ : Int, (wrap64 (t429 + x14_4)) = j_ := ⟨_, rfl⟩
                                      replace H : (if 0 ≤ (ji45) then (if 0 ≤ (((bt (rdOf ByteArray.empty t425 x10_2) (ji45)) - 48) % 256) then (if (((bt (rdOf ByteArray.empty t425 x10_2) (ji45)) - 48) % 256) < 2 then (if 0 ≤ (wrap64 (10 + x14_4)) then (if (wrap64 (10 + x14_4)) < (XR.size : Int) then (if (bt XR (wrap64 (10 + x14_4))) = (bt (⟨#[95, 35]⟩ : ByteArray) (((bt (rdOf ByteArray.empty t425 x10_2) (ji45)) - 48) % 256)) then (laws_FnPictures.l2 k4 t429 (wrap64 (1 + t430)) t431 x10_2 XR (wrap64 (x14_4 + 1)) t422 t425) else (some false)) else (none)) else (none)) else (none)) else (none)) else (none)) = some r := by first | (rw [hji45] at H; exact H) | (simp only [hji45] at H ⊢; exact H)
                                      (try rw [hji45] at c44b0)
                                      have hji45w : (IntKind.i64.wrap (t429 + x14_4)) = ji45 := (i64_w _).trans hji45
                                      by_cases c46 : 0 ≤ (ji45)
                                      · rw [if_pos c46] at H
                                        have c46b0 : decide (0 ≤ (ji45)) = true := decide_eq_true c46
                                        clear c46
                                        obtain ⟨ji48, hji48⟩ : ∃ j_ : Int, (((bt (rdOf ByteArray.empty t425 x10_2) (ji45)) - 48) % 256) = j_ := ⟨_, rfl⟩
                                        replace H : (if 0 ≤ (ji48) then (if (ji48) < 2 then (if 0 ≤ (wrap64 (10 + x14_4)) then (if (wrap64 (10 + x14_4)) < (XR.size : Int) then (if (bt XR (wrap64 (10 + x14_4))) = (bt (⟨#[95, 35]⟩ : ByteArray) (ji48)) then (laws_FnPictures.l2 k4 t429 (wrap64 (1 + t430)) t431 x10_2 XR (wrap64 (x14_4 + 1)) t422 t425) else (some false)) else (none)) else (none)) else (none)) else (none)) = some r := by first | (rw [hji48] at H; exact H) | (simp only [hji48] at H ⊢; exact H)
                                        by_cases c49 : 0 ≤ (ji48)
                                        · rw [if_pos c49] at H
                                          have c49b0 : decide (0 ≤ (ji48)) = true := decide_eq_true c49
                                          clear c49
                                          by_cases c50 : (ji48) < 2
                                          · rw [if_pos c50] at H
                                            have c50b0 : decide ((ji48) < 2) = true := decide_eq_true c50
                                            clear c50
                                            obtain ⟨ji52, hji52⟩ : ∃ j_ : Int, (wrap64 (10 + x14_4)) = j_ := ⟨_, rfl⟩
                                            replace H : (if 0 ≤ (ji52) then (if (ji52) < (XR.size : Int) then (if (bt XR (ji52)) = (bt (⟨#[95, 35]⟩ : ByteArray) (ji48)) then (laws_FnPictures.l2 k4 t429 (wrap64 (1 + t430)) t431 x10_2 XR (wrap64 (x14_4 + 1)) t422 t425) else (some false)) else (none)) else (none)) = some r := by first | (rw [hji52] at H; exact H) | (simp only [hji52] at H ⊢; exact H)
                                            have hji52w : (IntKind.i64.wrap (10 + x14_4)) = ji52 := (i64_w _).trans hji52
                                            by_cases c53 : 0 ≤ (ji52)
                                            · rw [if_pos c53] at H
                                              have c53b0 : decide (0 ≤ (ji52)) = true := decide_eq_true c53
                                              clear c53
                                              by_cases c54 : (ji52) < (XR.size : Int)
                                              · rw [if_pos c54] at H
                                                have c54b0 : decide ((ji52) < (XR.size : Int)) = true := decide_eq_true c54
                                                clear c54
                                                by_cases c56 : (bt XR (ji52)) = (bt (⟨#[95, 35]⟩ : ByteArray) (ji48))
                                                · rw [if_pos c56] at H
                                                  have c56b0 : ((bt XR (ji52)) == (bt (⟨#[95, 35]⟩ : ByteArray) (ji48))) = true := beq_iff_eq.mpr c56
                                                  have c56b1 : ((bt XR (ji52)) != (bt (⟨#[95, 35]⟩ : ByteArray) (ji48))) = false := bne_eq_false_iff_eq.mpr c56
                                                  clear c56
                                                  have H' := Aside0.mk H
                                                  clear H
                                                  have hcz57_0 : wr.cell? ⟨gb428, 0, none⟩ = some (.slice Ao12 t422.length co12) := (blk_cell BK428.out 0).trans rfl
                                                  have hcz57_1 : wr.cell? ⟨gb428, 1, none⟩ = some (.slice Ao14 t425.length co14) := (blk_cell BK428.out 1).trans rfl
                                                  have hfz57_0 := blk_frozen BK428.out 0
                                                  have hfz57_1 := blk_frozen BK428.out 1
                                                  have p435 : 0 ≤ (x10_2 : Int) := of_decide_eq_true (by first | (with_reducible assumption) | assumption)
                                                  have q435 : x10_2 < (t425.length : Int) := of_decide_eq_true (by first | (with_reducible assumption) | assumption)
                                                  obtain ⟨ad435, e435, hx435_0⟩ := Kd.at_string (Kd.R_reads' HO_429001.out).2.2 x10_2 p435 q435
                                                  cases e435
                                                  replace p435 := eq_true p435
                                                  replace q435 := eq_true q435
                                                  have p436 : 0 ≤ (x10_2 : Int) := of_decide_eq_true (by first | (with_reducible assumption) | assumption)
                                                  have q436 : x10_2 < (t425.length : Int) := of_decide_eq_true (by first | (with_reducible assumption) | assumption)
                                                  obtain ⟨ad436, e436, hx436_0⟩ := Kd.at_string (Kd.R_reads' HO_429001.out).2.2 x10_2 p436 q436
                                                  obtain rfl : ad435 = ad436 := (by injection e436)
                                                  replace p436 := eq_true p436
                                                  replace q436 := eq_true q436
                                                  have p47 : 0 ≤ ((ji45) : Int) := of_decide_eq_true (by first | (with_reducible assumption) | assumption)
                                                  have q47 : (ji45) < ((rdOf ByteArray.empty t425 x10_2).size : Int) := of_decide_eq_true (by first | (with_reducible assumption) | assumption)
                                                  have hx47 := bt_at (rdOf ByteArray.empty t425 x10_2) (ji45)
                                                  replace p47 := eq_true p47
                                                  replace q47 := eq_true q47
                                                  have p51 : 0 ≤ ((ji48) : Int) := of_decide_eq_true (by first | (with_reducible assumption) | assumption)
                                                  have q51 : (ji48) < (2 : Int) := of_decide_eq_true (by first | (with_reducible assumption) | assumption)
                                                  have hx51 := bt_at (⟨#[95, 35]⟩ : ByteArray) (ji48)
                                                  replace p51 := eq_true p51
                                                  replace q51 := eq_true q51
                                                  have p55 : 0 ≤ ((ji52) : Int) := of_decide_eq_true (by first | (with_reducible assumption) | assumption)
                                                  have q55 : (ji52) < (XR.size : Int) := of_decide_eq_true (by first | (with_reducible assumption) | assumption)
                                                  have hx55 := bt_at XR (ji52)
                                                  replace p55 := eq_true p55
                                                  replace q55 := eq_true q55
                                                  go_wp2
                                                  go_roundg k4
                                                  case measure => have := HJ8.out; have := HK2.out; have := HK3.out; have := HK4.out; omega
                                                  case rel => exact ⟨(wrap64 (x14_4 + 1)), (by first | rfl | (simp; done) | (simp [*]; done)), H', ⟨by have := HJ8.out; have := HK2.out; have := HK3.out; have := HK4.out; omega⟩, ⟨by (with_reducible repeat (first | apply Kd.R_alloc | apply Kd.R_drewN | apply Kd.R_drew)); exact HO_429000.out⟩, ⟨by (with_reducible repeat (first | apply Kd.R_alloc | apply Kd.R_drewN | apply Kd.R_drew)); exact HO_429001.out⟩, ⟨by (with_reducible repeat (first | refine blk_drewN ?_ _ | refine blk_drew ?_ | refine blk_alloc ?_ _)); exact BK428.out⟩, ⟨by repeat (first | (with_reducible first | exact HB.out | apply below_alloc | apply pw_below_drewN | apply below_drew1 | refine below_set ?_ GE428.out) | exact HB.out)⟩⟩
                                                · rw [if_neg c56] at H
                                                  have c56b0 : ((bt XR (ji52)) == (bt (⟨#[95, 35]⟩ : ByteArray) (ji48))) = false := beq_eq_false_iff_ne.mpr c56
                                                  have c56b1 : ((bt XR (ji52)) != (bt (⟨#[95, 35]⟩ : ByteArray) (ji48))) = true := bne_iff_ne.mpr c56
                                                  obtain rfl := Option.some.inj H
                                                  have hcz58_0 : wr.cell? ⟨gb428, 0, none⟩ = some (.slice Ao12 t422.length co12) := (blk_cell BK428.out 0).trans rfl
                                                  have hcz58_1 : wr.cell? ⟨gb428, 1, none⟩ = some (.slice Ao14 t425.length co14) := (blk_cell BK428.out 1).trans rfl
                                                  have hfz58_0 := blk_frozen BK428.out 0
                                                  have hfz58_1 := blk_frozen BK428.out 1
                                                  have p435 : 0 ≤ (x10_2 : Int) := of_decide_eq_true (by first | (with_reducible assumption) | assumption)
                                                  have q435 : x10_2 < (t425.length : Int) := of_decide_eq_true (by first | (with_reducible assumption) | assumption)
                                                  obtain ⟨ad435, e435, hx435_0⟩ := Kd.at_string (Kd.R_reads' HO_429001.out).2.2 x10_2 p435 q435
                                                  cases e435
                                                  replace p435 := eq_true p435
                                                  replace q435 := eq_true q435
                                                  have p436 : 0 ≤ (x10_2 : Int) := of_decide_eq_true (by first | (with_reducible assumption) | assumption)
                                                  have q436 : x10_2 < (t425.length : Int) := of_decide_eq_true (by first | (with_reducible assumption) | assumption)
                                                  obtain ⟨ad436, e436, hx436_0⟩ := Kd.at_string (Kd.R_reads' HO_429001.out).2.2 x10_2 p436 q436
                                                  obtain rfl : ad435 = ad436 := (by injection e436)
                                                  replace p436 := eq_true p436
                                                  replace q436 := eq_true q436
                                                  have p47 : 0 ≤ ((ji45) : Int) := of_decide_eq_true (by first | (with_reducible assumption) | assumption)
                                                  have q47 : (ji45) < ((rdOf ByteArray.empty t425 x10_2).size : Int) := of_decide_eq_true (by first | (with_reducible assumption) | assumption)
                                                  have hx47 := bt_at (rdOf ByteArray.empty t425 x10_2) (ji45)
                                                  replace p47 := eq_true p47
                                                  replace q47 := eq_true q47
                                                  have p51 : 0 ≤ ((ji48) : Int) := of_decide_eq_true (by first | (with_reducible assumption) | assumption)
                                                  have q51 : (ji48) < (2 : Int) := of_decide_eq_true (by first | (with_reducible assumption) | assumption)
                                                  have hx51 := bt_at (⟨#[95, 35]⟩ : ByteArray) (ji48)
                                                  replace p51 := eq_true p51
                                                  replace q51 := eq_true q51
                                                  have p55 : 0 ≤ ((ji52) : Int) := of_decide_eq_true (by first | (with_reducible assumption) | assumption)
                                                  have q55 : (ji52) < (XR.size : Int) := of_decide_eq_true (by first | (with_reducible assumption) | assumption)
                                                  have hx55 := bt_at XR (ji52)
                                                  replace p55 := eq_true p55
                                                  replace q55 := eq_true q55
                                                  go_wp2
                                                  go_ret
                                                  exact ⟨by first | rfl | (simp [errW_none, errW_some] <;> rfl) | (simp only [← hji20, ← hji45, ← hji48, ← hji52]; first | rfl | (simp [errW_none, errW_some] <;> rfl)) | (simp [*, errW_none, errW_some] <;> rfl), by repeat (first | (with_reducible first | exact HB.out | apply below_alloc | apply pw_below_drewN | apply below_drew1 | refine below_set ?_ GE428.out) | exact HB.out)⟩
                                              · rw [if_neg c54] at H
                                                exact absurd H (by simp)
                                            · rw [if_neg c53] at H
                                              exact absurd H (by simp)
                                          · rw [if_neg c50] at H
                                            exact absurd H (by simp)
                                        · rw [if_neg c49] at H
                                          exact absurd H (by simp)
                                      · rw [if_neg c46] at H
                                        exact absurd H (by simp)
                                    · rw [if_neg c44] at H
                                      have c44b0 : decide ((wrap64 (t429 + x14_4)) < ((rdOf ByteArray.empty t425 x10_2).size : Int)) = false := decide_eq_false c44
                                      clear c44
                                      obtain ⟨ji59, hji59⟩ : ∃ j_ : Int, (wrap64 (10 + x14_4)) = j_ := ⟨_, rfl⟩
                                      replace H : (if 0 ≤ (ji59) then (if (ji59) < (XR.size : Int) then (if (bt XR (ji59)) = 32 then (laws_FnPictures.l2 k4 t429 (wrap64 (1 + t430)) t431 x10_2 XR (wrap64 (x14_4 + 1)) t422 t425) else (some false)) else (none)) else (none)) = some r := by first | (rw [hji59] at H; exact H) | (simp only [hji59] at H ⊢; exact H)
                                      have hji59w : (IntKind.i64.wrap (10 + x14_4)) = ji59 := (i64_w _).trans hji59
                                      by_cases c60 : 0 ≤ (ji59)
                                      · rw [if_pos c60] at H
                                        have c60b0 : decide (0 ≤ (ji59)) = true := decide_eq_true c60
                                        clear c60
                                        by_cases c61 : (ji59) < (XR.size : Int)
                                        · rw [if_pos c61] at H
                                          have c61b0 : decide ((ji59) < (XR.size : Int)) = true := decide_eq_true c61
                                          clear c61
                                          by_cases c63 : (bt XR (ji59)) = 32
                                          · rw [if_pos c63] at H
                                            have c63b0 : ((bt XR (ji59)) == 32) = true := beq_iff_eq.mpr c63
                                            have c63b1 : ((bt XR (ji59)) != 32) = false := bne_eq_false_iff_eq.mpr c63
                                            clear c63
                                            have H' := Aside0.mk H
                                            clear H
                                            have hcz64_0 : wr.cell? ⟨gb428, 0, none⟩ = some (.slice Ao12 t422.length co12) := (blk_cell BK428.out 0).trans rfl
                                            have hcz64_1 : wr.cell? ⟨gb428, 1, none⟩ = some (.slice Ao14 t425.length co14) := (blk_cell BK428.out 1).trans rfl
                                            have hfz64_0 := blk_frozen BK428.out 0
                                            have hfz64_1 := blk_frozen BK428.out 1
                                            have p435 : 0 ≤ (x10_2 : Int) := of_decide_eq_true (by first | (with_reducible assumption) | assumption)
                                            have q435 : x10_2 < (t425.length : Int) := of_decide_eq_true (by first | (with_reducible assumption) | assumption)
                                            obtain ⟨ad435, e435, hx435_0⟩ := Kd.at_string (Kd.R_reads' HO_429001.out).2.2 x10_2 p435 q435
                                            cases e435
                                            replace p435 := eq_true p435
                                            replace q435 := eq_true q435
                                            have p62 : 0 ≤ ((ji59) : Int) := of_decide_eq_true (by first | (with_reducible assumption) | assumption)
                                            have q62 : (ji59) < (XR.size : Int) := of_decide_eq_true (by first | (with_reducible assumption) | assumption)
                                            have hx62 := bt_at XR (ji59)
                                            replace p62 := eq_true p62
                                            replace q62 := eq_true q62
                                            go_wp2
                                            go_roundg k4
                                            case measure => have := HJ8.out; have := HK2.out; have := HK3.out; have := HK4.out; omega
                                            case rel => exact ⟨(wrap64 (x14_4 + 1)), (by first | rfl | (simp; done) | (simp [*]; done)), H', ⟨by have := HJ8.out; have := HK2.out; have := HK3.out; have := HK4.out; omega⟩, ⟨by (with_reducible repeat (first | apply Kd.R_alloc | apply Kd.R_drewN | apply Kd.R_drew)); exact HO_429000.out⟩, ⟨by (with_reducible repeat (first | apply Kd.R_alloc | apply Kd.R_drewN | apply Kd.R_drew)); exact HO_429001.out⟩, ⟨by (with_reducible repeat (first | refine blk_drewN ?_ _ | refine blk_drew ?_ | refine blk_alloc ?_ _)); exact BK428.out⟩, ⟨by repeat (first | (with_reducible first | exact HB.out | apply below_alloc | apply pw_below_drewN | apply below_drew1 | refine below_set ?_ GE428.out) | exact HB.out)⟩⟩
                                          · rw [if_neg c63] at H
                                            have c63b0 : ((bt XR (ji59)) == 32) = false := beq_eq_false_iff_ne.mpr c63
                                            have c63b1 : ((bt XR (ji59)) != 32) = true := bne_iff_ne.mpr c63
                                            obtain rfl := Option.some.inj H
                                            have hcz65_0 : wr.cell? ⟨gb428, 0, none⟩ = some (.slice Ao12 t422.length co12) := (blk_cell BK428.out 0).trans rfl
                                            have hcz65_1 : wr.cell? ⟨gb428, 1, none⟩ = some (.slice Ao14 t425.length co14) := (blk_cell BK428.out 1).trans rfl
                                            have hfz65_0 := blk_frozen BK428.out 0
                                            have hfz65_1 := blk_frozen BK428.out 1
                                            have p435 : 0 ≤ (x10_2 : Int) := of_decide_eq_true (by first | (with_reducible assumption) | assumption)
                                            have q435 : x10_2 < (t425.length : Int) := of_decide_eq_true (by first | (with_reducible assumption) | assumption)
                                            obtain ⟨ad435, e435, hx435_0⟩ := Kd.at_string (Kd.R_reads' HO_429001.out).2.2 x10_2 p435 q435
                                            cases e435
                                            replace p435 := eq_true p435
                                            replace q435 := eq_true q435
                                            have p62 : 0 ≤ ((ji59) : Int) := of_decide_eq_true (by first | (with_reducible assumption) | assumption)
                                            have q62 : (ji59) < (XR.size : Int) := of_decide_eq_true (by first | (with_reducible assumption) | assumption)
                                            have hx62 := bt_at XR (ji59)
                                            replace p62 := eq_true p62
                                            replace q62 := eq_true q62
                                            go_wp2
                                            go_ret
                                            exact ⟨by first | rfl | (simp [errW_none, errW_some] <;> rfl) | (simp only [← hji20, ← hji59]; first | rfl | (simp [errW_none, errW_some] <;> rfl)) | (simp [*, errW_none, errW_some] <;> rfl), by repeat (first | (with_reducible first | exact HB.out | apply below_alloc | apply pw_below_drewN | apply below_drew1 | refine below_set ?_ GE428.out) | exact HB.out)⟩
                                        · rw [if_neg c61] at H
                                          exact absurd H (by simp)
                                      · rw [if_neg c60] at H
                                        exact absurd H (by simp)
                                  · rw [if_neg c43] at H
                                    exact absurd H (by simp)
                                · rw [if_neg c42] at H
                                  exact absurd H (by simp)
                              · rw [if_neg c41] at H
                                have c41b0 : decide (x14_4 < (wrap64 (1 + t430))) = false := decide_eq_false c41
                                clear c41
                                obtain ⟨ji66, hji66⟩ : ∃ j_ : Int, (wrap64 (10 + (wrap64 (1 + t430)))) = j_ := ⟨_, rfl⟩
                                replace H : (if 0 ≤ (ji66) then (if (ji66) < (XR.size : Int) then (if (bt XR (ji66)) = 10 then (laws_FnPictures.l0 k4 t429 (wrap64 (1 + t430)) t431 (wrap64 (x10_2 + 1)) t422 t425) else (some false)) else (none)) else (none)) = some r := by first | (rw [hji66] at H; exact H) | (simp only [hji66] at H ⊢; exact H)
                                have hji66w : (IntKind.i64.wrap (10 + (wrap64 (1 + t430)))) = ji66 := (i64_w _).trans hji66
                                by_cases c67 : 0 ≤ (ji66)
                                · rw [if_pos c67] at H
                                  have c67b0 : decide (0 ≤ (ji66)) = true := decide_eq_true c67
                                  clear c67
                                  by_cases c68 : (ji66) < (XR.size : Int)
                                  · rw [if_pos c68] at H
                                    have c68b0 : decide ((ji66) < (XR.size : Int)) = true := decide_eq_true c68
                                    clear c68
                                    by_cases c70 : (bt XR (ji66)) = 10
                                    · rw [if_pos c70] at H
                                      have c70b0 : ((bt XR (ji66)) == 10) = true := beq_iff_eq.mpr c70
                                      have c70b1 : ((bt XR (ji66)) != 10) = false := bne_eq_false_iff_eq.mpr c70
                                      clear c70
                                      have H' := Aside0.mk H
                                      clear H
                                      have p69 : 0 ≤ ((ji66) : Int) := of_decide_eq_true (by first | (with_reducible assumption) | assumption)
                                      have q69 : (ji66) < (XR.size : Int) := of_decide_eq_true (by first | (with_reducible assumption) | assumption)
                                      have hx69 := bt_at XR (ji66)
                                      replace p69 := eq_true p69
                                      replace q69 := eq_true q69
                                      go_wp2
                                      go_roundg k4
                                      case measure => have := HJ8.out; have := HK2.out; have := HK3.out; have := HK4.out; omega
                                      case rel => exact ⟨(wrap64 (x10_2 + 1)), (by first | rfl | (simp; done) | (simp [*]; done)), H', ⟨by have := HJ8.out; have := HK2.out; have := HK3.out; have := HK4.out; omega⟩, ⟨by (with_reducible repeat (first | apply Kd.R_alloc | apply Kd.R_drewN | apply Kd.R_drew)); exact HO_429000.out⟩, ⟨by (with_reducible repeat (first | apply Kd.R_alloc | apply Kd.R_drewN | apply Kd.R_drew)); exact HO_429001.out⟩, ⟨by (with_reducible repeat (first | refine blk_drewN ?_ _ | refine blk_drew ?_ | refine blk_alloc ?_ _)); exact BK428.out⟩, ⟨by repeat (first | (with_reducible first | exact HB.out | apply below_alloc | apply pw_below_drewN | apply below_drew1 | refine below_set ?_ GE428.out) | exact HB.out)⟩⟩
                                    · rw [if_neg c70] at H
                                      have c70b0 : ((bt XR (ji66)) == 10) = false := beq_eq_false_iff_ne.mpr c70
                                      have c70b1 : ((bt XR (ji66)) != 10) = true := bne_iff_ne.mpr c70
                                      obtain rfl := Option.some.inj H
                                      have p69 : 0 ≤ ((ji66) : Int) := of_decide_eq_true (by first | (with_reducible assumption) | assumption)
                                      have q69 : (ji66) < (XR.size : Int) := of_decide_eq_true (by first | (with_reducible assumption) | assumption)
                                      have hx69 := bt_at XR (ji66)
                                      replace p69 := eq_true p69
                                      replace q69 := eq_true q69
                                      go_wp2
                                      go_ret
                                      exact ⟨by first | rfl | (simp [errW_none, errW_some] <;> rfl) | (simp only [← hji20, ← hji66]; first | rfl | (simp [errW_none, errW_some] <;> rfl)) | (simp [*, errW_none, errW_some] <;> rfl), by repeat (first | (with_reducible first | exact HB.out | apply below_alloc | apply pw_below_drewN | apply below_drew1 | refine below_set ?_ GE428.out) | exact HB.out)⟩
                                  · rw [if_neg c68] at H
                                    exact absurd H (by simp)
                                · rw [if_neg c67] at H
                                  exact absurd H (by simp)
                  · rw [if_neg c22] at H
                    exact absurd H (by simp)
                · rw [if_neg c21] at H
                  exact absurd H (by simp)
              · rw [if_neg c19] at H
                have c19b0 : decide (x10_2 < (t422.length : Int)) = false := decide_eq_false c19
                clear c19
                obtain rfl := Option.some.inj H
                have hcz71_0 : wr.cell? ⟨gb428, 0, none⟩ = some (.slice Ao12 t422.length co12) := (blk_cell BK428.out 0).trans rfl
                have hcz71_1 : wr.cell? ⟨gb428, 1, none⟩ = some (.slice Ao14 t425.length co14) := (blk_cell BK428.out 1).trans rfl
                have hfz71_0 := blk_frozen BK428.out 0
                have hfz71_1 := blk_frozen BK428.out 1
                go_wp2
                go_ret
                exact ⟨by first | rfl | (simp [errW_none, errW_some] <;> rfl) | (simp [*, errW_none, errW_some] <;> rfl), by repeat (first | (with_reducible first | exact HB.out | apply below_alloc | apply pw_below_drewN | apply below_drew1 | refine below_set ?_ GE428.out) | exact HB.out)⟩

end Go.Proofs.YtjpjlobpglmoiaaDoor.A
