-- Printed by this session's oprint.py through the kit's printer.
import Derived.Test.YtbemhcdklmcbcaaGreatDoorQ22
import Derived.Test.YtbemhcdklmcbcaaGreatDoorQ27
import Derived.Test.YtbemhcdklmcbcaaGreatDoorQ23
namespace Go.Proofs.YtbemhcdklmcbcaaGreatDoor.A
open Go.RowKit Go.Proofs.YtbemhcdklmcbcaaGreatDoorW.PrintWords Go.Proofs.YtbemhcdklmcbcaaGreatDoorW.PrintLast Go.Proofs.YtbemhcdklmcbcaaGreatDoorW.PrintMore
attribute [local go_sem] max2_int min2_int max_two min_two max_three min_three max_four min_four   -- for this text's walks alone
set_option linter.unusedVariables false
set_option linter.unusedSimpArgs false

attribute [local go_sem high] eqA25
/-! ### laws_FnNumbers: function 3 -/
mutual
def laws_FnNumbers.j0 : Nat → List Int → List Int → Bool → Int → Int → Int → Int → Int → Int → Option (Bool)
 | 0, _, _, _, _, _, _, _, _, _ => none
 | k + 1, x0, x1, x148, x250000, x250001, x253000, x253001, x265000, x265001 => if x148 = true then (none) else ((impl_DivFractions.f x265000 x265001 x253000 x253001).bind fun bt281 => (if (bt281.2.2 != (x253000 != 0)) = true then (none) else (if bt281.2.2 = true then (laws_FnNumbers.j1 k x0 x1 (!(bt281.1 == x250000) || (!(bt281.2.1 == x250001))) x250000 x250001) else (laws_FnNumbers.j1 k x0 x1 false x250000 x250001))))
def laws_FnNumbers.j1 : Nat → List Int → List Int → Bool → Int → Int → Option (Bool)
 | 0, _, _, _, _, _ => none
 | k + 1, x0, x1, x167, x250000, x250001 => if x167 = true then (none) else ((laws_b10At.f x0 1 256).bind fun t285 => ((laws_b10At.f x1 1 256).bind fun t286 => ((impl_GcdOf.f k (wrap64 (1 + t285)) (wrap64 (1 + t286))).bind fun bt287 => ((impl_LcmOf.f k (wrap64 (1 + t285)) (wrap64 (1 + t286))).bind fun bt289 => ((impl_MakeFraction.f (wrap64 ((-6) * x250000)) (wrap64 ((-6) * x250001))).bind fun bt291 => (if bt287.2 = true then (if bt289.2 = true then (if bt291.2.2 = true then (if bt287.1 ≥ 1 then (if bt287.1 = 0 then (none) else (if (Int.tmod (wrap64 (1 + t285)) bt287.1) = 0 then (if (Int.tmod (wrap64 (1 + t286)) bt287.1) = 0 then (if (wrap64 (1 + t285)) = 0 then (none) else (if (Int.tmod bt289.1 (wrap64 (1 + t285))) = 0 then (if (wrap64 (1 + t286)) = 0 then (none) else (if (Int.tmod bt289.1 (wrap64 (1 + t286))) = 0 then (if (wrap64 (bt287.1 * bt289.1)) = (wrap64 ((wrap64 (1 + t285)) * (wrap64 (1 + t286)))) then (some (bt291.1 == x250000 && (bt291.2.1 == x250001))) else (none)) else (none))) else (none))) else (none)) else (none))) else (none)) else (none)) else (none)) else (none)))))))
end
def laws_FnNumbers.f (k : Nat) (l0 : List Int) (l1 : List Int) : Option (Bool) := (laws_b10Long.f l0 l1).bind fun t246 => (if t246 = true then (some true) else ((spec_B10Fraction.f k l0).bind fun bt247 => ((spec_B10Fraction.f k l1).bind fun bt250 => ((impl_AddFractions.f bt247.1 bt247.2 bt250.1 bt250.2).bind fun bt253 => ((impl_SubFractions.f bt253.1 bt253.2.1 bt250.1 bt250.2).bind fun bt257 => ((impl_MulFractions.f bt247.1 bt247.2 bt250.1 bt250.2).bind fun bt261 => ((impl_FractionText.f k bt247.1 bt247.2).bind fun bt265 => ((impl_ReadFraction.f k bt265.1).bind fun bt267 => ((impl_SumFractions.f (([(⟨bt247.1, bt247.2⟩ : S25), (⟨bt250.1, bt250.2⟩ : S25)] : List (S25)))).bind fun bt274 => ((impl_CompareFractions.f bt247.1 bt247.2 bt250.1 bt250.2).bind fun bt278 => (if bt253.2.2 = true then (if bt257.2.2 = true then (if bt261.2.2 = true then (if bt265.2 = true then (if bt267.2.2 = true then (if bt274.2.2 = true then (if bt278.2 = true then (if (!(bt257.1 == bt247.1) || (!(bt257.2.1 == bt247.2))) = true then (none) else (if (!(bt267.1 == bt247.1) || (!(bt267.2.1 == bt247.2))) = true then (none) else (if (!(bt274.1 == bt253.1) || (!(bt274.2.1 == bt253.2.1))) = true then (none) else ((impl_ValidFraction.f k bt261.1 bt261.2.1).bind fun t280 => (if t280 = true then (if ((decide (bt278.1 < 0)) != (decide ((wrap64 (bt247.1 * bt250.2)) < (wrap64 (bt250.1 * bt247.2))))) = true then (none) else (laws_FnNumbers.j0 k l0 l1 ((bt278.1 == 0) != (bt247.1 == bt250.1 && (bt247.2 == bt250.2))) bt247.1 bt247.2 bt250.1 bt250.2 bt261.1 bt261.2.1)) else (none)))))) else (none)) else (none)) else (none)) else (none)) else (none)) else (none)) else (none))))))))))))
set_option maxHeartbeats 8000000 in
set_option maxRecDepth 100000 in
theorem laws_FnNumbers.calls (k : Nat) (A0 : Option Addr) (c0 : Nat) (l0 : List Int) (A1 : Option Addr) (c1 : Nat) (l1 : List Int) (r : Bool) (w : World) (hr0 : Kd.C (Kd.int .u8) w A0 l0.length l0) (hc0 : l0.length ≤ c0) (hr1 : Kd.C (Kd.int .u8) w A1 l1.length l1) (hc1 : l1.length ≤ c1) (hT0 : TabOk w) (h : laws_FnNumbers.f k l0 l1 = some r) :
  Calls Tryz.prog 3 #[.slice A0 l0.length c0, .slice A1 l1.length c1] w fun e w' => e = .returned (.bool r) ∧ Below w.heap.size w w' := by
 have HT0 := Aside0.mk hT0
 clear hT0
 have hu25 := Tryz.underlying25
 have HR0 := Aside0.mk hr0
 have HC0 := Aside0.mk hc0
 clear hr0 hc0
 have HR1 := Aside0.mk hr1
 have HC1 := Aside0.mk hc1
 clear hr1 hc1
 have HB := Aside0.mk (Below.refl w.heap.size w)
 have H : ((laws_b10Long.f l0 l1).bind fun t246 => (if t246 = true then (some true) else ((spec_B10Fraction.f k l0).bind fun bt247 => ((spec_B10Fraction.f k l1).bind fun bt250 => ((impl_AddFractions.f bt247.1 bt247.2 bt250.1 bt250.2).bind fun bt253 => ((impl_SubFractions.f bt253.1 bt253.2.1 bt250.1 bt250.2).bind fun bt257 => ((impl_MulFractions.f bt247.1 bt247.2 bt250.1 bt250.2).bind fun bt261 => ((impl_FractionText.f k bt247.1 bt247.2).bind fun bt265 => ((impl_ReadFraction.f k bt265.1).bind fun bt267 => ((impl_SumFractions.f (([(⟨bt247.1, bt247.2⟩ : S25), (⟨bt250.1, bt250.2⟩ : S25)] : List (S25)))).bind fun bt274 => ((impl_CompareFractions.f bt247.1 bt247.2 bt250.1 bt250.2).bind fun bt278 => (if bt253.2.2 = true then (if bt257.2.2 = true then (if bt261.2.2 = true then (if bt265.2 = true then (if bt267.2.2 = true then (if bt274.2.2 = true then (if bt278.2 = true then (if (!(bt257.1 == bt247.1) || (!(bt257.2.1 == bt247.2))) = true then (none) else (if (!(bt267.1 == bt247.1) || (!(bt267.2.1 == bt247.2))) = true then (none) else (if (!(bt274.1 == bt253.1) || (!(bt274.2.1 == bt253.2.1))) = true then (none) else ((impl_ValidFraction.f k bt261.1 bt261.2.1).bind fun t280 => (if t280 = true then (if ((decide (bt278.1 < 0)) != (decide ((wrap64 (bt247.1 * bt250.2)) < (wrap64 (bt250.1 * bt247.2))))) = true then (none) else (laws_FnNumbers.j0 k l0 l1 ((bt278.1 == 0) != (bt247.1 == bt250.1 && (bt247.2 == bt250.2))) bt247.1 bt247.2 bt250.1 bt250.2 bt261.1 bt261.2.1)) else (none)))))) else (none)) else (none)) else (none)) else (none)) else (none)) else (none)) else (none))))))))))))) = some r := h
 clear h
 replace H := Option.bind_eq_some_iff.mp H
 obtain ⟨t246, A30, H⟩ := H
 replace H : (if t246 = true then (some true) else ((spec_B10Fraction.f k l0).bind fun bt247 => ((spec_B10Fraction.f k l1).bind fun bt250 => ((impl_AddFractions.f bt247.1 bt247.2 bt250.1 bt250.2).bind fun bt253 => ((impl_SubFractions.f bt253.1 bt253.2.1 bt250.1 bt250.2).bind fun bt257 => ((impl_MulFractions.f bt247.1 bt247.2 bt250.1 bt250.2).bind fun bt261 => ((impl_FractionText.f k bt247.1 bt247.2).bind fun bt265 => ((impl_ReadFraction.f k bt265.1).bind fun bt267 => ((impl_SumFractions.f (([(⟨bt247.1, bt247.2⟩ : S25), (⟨bt250.1, bt250.2⟩ : S25)] : List (S25)))).bind fun bt274 => ((impl_CompareFractions.f bt247.1 bt247.2 bt250.1 bt250.2).bind fun bt278 => (if bt253.2.2 = true then (if bt257.2.2 = true then (if bt261.2.2 = true then (if bt265.2 = true then (if bt267.2.2 = true then (if bt274.2.2 = true then (if bt278.2 = true then (if (!(bt257.1 == bt247.1) || (!(bt257.2.1 == bt247.2))) = true then (none) else (if (!(bt267.1 == bt247.1) || (!(bt267.2.1 == bt247.2))) = true then (none) else (if (!(bt274.1 == bt253.1) || (!(bt274.2.1 == bt253.2.1))) = true then (none) else ((impl_ValidFraction.f k bt261.1 bt261.2.1).bind fun t280 => (if t280 = true then (if ((decide (bt278.1 < 0)) != (decide ((wrap64 (bt247.1 * bt250.2)) < (wrap64 (bt250.1 * bt247.2))))) = true then (none) else (laws_FnNumbers.j0 k l0 l1 ((bt278.1 == 0) != (bt247.1 == bt250.1 && (bt247.2 == bt250.2))) bt247.1 bt247.2 bt250.1 bt250.2 bt261.1 bt261.2.1)) else (none)))))) else (none)) else (none)) else (none)) else (none)) else (none)) else (none)) else (none)))))))))))) = some r := H
 have A3 := Aside0.mk A30
 clear A30
 by_cases c4 : t246 = true
 ·subst c4
  have H1 : (some true) = some r := by rw [if_pos rfl] at H; exact H
  clear H
  have H := H1
  clear H1
  as_aux_lemma =>
   obtain rfl := Option.some.inj H
   go_enter Tryz.func3, Tryz.ntmps3
   go_wp2_with (first | ((with_reducible refine gate_callee (f := 4) rfl ?_); refine goesL_ (some 33) rfl rfl Tryz.func4 (by kernel_rfl) rfl #[.slice A0 l0.length c0, .slice A1 l1.length c1] rfl (by (try simp only [List.map_toArray, List.map_cons, List.map_nil]); first | done | rfl | (simp only [List.length_drop, List.length_take]; rfl)) ?_; (with_reducible refine (laws_b10Long.calls _ _ l0 _ _ l1 true _ ?side1 ?side2 ?side3 ?side4 A3.out).mono ?_); (case side1 => repeat (first | exact HR0.out | (with_reducible refine Kd.C_alloc ?_ _) | (with_reducible refine Kd.C_drewN ?_ _) | (with_reducible refine Kd.C_drew ?_))); (case side2 => exact HC0.out); (case side3 => repeat (first | exact HR1.out | (with_reducible refine Kd.C_alloc ?_ _) | (with_reducible refine Kd.C_drewN ?_ _) | (with_reducible refine Kd.C_drew ?_))); (case side4 => exact HC1.out); rintro e w' ⟨rfl, ⟨nd, rfl⟩⟩; refine ⟨_, rfl, ?_⟩))
   go_ret
   exact ⟨by first | rfl | (simp [errW_none, errW_some] <;> rfl) | (simp [*, errW_none, errW_some] <;> rfl), by repeat (first | (with_reducible first | exact HB.out | apply below_alloc | apply pw_below_drewN | apply below_drew1) | exact HB.out)⟩
 ·replace c4 := Bool.eq_false_iff.mpr c4
  subst c4
  have H1 : ((spec_B10Fraction.f k l0).bind fun bt247 => ((spec_B10Fraction.f k l1).bind fun bt250 => ((impl_AddFractions.f bt247.1 bt247.2 bt250.1 bt250.2).bind fun bt253 => ((impl_SubFractions.f bt253.1 bt253.2.1 bt250.1 bt250.2).bind fun bt257 => ((impl_MulFractions.f bt247.1 bt247.2 bt250.1 bt250.2).bind fun bt261 => ((impl_FractionText.f k bt247.1 bt247.2).bind fun bt265 => ((impl_ReadFraction.f k bt265.1).bind fun bt267 => ((impl_SumFractions.f (([(⟨bt247.1, bt247.2⟩ : S25), (⟨bt250.1, bt250.2⟩ : S25)] : List (S25)))).bind fun bt274 => ((impl_CompareFractions.f bt247.1 bt247.2 bt250.1 bt250.2).bind fun bt278 => (if bt253.2.2 = true then (if bt257.2.2 = true then (if bt261.2.2 = true then (if bt265.2 = true then (if bt267.2.2 = true then (if bt274.2.2 = true then (if bt278.2 = true then (if (!(bt257.1 == bt247.1) || (!(bt257.2.1 == bt247.2))) = true then (none) else (if (!(bt267.1 == bt247.1) || (!(bt267.2.1 == bt247.2))) = true then (none) else (if (!(bt274.1 == bt253.1) || (!(bt274.2.1 == bt253.2.1))) = true then (none) else ((impl_ValidFraction.f k bt261.1 bt261.2.1).bind fun t280 => (if t280 = true then (if ((decide (bt278.1 < 0)) != (decide ((wrap64 (bt247.1 * bt250.2)) < (wrap64 (bt250.1 * bt247.2))))) = true then (none) else (laws_FnNumbers.j0 k l0 l1 ((bt278.1 == 0) != (bt247.1 == bt250.1 && (bt247.2 == bt250.2))) bt247.1 bt247.2 bt250.1 bt250.2 bt261.1 bt261.2.1)) else (none)))))) else (none)) else (none)) else (none)) else (none)) else (none)) else (none)) else (none))))))))))) = some r := by rw [if_neg (show ¬ (false = true) by decide)] at H; exact H
  clear H
  have H := H1
  clear H1
  replace H := Option.bind_eq_some_iff.mp H
  obtain ⟨⟨t247, t248⟩, A50, H⟩ := H
  replace H : ((spec_B10Fraction.f k l1).bind fun bt250 => ((impl_AddFractions.f t247 t248 bt250.1 bt250.2).bind fun bt253 => ((impl_SubFractions.f bt253.1 bt253.2.1 bt250.1 bt250.2).bind fun bt257 => ((impl_MulFractions.f t247 t248 bt250.1 bt250.2).bind fun bt261 => ((impl_FractionText.f k t247 t248).bind fun bt265 => ((impl_ReadFraction.f k bt265.1).bind fun bt267 => ((impl_SumFractions.f (([(⟨t247, t248⟩ : S25), (⟨bt250.1, bt250.2⟩ : S25)] : List (S25)))).bind fun bt274 => ((impl_CompareFractions.f t247 t248 bt250.1 bt250.2).bind fun bt278 => (if bt253.2.2 = true then (if bt257.2.2 = true then (if bt261.2.2 = true then (if bt265.2 = true then (if bt267.2.2 = true then (if bt274.2.2 = true then (if bt278.2 = true then (if (!(bt257.1 == t247) || (!(bt257.2.1 == t248))) = true then (none) else (if (!(bt267.1 == t247) || (!(bt267.2.1 == t248))) = true then (none) else (if (!(bt274.1 == bt253.1) || (!(bt274.2.1 == bt253.2.1))) = true then (none) else ((impl_ValidFraction.f k bt261.1 bt261.2.1).bind fun t280 => (if t280 = true then (if ((decide (bt278.1 < 0)) != (decide ((wrap64 (t247 * bt250.2)) < (wrap64 (bt250.1 * t248))))) = true then (none) else (laws_FnNumbers.j0 k l0 l1 ((bt278.1 == 0) != (t247 == bt250.1 && (t248 == bt250.2))) t247 t248 bt250.1 bt250.2 bt261.1 bt261.2.1)) else (none)))))) else (none)) else (none)) else (none)) else (none)) else (none)) else (none)) else (none)))))))))) = some r := H
  have A5 := Aside0.mk A50
  clear A50
  replace H := Option.bind_eq_some_iff.mp H
  obtain ⟨⟨t250, t251⟩, A60, H⟩ := H
  replace H : ((impl_AddFractions.f t247 t248 t250 t251).bind fun bt253 => ((impl_SubFractions.f bt253.1 bt253.2.1 t250 t251).bind fun bt257 => ((impl_MulFractions.f t247 t248 t250 t251).bind fun bt261 => ((impl_FractionText.f k t247 t248).bind fun bt265 => ((impl_ReadFraction.f k bt265.1).bind fun bt267 => ((impl_SumFractions.f (([(⟨t247, t248⟩ : S25), (⟨t250, t251⟩ : S25)] : List (S25)))).bind fun bt274 => ((impl_CompareFractions.f t247 t248 t250 t251).bind fun bt278 => (if bt253.2.2 = true then (if bt257.2.2 = true then (if bt261.2.2 = true then (if bt265.2 = true then (if bt267.2.2 = true then (if bt274.2.2 = true then (if bt278.2 = true then (if (!(bt257.1 == t247) || (!(bt257.2.1 == t248))) = true then (none) else (if (!(bt267.1 == t247) || (!(bt267.2.1 == t248))) = true then (none) else (if (!(bt274.1 == bt253.1) || (!(bt274.2.1 == bt253.2.1))) = true then (none) else ((impl_ValidFraction.f k bt261.1 bt261.2.1).bind fun t280 => (if t280 = true then (if ((decide (bt278.1 < 0)) != (decide ((wrap64 (t247 * t251)) < (wrap64 (t250 * t248))))) = true then (none) else (laws_FnNumbers.j0 k l0 l1 ((bt278.1 == 0) != (t247 == t250 && (t248 == t251))) t247 t248 t250 t251 bt261.1 bt261.2.1)) else (none)))))) else (none)) else (none)) else (none)) else (none)) else (none)) else (none)) else (none))))))))) = some r := H
  have A6 := Aside0.mk A60
  clear A60
  replace H := Option.bind_eq_some_iff.mp H
  obtain ⟨⟨t253, t254, t255⟩, A70, H⟩ := H
  replace H : ((impl_SubFractions.f t253 t254 t250 t251).bind fun bt257 => ((impl_MulFractions.f t247 t248 t250 t251).bind fun bt261 => ((impl_FractionText.f k t247 t248).bind fun bt265 => ((impl_ReadFraction.f k bt265.1).bind fun bt267 => ((impl_SumFractions.f (([(⟨t247, t248⟩ : S25), (⟨t250, t251⟩ : S25)] : List (S25)))).bind fun bt274 => ((impl_CompareFractions.f t247 t248 t250 t251).bind fun bt278 => (if t255 = true then (if bt257.2.2 = true then (if bt261.2.2 = true then (if bt265.2 = true then (if bt267.2.2 = true then (if bt274.2.2 = true then (if bt278.2 = true then (if (!(bt257.1 == t247) || (!(bt257.2.1 == t248))) = true then (none) else (if (!(bt267.1 == t247) || (!(bt267.2.1 == t248))) = true then (none) else (if (!(bt274.1 == t253) || (!(bt274.2.1 == t254))) = true then (none) else ((impl_ValidFraction.f k bt261.1 bt261.2.1).bind fun t280 => (if t280 = true then (if ((decide (bt278.1 < 0)) != (decide ((wrap64 (t247 * t251)) < (wrap64 (t250 * t248))))) = true then (none) else (laws_FnNumbers.j0 k l0 l1 ((bt278.1 == 0) != (t247 == t250 && (t248 == t251))) t247 t248 t250 t251 bt261.1 bt261.2.1)) else (none)))))) else (none)) else (none)) else (none)) else (none)) else (none)) else (none)) else (none)))))))) = some r := H
  have A7 := Aside0.mk A70
  clear A70
  replace H := Option.bind_eq_some_iff.mp H
  obtain ⟨⟨t257, t258, t259⟩, A80, H⟩ := H
  replace H : ((impl_MulFractions.f t247 t248 t250 t251).bind fun bt261 => ((impl_FractionText.f k t247 t248).bind fun bt265 => ((impl_ReadFraction.f k bt265.1).bind fun bt267 => ((impl_SumFractions.f (([(⟨t247, t248⟩ : S25), (⟨t250, t251⟩ : S25)] : List (S25)))).bind fun bt274 => ((impl_CompareFractions.f t247 t248 t250 t251).bind fun bt278 => (if t255 = true then (if t259 = true then (if bt261.2.2 = true then (if bt265.2 = true then (if bt267.2.2 = true then (if bt274.2.2 = true then (if bt278.2 = true then (if (!(t257 == t247) || (!(t258 == t248))) = true then (none) else (if (!(bt267.1 == t247) || (!(bt267.2.1 == t248))) = true then (none) else (if (!(bt274.1 == t253) || (!(bt274.2.1 == t254))) = true then (none) else ((impl_ValidFraction.f k bt261.1 bt261.2.1).bind fun t280 => (if t280 = true then (if ((decide (bt278.1 < 0)) != (decide ((wrap64 (t247 * t251)) < (wrap64 (t250 * t248))))) = true then (none) else (laws_FnNumbers.j0 k l0 l1 ((bt278.1 == 0) != (t247 == t250 && (t248 == t251))) t247 t248 t250 t251 bt261.1 bt261.2.1)) else (none)))))) else (none)) else (none)) else (none)) else (none)) else (none)) else (none)) else (none))))))) = some r := H
  have A8 := Aside0.mk A80
  clear A80
  replace H := Option.bind_eq_some_iff.mp H
  obtain ⟨⟨t261, t262, t263⟩, A90, H⟩ := H
  replace H : ((impl_FractionText.f k t247 t248).bind fun bt265 => ((impl_ReadFraction.f k bt265.1).bind fun bt267 => ((impl_SumFractions.f (([(⟨t247, t248⟩ : S25), (⟨t250, t251⟩ : S25)] : List (S25)))).bind fun bt274 => ((impl_CompareFractions.f t247 t248 t250 t251).bind fun bt278 => (if t255 = true then (if t259 = true then (if t263 = true then (if bt265.2 = true then (if bt267.2.2 = true then (if bt274.2.2 = true then (if bt278.2 = true then (if (!(t257 == t247) || (!(t258 == t248))) = true then (none) else (if (!(bt267.1 == t247) || (!(bt267.2.1 == t248))) = true then (none) else (if (!(bt274.1 == t253) || (!(bt274.2.1 == t254))) = true then (none) else ((impl_ValidFraction.f k t261 t262).bind fun t280 => (if t280 = true then (if ((decide (bt278.1 < 0)) != (decide ((wrap64 (t247 * t251)) < (wrap64 (t250 * t248))))) = true then (none) else (laws_FnNumbers.j0 k l0 l1 ((bt278.1 == 0) != (t247 == t250 && (t248 == t251))) t247 t248 t250 t251 t261 t262)) else (none)))))) else (none)) else (none)) else (none)) else (none)) else (none)) else (none)) else (none)))))) = some r := H
  have A9 := Aside0.mk A90
  clear A90
  replace H := Option.bind_eq_some_iff.mp H
  obtain ⟨⟨t265, t266⟩, A100, H⟩ := H
  replace H : ((impl_ReadFraction.f k t265).bind fun bt267 => ((impl_SumFractions.f (([(⟨t247, t248⟩ : S25), (⟨t250, t251⟩ : S25)] : List (S25)))).bind fun bt274 => ((impl_CompareFractions.f t247 t248 t250 t251).bind fun bt278 => (if t255 = true then (if t259 = true then (if t263 = true then (if t266 = true then (if bt267.2.2 = true then (if bt274.2.2 = true then (if bt278.2 = true then (if (!(t257 == t247) || (!(t258 == t248))) = true then (none) else (if (!(bt267.1 == t247) || (!(bt267.2.1 == t248))) = true then (none) else (if (!(bt274.1 == t253) || (!(bt274.2.1 == t254))) = true then (none) else ((impl_ValidFraction.f k t261 t262).bind fun t280 => (if t280 = true then (if ((decide (bt278.1 < 0)) != (decide ((wrap64 (t247 * t251)) < (wrap64 (t250 * t248))))) = true then (none) else (laws_FnNumbers.j0 k l0 l1 ((bt278.1 == 0) != (t247 == t250 && (t248 == t251))) t247 t248 t250 t251 t261 t262)) else (none)))))) else (none)) else (none)) else (none)) else (none)) else (none)) else (none)) else (none))))) = some r := H
  have A10 := Aside0.mk A100
  clear A100
  replace H := Option.bind_eq_some_iff.mp H
  obtain ⟨⟨t267, t268, t269⟩, A110, H⟩ := H
  replace H : ((impl_SumFractions.f (([(⟨t247, t248⟩ : S25), (⟨t250, t251⟩ : S25)] : List (S25)))).bind fun bt274 => ((impl_CompareFractions.f t247 t248 t250 t251).bind fun bt278 => (if t255 = true then (if t259 = true then (if t263 = true then (if t266 = true then (if t269 = true then (if bt274.2.2 = true then (if bt278.2 = true then (if (!(t257 == t247) || (!(t258 == t248))) = true then (none) else (if (!(t267 == t247) || (!(t268 == t248))) = true then (none) else (if (!(bt274.1 == t253) || (!(bt274.2.1 == t254))) = true then (none) else ((impl_ValidFraction.f k t261 t262).bind fun t280 => (if t280 = true then (if ((decide (bt278.1 < 0)) != (decide ((wrap64 (t247 * t251)) < (wrap64 (t250 * t248))))) = true then (none) else (laws_FnNumbers.j0 k l0 l1 ((bt278.1 == 0) != (t247 == t250 && (t248 == t251))) t247 t248 t250 t251 t261 t262)) else (none)))))) else (none)) else (none)) else (none)) else (none)) else (none)) else (none)) else (none)))) = some r := H
  have A11 := Aside0.mk A110
  clear A110
  obtain ⟨y271, hy271⟩ : ∃ y_ : List (S25), y_ = (([(⟨t247, t248⟩ : S25), (⟨t250, t251⟩ : S25)] : List (S25))) := ⟨_, rfl⟩
  replace H : ((impl_SumFractions.f y271).bind fun bt274 => ((impl_CompareFractions.f t247 t248 t250 t251).bind fun bt278 => (if t255 = true then (if t259 = true then (if t263 = true then (if t266 = true then (if t269 = true then (if bt274.2.2 = true then (if bt278.2 = true then (if (!(t257 == t247) || (!(t258 == t248))) = true then (none) else (if (!(t267 == t247) || (!(t268 == t248))) = true then (none) else (if (!(bt274.1 == t253) || (!(bt274.2.1 == t254))) = true then (none) else ((impl_ValidFraction.f k t261 t262).bind fun t280 => (if t280 = true then (if ((decide (bt278.1 < 0)) != (decide ((wrap64 (t247 * t251)) < (wrap64 (t250 * t248))))) = true then (none) else (laws_FnNumbers.j0 k l0 l1 ((bt278.1 == 0) != (t247 == t250 && (t248 == t251))) t247 t248 t250 t251 t261 t262)) else (none)))))) else (none)) else (none)) else (none)) else (none)) else (none)) else (none)) else (none)))) = some r := by first | (rw [hy271]; with_reducible exact H) | (have H2_ := (Option.bind_some _ _).symm.trans H; rw [hy271]; with_reducible exact H2_) | (have H2_ := (Option.bind_some _ _).symm.trans H; with_reducible exact H2_) | with_reducible exact H | (rw [hy271]; exact H) | exact H
  have Ny271 := Aside0.mk hy271
  clear hy271
  replace H := Option.bind_eq_some_iff.mp H
  obtain ⟨⟨t274, t275, t276⟩, A120, H⟩ := H
  replace H : ((impl_CompareFractions.f t247 t248 t250 t251).bind fun bt278 => (if t255 = true then (if t259 = true then (if t263 = true then (if t266 = true then (if t269 = true then (if t276 = true then (if bt278.2 = true then (if (!(t257 == t247) || (!(t258 == t248))) = true then (none) else (if (!(t267 == t247) || (!(t268 == t248))) = true then (none) else (if (!(t274 == t253) || (!(t275 == t254))) = true then (none) else ((impl_ValidFraction.f k t261 t262).bind fun t280 => (if t280 = true then (if ((decide (bt278.1 < 0)) != (decide ((wrap64 (t247 * t251)) < (wrap64 (t250 * t248))))) = true then (none) else (laws_FnNumbers.j0 k l0 l1 ((bt278.1 == 0) != (t247 == t250 && (t248 == t251))) t247 t248 t250 t251 t261 t262)) else (none)))))) else (none)) else (none)) else (none)) else (none)) else (none)) else (none)) else (none))) = some r := H
  have A12 := Aside0.mk A120
  clear A120
  replace H := Option.bind_eq_some_iff.mp H
  obtain ⟨⟨t278, t279⟩, A130, H⟩ := H
  replace H : (if t255 = true then (if t259 = true then (if t263 = true then (if t266 = true then (if t269 = true then (if t276 = true then (if t279 = true then (if (!(t257 == t247) || (!(t258 == t248))) = true then (none) else (if (!(t267 == t247) || (!(t268 == t248))) = true then (none) else (if (!(t274 == t253) || (!(t275 == t254))) = true then (none) else ((impl_ValidFraction.f k t261 t262).bind fun t280 => (if t280 = true then (if ((decide (t278 < 0)) != (decide ((wrap64 (t247 * t251)) < (wrap64 (t250 * t248))))) = true then (none) else (laws_FnNumbers.j0 k l0 l1 ((t278 == 0) != (t247 == t250 && (t248 == t251))) t247 t248 t250 t251 t261 t262)) else (none)))))) else (none)) else (none)) else (none)) else (none)) else (none)) else (none)) else (none)) = some r := H
  have A13 := Aside0.mk A130
  clear A130
  have HC14 := Aside0.mk H
  clear H
  go_enter Tryz.func3, Tryz.ntmps3
  go_upto_region 12 with (first | ((with_reducible refine gate_callee (f := 4) rfl ?_); refine goesL_ (some 33) rfl rfl Tryz.func4 (by kernel_rfl) rfl #[.slice A0 l0.length c0, .slice A1 l1.length c1] rfl (by (try simp only [List.map_toArray, List.map_cons, List.map_nil]); first | done | rfl | (simp only [List.length_drop, List.length_take]; rfl)) ?_; (with_reducible refine (laws_b10Long.calls _ _ l0 _ _ l1 false _ ?side1 ?side2 ?side3 ?side4 A3.out).mono ?_); (case side1 => repeat (first | exact HR0.out | (with_reducible refine Kd.C_alloc ?_ _) | (with_reducible refine Kd.C_drewN ?_ _) | (with_reducible refine Kd.C_drew ?_))); (case side2 => exact HC0.out); (case side3 => repeat (first | exact HR1.out | (with_reducible refine Kd.C_alloc ?_ _) | (with_reducible refine Kd.C_drewN ?_ _) | (with_reducible refine Kd.C_drew ?_))); (case side4 => exact HC1.out); rintro e w' ⟨rfl, ⟨nd, rfl⟩⟩; refine ⟨_, rfl, ?_⟩) | ((with_reducible refine gate_callee (f := 5) rfl ?_); refine goesL_ (some 35) rfl rfl Tryz.func5 (by kernel_rfl) rfl #[.slice A0 l0.length c0] rfl (by (try simp only [List.map_toArray, List.map_cons, List.map_nil]); first | done | rfl | (simp only [List.length_drop, List.length_take]; rfl)) ?_; (with_reducible refine (spec_B10Fraction.calls k _ _ l0 t247 t248 _ ?side1 ?side2 A5.out).mono ?_); (case side1 => repeat (first | exact HR0.out | (with_reducible refine Kd.C_alloc ?_ _) | (with_reducible refine Kd.C_drewN ?_ _) | (with_reducible refine Kd.C_drew ?_))); (case side2 => exact HC0.out); rintro e w15 ⟨rfl, hb⟩; refine ⟨_, rfl, ?_⟩; have n0_ := Aside0.mk (below_step (by repeat (first | (with_reducible first | exact HB.out | apply below_alloc | apply pw_below_drewN | apply below_drew1) | exact HB.out)) hb); clear HB; have HB := n0_; clear n0_; (try clear hb); (try clear hb2); (try clear hk); (try clear hi)) | ((with_reducible refine gate_dst (N := 5) rfl ?_); refine box_event ?hg (N := 5) ?hd (cs := #[.int .i64 0, .int .i64 0]) (t := 25) ?hr ?_; (case hd => rfl); (case hg => rfl); (case hr => first | (go_simp; done) | (go_simp; rfl)); intro gb249 hg w16 hbox hb; have n0_ := Aside0.mk (below_step (by repeat (first | (with_reducible first | exact HB.out | apply below_alloc | apply pw_below_drewN | apply below_drew1) | exact HB.out)) hb); have n1_ := Aside0.mk (hbox); have n2_ := Aside0.mk ((by rw [hg]; exact (below_size (by repeat (first | (with_reducible first | exact HB.out | apply below_alloc | apply pw_below_drewN | apply below_drew1) | exact HB.out))) : w.heap.size ≤ gb249)); have n3_ := Aside0.mk ((by rw [hg]; exact (below_size (by repeat (first | (with_reducible first | exact HB.out | apply below_alloc | apply pw_below_drewN | apply below_drew1) | exact HB.out))) : w.heap.size ≤ gb249)); clear HB; have HB := n0_; have BK249 := n1_; have GW249 := n2_; have GE249 := n3_; clear n0_ n1_ n2_ n3_; clear hb hbox hg; have hcz17_0 : w16.cell? ⟨gb249, 0, none⟩ = some (.int .i64 0) := (blk_cell BK249.out 0).trans rfl; have hcz17_1 : w16.cell? ⟨gb249, 1, none⟩ = some (.int .i64 0) := (blk_cell BK249.out 1).trans rfl; have hfz17_0 := blk_frozen BK249.out 0; have hfz17_1 := blk_frozen BK249.out 1) | ((with_reducible refine gate_callee (f := 5) rfl ?_); refine goesL_ (some 37) rfl rfl Tryz.func5 (by kernel_rfl) rfl #[.slice A1 l1.length c1] rfl (by (try simp only [List.map_toArray, List.map_cons, List.map_nil]); first | done | rfl | (simp only [List.length_drop, List.length_take]; rfl)) ?_; (with_reducible refine (spec_B10Fraction.calls k _ _ l1 t250 t251 _ ?side1 ?side2 A6.out).mono ?_); (case side1 => exact Kd.C_below HR1.out (by repeat (first | (with_reducible first | exact HB.out | apply below_alloc | apply pw_below_drewN | apply below_drew1 | refine below_set ?_ GE249.out) | exact HB.out))); (case side2 => exact HC1.out); rintro e w18 ⟨rfl, hb⟩; refine ⟨_, rfl, ?_⟩; have n0_ := Aside0.mk (blk_below (g := gb249) (o := .cells #[.int .i64 t247, .int .i64 t248] 25 (0, 0)) (by (with_reducible repeat (first | refine blk_drewN ?_ _ | refine blk_drew ?_ | refine blk_alloc ?_ _)); refine blk_put (cs := #[.int .i64 t247, .int .i64 0]) ?_ 1 _ rfl; (with_reducible repeat (first | refine blk_drewN ?_ _ | refine blk_drew ?_ | refine blk_alloc ?_ _)); refine blk_put (cs := #[.int .i64 0, .int .i64 0]) ?_ 0 _ rfl; (with_reducible repeat (first | refine blk_drewN ?_ _ | refine blk_drew ?_ | refine blk_alloc ?_ _)); exact BK249.out) hb); have n1_ := Aside0.mk (below_step (by repeat (first | (with_reducible first | exact HB.out | apply below_alloc | apply pw_below_drewN | apply below_drew1 | refine below_set ?_ GE249.out) | exact HB.out)) hb); clear BK249; clear HB; have BK249 := n0_; have HB := n1_; clear n0_ n1_; (try clear hb); (try clear hb2); (try clear hk); (try clear hi)) | ((with_reducible refine gate_dst (N := 6) rfl ?_); refine box_event ?hg (N := 6) ?hd (cs := #[.int .i64 0, .int .i64 0]) (t := 25) ?hr ?_; (case hd => rfl); (case hg => rfl); (case hr => first | (go_simp; done) | (go_simp; rfl)); intro gb252 hg w19 hbox hb; have n0_ := Aside0.mk (blk_below (g := gb249) (o := .cells #[.int .i64 t247, .int .i64 t248] 25 (0, 0)) (by (with_reducible repeat (first | refine blk_drewN ?_ _ | refine blk_drew ?_ | refine blk_alloc ?_ _)); exact BK249.out) hb); have n1_ := Aside0.mk (below_step (by repeat (first | (with_reducible first | exact HB.out | apply below_alloc | apply pw_below_drewN | apply below_drew1 | refine below_set ?_ GE249.out) | exact HB.out)) hb); have n2_ := Aside0.mk (hbox); have n3_ := Aside0.mk ((by rw [hg]; exact (below_size (by repeat (first | (with_reducible first | exact HB.out | apply below_alloc | apply pw_below_drewN | apply below_drew1 | refine below_set ?_ GE249.out) | exact HB.out))) : w.heap.size ≤ gb252)); have n4_ := Aside0.mk ((by rw [hg]; exact (below_size (by repeat (first | (with_reducible first | exact HB.out | apply below_alloc | apply pw_below_drewN | apply below_drew1 | refine below_set ?_ GE249.out) | exact HB.out))) : w.heap.size ≤ gb252)); have n5_ := Aside0.mk ((by rw [hg]; exact Nat.ne_of_lt (blk_lt (g := gb249) (o := .cells #[.int .i64 t247, .int .i64 t248] 25 (0, 0)) (by (with_reducible repeat (first | refine blk_drewN ?_ _ | refine blk_drew ?_ | refine blk_alloc ?_ _)); exact BK249.out)) : gb249 ≠ gb252)); have n6_ := Aside0.mk ((by rw [hg]; exact Nat.ne_of_gt (blk_lt (g := gb249) (o := .cells #[.int .i64 t247, .int .i64 t248] 25 (0, 0)) (by (with_reducible repeat (first | refine blk_drewN ?_ _ | refine blk_drew ?_ | refine blk_alloc ?_ _)); exact BK249.out)) : gb252 ≠ gb249)); clear BK249; clear HB; have BK249 := n0_; have HB := n1_; have BK252 := n2_; have GW252 := n3_; have GE252 := n4_; have NB249_252 := n5_; have NB252_249 := n6_; clear n0_ n1_ n2_ n3_ n4_ n5_ n6_; clear hb hbox hg; have hnb20 := NB252_249.out; have hnc20 := NB249_252.out; have hcz21_0 : w19.cell? ⟨gb252, 0, none⟩ = some (.int .i64 0) := (blk_cell BK252.out 0).trans rfl; have hcz21_1 : w19.cell? ⟨gb252, 1, none⟩ = some (.int .i64 0) := (blk_cell BK252.out 1).trans rfl; have hfz21_0 := blk_frozen BK252.out 0; have hfz21_1 := blk_frozen BK252.out 1; have hcz22_0 : w19.cell? ⟨gb249, 0, none⟩ = some (.int .i64 t247) := (blk_cell BK249.out 0).trans rfl; have hcz22_1 : w19.cell? ⟨gb249, 1, none⟩ = some (.int .i64 t248) := (blk_cell BK249.out 1).trans rfl; have hfz22_0 := blk_frozen BK249.out 0; have hfz22_1 := blk_frozen BK249.out 1) | ((with_reducible refine gate_callee (f := 6) rfl ?_); refine goesL_ (some 41) rfl rfl Tryz.func6 (by kernel_rfl) rfl #[.agg #[.int .i64 t247, .int .i64 t248], .agg #[.int .i64 t250, .int .i64 t251]] rfl (by (try simp only [List.map_toArray, List.map_cons, List.map_nil]); first | done | rfl | (simp only [List.length_drop, List.length_take]; rfl)) ?_; (with_reducible refine (impl_AddFractions.calls t247 t248 t250 t251 t253 t254 t255 _ A7.out).mono ?_); rintro e w23 ⟨rfl, hb⟩; refine ⟨_, rfl, ?_⟩; have n0_ := Aside0.mk (blk_below (g := gb249) (o := .cells #[.int .i64 t247, .int .i64 t248] 25 (0, 0)) (by (with_reducible repeat (first | refine blk_drewN ?_ _ | refine blk_drew ?_ | refine blk_alloc ?_ _)); refine blk_far ?_ NB249_252.out _; (with_reducible repeat (first | refine blk_drewN ?_ _ | refine blk_drew ?_ | refine blk_alloc ?_ _)); refine blk_far ?_ NB249_252.out _; (with_reducible repeat (first | refine blk_drewN ?_ _ | refine blk_drew ?_ | refine blk_alloc ?_ _)); exact BK249.out) hb); have n1_ := Aside0.mk (blk_below (g := gb252) (o := .cells #[.int .i64 t250, .int .i64 t251] 25 (0, 0)) (by (with_reducible repeat (first | refine blk_drewN ?_ _ | refine blk_drew ?_ | refine blk_alloc ?_ _)); refine blk_put (cs := #[.int .i64 t250, .int .i64 0]) ?_ 1 _ rfl; (with_reducible repeat (first | refine blk_drewN ?_ _ | refine blk_drew ?_ | refine blk_alloc ?_ _)); refine blk_put (cs := #[.int .i64 0, .int .i64 0]) ?_ 0 _ rfl; (with_reducible repeat (first | refine blk_drewN ?_ _ | refine blk_drew ?_ | refine blk_alloc ?_ _)); exact BK252.out) hb); have n2_ := Aside0.mk (below_step (by repeat (first | (with_reducible first | exact HB.out | apply below_alloc | apply pw_below_drewN | apply below_drew1 | refine below_set ?_ GE249.out | refine below_set ?_ GE252.out) | exact HB.out)) hb); clear BK249; clear BK252; clear HB; have BK249 := n0_; have BK252 := n1_; have HB := n2_; clear n0_ n1_ n2_; (try clear hb); (try clear hb2); (try clear hk); (try clear hi)) | ((with_reducible refine gate_dst (N := 7) rfl ?_); refine box_event ?hg (N := 7) ?hd (cs := #[.int .i64 0, .int .i64 0]) (t := 25) ?hr ?_; (case hd => rfl); (case hg => rfl); (case hr => first | (go_simp; done) | (go_simp; rfl)); intro gb256 hg w24 hbox hb; have n0_ := Aside0.mk (blk_below (g := gb249) (o := .cells #[.int .i64 t247, .int .i64 t248] 25 (0, 0)) (by (with_reducible repeat (first | refine blk_drewN ?_ _ | refine blk_drew ?_ | refine blk_alloc ?_ _)); exact BK249.out) hb); have n1_ := Aside0.mk (blk_below (g := gb252) (o := .cells #[.int .i64 t250, .int .i64 t251] 25 (0, 0)) (by (with_reducible repeat (first | refine blk_drewN ?_ _ | refine blk_drew ?_ | refine blk_alloc ?_ _)); exact BK252.out) hb); have n2_ := Aside0.mk (below_step (by repeat (first | (with_reducible first | exact HB.out | apply below_alloc | apply pw_below_drewN | apply below_drew1 | refine below_set ?_ GE249.out | refine below_set ?_ GE252.out) | exact HB.out)) hb); have n3_ := Aside0.mk (hbox); have n4_ := Aside0.mk ((by rw [hg]; exact (below_size (by repeat (first | (with_reducible first | exact HB.out | apply below_alloc | apply pw_below_drewN | apply below_drew1 | refine below_set ?_ GE249.out | refine below_set ?_ GE252.out) | exact HB.out))) : w.heap.size ≤ gb256)); have n5_ := Aside0.mk ((by rw [hg]; exact (below_size (by repeat (first | (with_reducible first | exact HB.out | apply below_alloc | apply pw_below_drewN | apply below_drew1 | refine below_set ?_ GE249.out | refine below_set ?_ GE252.out) | exact HB.out))) : w.heap.size ≤ gb256)); have n6_ := Aside0.mk ((by rw [hg]; exact Nat.ne_of_lt (blk_lt (g := gb249) (o := .cells #[.int .i64 t247, .int .i64 t248] 25 (0, 0)) (by (with_reducible repeat (first | refine blk_drewN ?_ _ | refine blk_drew ?_ | refine blk_alloc ?_ _)); exact BK249.out)) : gb249 ≠ gb256)); have n7_ := Aside0.mk ((by rw [hg]; exact Nat.ne_of_gt (blk_lt (g := gb249) (o := .cells #[.int .i64 t247, .int .i64 t248] 25 (0, 0)) (by (with_reducible repeat (first | refine blk_drewN ?_ _ | refine blk_drew ?_ | refine blk_alloc ?_ _)); exact BK249.out)) : gb256 ≠ gb249)); have n8_ := Aside0.mk ((by rw [hg]; exact Nat.ne_of_lt (blk_lt (g := gb252) (o := .cells #[.int .i64 t250, .int .i64 t251] 25 (0, 0)) (by (with_reducible repeat (first | refine blk_drewN ?_ _ | refine blk_drew ?_ | refine blk_alloc ?_ _)); exact BK252.out)) : gb252 ≠ gb256)); have n9_ := Aside0.mk ((by rw [hg]; exact Nat.ne_of_gt (blk_lt (g := gb252) (o := .cells #[.int .i64 t250, .int .i64 t251] 25 (0, 0)) (by (with_reducible repeat (first | refine blk_drewN ?_ _ | refine blk_drew ?_ | refine blk_alloc ?_ _)); exact BK252.out)) : gb256 ≠ gb252)); clear BK249; clear BK252; clear HB; have BK249 := n0_; have BK252 := n1_; have HB := n2_; have BK256 := n3_; have GW256 := n4_; have GE256 := n5_; have NB249_256 := n6_; have NB256_249 := n7_; have NB252_256 := n8_; have NB256_252 := n9_; clear n0_ n1_ n2_ n3_ n4_ n5_ n6_ n7_ n8_ n9_; clear hb hbox hg; have hnb25 := NB256_249.out; have hnc25 := NB249_256.out; have hnb26 := NB256_252.out; have hnc26 := NB252_256.out; have hcz27_0 : w24.cell? ⟨gb256, 0, none⟩ = some (.int .i64 0) := (blk_cell BK256.out 0).trans rfl; have hcz27_1 : w24.cell? ⟨gb256, 1, none⟩ = some (.int .i64 0) := (blk_cell BK256.out 1).trans rfl; have hfz27_0 := blk_frozen BK256.out 0; have hfz27_1 := blk_frozen BK256.out 1; have hcz28_0 : w24.cell? ⟨gb252, 0, none⟩ = some (.int .i64 t250) := (blk_cell BK252.out 0).trans rfl; have hcz28_1 : w24.cell? ⟨gb252, 1, none⟩ = some (.int .i64 t251) := (blk_cell BK252.out 1).trans rfl; have hfz28_0 := blk_frozen BK252.out 0; have hfz28_1 := blk_frozen BK252.out 1) | ((with_reducible refine gate_callee (f := 7) rfl ?_); refine goesL_ (some 47) rfl rfl Tryz.func7 (by kernel_rfl) rfl #[.agg #[.int .i64 t253, .int .i64 t254], .agg #[.int .i64 t250, .int .i64 t251]] rfl (by (try simp only [List.map_toArray, List.map_cons, List.map_nil]); first | done | rfl | (simp only [List.length_drop, List.length_take]; rfl)) ?_; (with_reducible refine (impl_SubFractions.calls t253 t254 t250 t251 t257 t258 t259 _ A8.out).mono ?_); rintro e w29 ⟨rfl, hb⟩; refine ⟨_, rfl, ?_⟩; have n0_ := Aside0.mk (blk_below (g := gb249) (o := .cells #[.int .i64 t247, .int .i64 t248] 25 (0, 0)) (by (with_reducible repeat (first | refine blk_drewN ?_ _ | refine blk_drew ?_ | refine blk_alloc ?_ _)); refine blk_far ?_ NB249_256.out _; (with_reducible repeat (first | refine blk_drewN ?_ _ | refine blk_drew ?_ | refine blk_alloc ?_ _)); refine blk_far ?_ NB249_256.out _; (with_reducible repeat (first | refine blk_drewN ?_ _ | refine blk_drew ?_ | refine blk_alloc ?_ _)); exact BK249.out) hb); have n1_ := Aside0.mk (blk_below (g := gb252) (o := .cells #[.int .i64 t250, .int .i64 t251] 25 (0, 0)) (by (with_reducible repeat (first | refine blk_drewN ?_ _ | refine blk_drew ?_ | refine blk_alloc ?_ _)); refine blk_far ?_ NB252_256.out _; (with_reducible repeat (first | refine blk_drewN ?_ _ | refine blk_drew ?_ | refine blk_alloc ?_ _)); refine blk_far ?_ NB252_256.out _; (with_reducible repeat (first | refine blk_drewN ?_ _ | refine blk_drew ?_ | refine blk_alloc ?_ _)); exact BK252.out) hb); have n2_ := Aside0.mk (blk_below (g := gb256) (o := .cells #[.int .i64 t253, .int .i64 t254] 25 (0, 0)) (by (with_reducible repeat (first | refine blk_drewN ?_ _ | refine blk_drew ?_ | refine blk_alloc ?_ _)); refine blk_put (cs := #[.int .i64 t253, .int .i64 0]) ?_ 1 _ rfl; (with_reducible repeat (first | refine blk_drewN ?_ _ | refine blk_drew ?_ | refine blk_alloc ?_ _)); refine blk_put (cs := #[.int .i64 0, .int .i64 0]) ?_ 0 _ rfl; (with_reducible repeat (first | refine blk_drewN ?_ _ | refine blk_drew ?_ | refine blk_alloc ?_ _)); exact BK256.out) hb); have n3_ := Aside0.mk (below_step (by repeat (first | (with_reducible first | exact HB.out | apply below_alloc | apply pw_below_drewN | apply below_drew1 | refine below_set ?_ GE249.out | refine below_set ?_ GE252.out | refine below_set ?_ GE256.out) | exact HB.out)) hb); clear BK249; clear BK252; clear BK256; clear HB; have BK249 := n0_; have BK252 := n1_; have BK256 := n2_; have HB := n3_; clear n0_ n1_ n2_ n3_; (try clear hb); (try clear hb2); (try clear hk); (try clear hi)) | ((with_reducible refine gate_dst (N := 9) rfl ?_); refine box_event ?hg (N := 9) ?hd (cs := #[.int .i64 0, .int .i64 0]) (t := 25) ?hr ?_; (case hd => rfl); (case hg => rfl); (case hr => first | (go_simp; done) | (go_simp; rfl)); intro gb260 hg w30 hbox hb; have n0_ := Aside0.mk (blk_below (g := gb249) (o := .cells #[.int .i64 t247, .int .i64 t248] 25 (0, 0)) (by (with_reducible repeat (first | refine blk_drewN ?_ _ | refine blk_drew ?_ | refine blk_alloc ?_ _)); exact BK249.out) hb); have n1_ := Aside0.mk (blk_below (g := gb252) (o := .cells #[.int .i64 t250, .int .i64 t251] 25 (0, 0)) (by (with_reducible repeat (first | refine blk_drewN ?_ _ | refine blk_drew ?_ | refine blk_alloc ?_ _)); exact BK252.out) hb); have n2_ := Aside0.mk (blk_below (g := gb256) (o := .cells #[.int .i64 t253, .int .i64 t254] 25 (0, 0)) (by (with_reducible repeat (first | refine blk_drewN ?_ _ | refine blk_drew ?_ | refine blk_alloc ?_ _)); exact BK256.out) hb); have n3_ := Aside0.mk (below_step (by repeat (first | (with_reducible first | exact HB.out | apply below_alloc | apply pw_below_drewN | apply below_drew1 | refine below_set ?_ GE249.out | refine below_set ?_ GE252.out | refine below_set ?_ GE256.out) | exact HB.out)) hb); have n4_ := Aside0.mk (hbox); have n5_ := Aside0.mk ((by rw [hg]; exact (below_size (by repeat (first | (with_reducible first | exact HB.out | apply below_alloc | apply pw_below_drewN | apply below_drew1 | refine below_set ?_ GE249.out | refine below_set ?_ GE252.out | refine below_set ?_ GE256.out) | exact HB.out))) : w.heap.size ≤ gb260)); have n6_ := Aside0.mk ((by rw [hg]; exact (below_size (by repeat (first | (with_reducible first | exact HB.out | apply below_alloc | apply pw_below_drewN | apply below_drew1 | refine below_set ?_ GE249.out | refine below_set ?_ GE252.out | refine below_set ?_ GE256.out) | exact HB.out))) : w.heap.size ≤ gb260)); have n7_ := Aside0.mk ((by rw [hg]; exact Nat.ne_of_lt (blk_lt (g := gb249) (o := .cells #[.int .i64 t247, .int .i64 t248] 25 (0, 0)) (by (with_reducible repeat (first | refine blk_drewN ?_ _ | refine blk_drew ?_ | refine blk_alloc ?_ _)); exact BK249.out)) : gb249 ≠ gb260)); have n8_ := Aside0.mk ((by rw [hg]; exact Nat.ne_of_gt (blk_lt (g := gb249) (o := .cells #[.int .i64 t247, .int .i64 t248] 25 (0, 0)) (by (with_reducible repeat (first | refine blk_drewN ?_ _ | refine blk_drew ?_ | refine blk_alloc ?_ _)); exact BK249.out)) : gb260 ≠ gb249)); have n9_ := Aside0.mk ((by rw [hg]; exact Nat.ne_of_lt (blk_lt (g := gb252) (o := .cells #[.int .i64 t250, .int .i64 t251] 25 (0, 0)) (by (with_reducible repeat (first | refine blk_drewN ?_ _ | refine blk_drew ?_ | refine blk_alloc ?_ _)); exact BK252.out)) : gb252 ≠ gb260)); have n10_ := Aside0.mk ((by rw [hg]; exact Nat.ne_of_gt (blk_lt (g := gb252) (o := .cells #[.int .i64 t250, .int .i64 t251] 25 (0, 0)) (by (with_reducible repeat (first | refine blk_drewN ?_ _ | refine blk_drew ?_ | refine blk_alloc ?_ _)); exact BK252.out)) : gb260 ≠ gb252)); have n11_ := Aside0.mk ((by rw [hg]; exact Nat.ne_of_lt (blk_lt (g := gb256) (o := .cells #[.int .i64 t253, .int .i64 t254] 25 (0, 0)) (by (with_reducible repeat (first | refine blk_drewN ?_ _ | refine blk_drew ?_ | refine blk_alloc ?_ _)); exact BK256.out)) : gb256 ≠ gb260)); have n12_ := Aside0.mk ((by rw [hg]; exact Nat.ne_of_gt (blk_lt (g := gb256) (o := .cells #[.int .i64 t253, .int .i64 t254] 25 (0, 0)) (by (with_reducible repeat (first | refine blk_drewN ?_ _ | refine blk_drew ?_ | refine blk_alloc ?_ _)); exact BK256.out)) : gb260 ≠ gb256)); clear BK249; clear BK252; clear BK256; clear HB; have BK249 := n0_; have BK252 := n1_; have BK256 := n2_; have HB := n3_; have BK260 := n4_; have GW260 := n5_; have GE260 := n6_; have NB249_260 := n7_; have NB260_249 := n8_; have NB252_260 := n9_; have NB260_252 := n10_; have NB256_260 := n11_; have NB260_256 := n12_; clear n0_ n1_ n2_ n3_ n4_ n5_ n6_ n7_ n8_ n9_ n10_ n11_ n12_; clear hb hbox hg; have hnb31 := NB260_249.out; have hnc31 := NB249_260.out; have hnb32 := NB260_252.out; have hnc32 := NB252_260.out; have hnb33 := NB260_256.out; have hnc33 := NB256_260.out; have hcz34_0 : w30.cell? ⟨gb260, 0, none⟩ = some (.int .i64 0) := (blk_cell BK260.out 0).trans rfl; have hcz34_1 : w30.cell? ⟨gb260, 1, none⟩ = some (.int .i64 0) := (blk_cell BK260.out 1).trans rfl; have hfz34_0 := blk_frozen BK260.out 0; have hfz34_1 := blk_frozen BK260.out 1; have hcz35_0 : w30.cell? ⟨gb249, 0, none⟩ = some (.int .i64 t247) := (blk_cell BK249.out 0).trans rfl; have hcz35_1 : w30.cell? ⟨gb249, 1, none⟩ = some (.int .i64 t248) := (blk_cell BK249.out 1).trans rfl; have hfz35_0 := blk_frozen BK249.out 0; have hfz35_1 := blk_frozen BK249.out 1; have hcz36_0 : w30.cell? ⟨gb252, 0, none⟩ = some (.int .i64 t250) := (blk_cell BK252.out 0).trans rfl; have hcz36_1 : w30.cell? ⟨gb252, 1, none⟩ = some (.int .i64 t251) := (blk_cell BK252.out 1).trans rfl; have hfz36_0 := blk_frozen BK252.out 0; have hfz36_1 := blk_frozen BK252.out 1) | ((with_reducible refine gate_callee (f := 8) rfl ?_); refine goesL_ (some 53) rfl rfl Tryz.func8 (by kernel_rfl) rfl #[.agg #[.int .i64 t247, .int .i64 t248], .agg #[.int .i64 t250, .int .i64 t251]] rfl (by (try simp only [List.map_toArray, List.map_cons, List.map_nil]); first | done | rfl | (simp only [List.length_drop, List.length_take]; rfl)) ?_; (with_reducible refine (impl_MulFractions.calls t247 t248 t250 t251 t261 t262 t263 _ A9.out).mono ?_); rintro e w37 ⟨rfl, hb⟩; refine ⟨_, rfl, ?_⟩; have n0_ := Aside0.mk (blk_below (g := gb249) (o := .cells #[.int .i64 t247, .int .i64 t248] 25 (0, 0)) (by (with_reducible repeat (first | refine blk_drewN ?_ _ | refine blk_drew ?_ | refine blk_alloc ?_ _)); refine blk_far ?_ NB249_260.out _; (with_reducible repeat (first | refine blk_drewN ?_ _ | refine blk_drew ?_ | refine blk_alloc ?_ _)); refine blk_far ?_ NB249_260.out _; (with_reducible repeat (first | refine blk_drewN ?_ _ | refine blk_drew ?_ | refine blk_alloc ?_ _)); exact BK249.out) hb); have n1_ := Aside0.mk (blk_below (g := gb252) (o := .cells #[.int .i64 t250, .int .i64 t251] 25 (0, 0)) (by (with_reducible repeat (first | refine blk_drewN ?_ _ | refine blk_drew ?_ | refine blk_alloc ?_ _)); refine blk_far ?_ NB252_260.out _; (with_reducible repeat (first | refine blk_drewN ?_ _ | refine blk_drew ?_ | refine blk_alloc ?_ _)); refine blk_far ?_ NB252_260.out _; (with_reducible repeat (first | refine blk_drewN ?_ _ | refine blk_drew ?_ | refine blk_alloc ?_ _)); exact BK252.out) hb); have n2_ := Aside0.mk (blk_below (g := gb256) (o := .cells #[.int .i64 t253, .int .i64 t254] 25 (0, 0)) (by (with_reducible repeat (first | refine blk_drewN ?_ _ | refine blk_drew ?_ | refine blk_alloc ?_ _)); refine blk_far ?_ NB256_260.out _; (with_reducible repeat (first | refine blk_drewN ?_ _ | refine blk_drew ?_ | refine blk_alloc ?_ _)); refine blk_far ?_ NB256_260.out _; (with_reducible repeat (first | refine blk_drewN ?_ _ | refine blk_drew ?_ | refine blk_alloc ?_ _)); exact BK256.out) hb); have n3_ := Aside0.mk (blk_below (g := gb260) (o := .cells #[.int .i64 t257, .int .i64 t258] 25 (0, 0)) (by (with_reducible repeat (first | refine blk_drewN ?_ _ | refine blk_drew ?_ | refine blk_alloc ?_ _)); refine blk_put (cs := #[.int .i64 t257, .int .i64 0]) ?_ 1 _ rfl; (with_reducible repeat (first | refine blk_drewN ?_ _ | refine blk_drew ?_ | refine blk_alloc ?_ _)); refine blk_put (cs := #[.int .i64 0, .int .i64 0]) ?_ 0 _ rfl; (with_reducible repeat (first | refine blk_drewN ?_ _ | refine blk_drew ?_ | refine blk_alloc ?_ _)); exact BK260.out) hb); have n4_ := Aside0.mk (below_step (by repeat (first | (with_reducible first | exact HB.out | apply below_alloc | apply pw_below_drewN | apply below_drew1 | refine below_set ?_ GE249.out | refine below_set ?_ GE252.out | refine below_set ?_ GE256.out | refine below_set ?_ GE260.out) | exact HB.out)) hb); clear BK249; clear BK252; clear BK256; clear BK260; clear HB; have BK249 := n0_; have BK252 := n1_; have BK256 := n2_; have BK260 := n3_; have HB := n4_; clear n0_ n1_ n2_ n3_ n4_; (try clear hb); (try clear hb2); (try clear hk); (try clear hi)) | ((with_reducible refine gate_dst (N := 11) rfl ?_); refine box_event ?hg (N := 11) ?hd (cs := #[.int .i64 0, .int .i64 0]) (t := 25) ?hr ?_; (case hd => rfl); (case hg => rfl); (case hr => first | (go_simp; done) | (go_simp; rfl)); intro gb264 hg w38 hbox hb; have n0_ := Aside0.mk (blk_below (g := gb249) (o := .cells #[.int .i64 t247, .int .i64 t248] 25 (0, 0)) (by (with_reducible repeat (first | refine blk_drewN ?_ _ | refine blk_drew ?_ | refine blk_alloc ?_ _)); exact BK249.out) hb); have n1_ := Aside0.mk (blk_below (g := gb252) (o := .cells #[.int .i64 t250, .int .i64 t251] 25 (0, 0)) (by (with_reducible repeat (first | refine blk_drewN ?_ _ | refine blk_drew ?_ | refine blk_alloc ?_ _)); exact BK252.out) hb); have n2_ := Aside0.mk (blk_below (g := gb256) (o := .cells #[.int .i64 t253, .int .i64 t254] 25 (0, 0)) (by (with_reducible repeat (first | refine blk_drewN ?_ _ | refine blk_drew ?_ | refine blk_alloc ?_ _)); exact BK256.out) hb); have n3_ := Aside0.mk (blk_below (g := gb260) (o := .cells #[.int .i64 t257, .int .i64 t258] 25 (0, 0)) (by (with_reducible repeat (first | refine blk_drewN ?_ _ | refine blk_drew ?_ | refine blk_alloc ?_ _)); exact BK260.out) hb); have n4_ := Aside0.mk (below_step (by repeat (first | (with_reducible first | exact HB.out | apply below_alloc | apply pw_below_drewN | apply below_drew1 | refine below_set ?_ GE249.out | refine below_set ?_ GE252.out | refine below_set ?_ GE256.out | refine below_set ?_ GE260.out) | exact HB.out)) hb); have n5_ := Aside0.mk (hbox); have n6_ := Aside0.mk ((by rw [hg]; exact (below_size (by repeat (first | (with_reducible first | exact HB.out | apply below_alloc | apply pw_below_drewN | apply below_drew1 | refine below_set ?_ GE249.out | refine below_set ?_ GE252.out | refine below_set ?_ GE256.out | refine below_set ?_ GE260.out) | exact HB.out))) : w.heap.size ≤ gb264)); have n7_ := Aside0.mk ((by rw [hg]; exact (below_size (by repeat (first | (with_reducible first | exact HB.out | apply below_alloc | apply pw_below_drewN | apply below_drew1 | refine below_set ?_ GE249.out | refine below_set ?_ GE252.out | refine below_set ?_ GE256.out | refine below_set ?_ GE260.out) | exact HB.out))) : w.heap.size ≤ gb264)); have n8_ := Aside0.mk ((by rw [hg]; exact Nat.ne_of_lt (blk_lt (g := gb249) (o := .cells #[.int .i64 t247, .int .i64 t248] 25 (0, 0)) (by (with_reducible repeat (first | refine blk_drewN ?_ _ | refine blk_drew ?_ | refine blk_alloc ?_ _)); exact BK249.out)) : gb249 ≠ gb264)); have n9_ := Aside0.mk ((by rw [hg]; exact Nat.ne_of_gt (blk_lt (g := gb249) (o := .cells #[.int .i64 t247, .int .i64 t248] 25 (0, 0)) (by (with_reducible repeat (first | refine blk_drewN ?_ _ | refine blk_drew ?_ | refine blk_alloc ?_ _)); exact BK249.out)) : gb264 ≠ gb249)); have n10_ := Aside0.mk ((by rw [hg]; exact Nat.ne_of_lt (blk_lt (g := gb252) (o := .cells #[.int .i64 t250, .int .i64 t251] 25 (0, 0)) (by (with_reducible repeat (first | refine blk_drewN ?_ _ | refine blk_drew ?_ | refine blk_alloc ?_ _)); exact BK252.out)) : gb252 ≠ gb264)); have n11_ := Aside0.mk ((by rw [hg]; exact Nat.ne_of_gt (blk_lt (g := gb252) (o := .cells #[.int .i64 t250, .int .i64 t251] 25 (0, 0)) (by (with_reducible repeat (first | refine blk_drewN ?_ _ | refine blk_drew ?_ | refine blk_alloc ?_ _)); exact BK252.out)) : gb264 ≠ gb252)); have n12_ := Aside0.mk ((by rw [hg]; exact Nat.ne_of_lt (blk_lt (g := gb256) (o := .cells #[.int .i64 t253, .int .i64 t254] 25 (0, 0)) (by (with_reducible repeat (first | refine blk_drewN ?_ _ | refine blk_drew ?_ | refine blk_alloc ?_ _)); exact BK256.out)) : gb256 ≠ gb264)); have n13_ := Aside0.mk ((by rw [hg]; exact Nat.ne_of_gt (blk_lt (g := gb256) (o := .cells #[.int .i64 t253, .int .i64 t254] 25 (0, 0)) (by (with_reducible repeat (first | refine blk_drewN ?_ _ | refine blk_drew ?_ | refine blk_alloc ?_ _)); exact BK256.out)) : gb264 ≠ gb256)); have n14_ := Aside0.mk ((by rw [hg]; exact Nat.ne_of_lt (blk_lt (g := gb260) (o := .cells #[.int .i64 t257, .int .i64 t258] 25 (0, 0)) (by (with_reducible repeat (first | refine blk_drewN ?_ _ | refine blk_drew ?_ | refine blk_alloc ?_ _)); exact BK260.out)) : gb260 ≠ gb264)); have n15_ := Aside0.mk ((by rw [hg]; exact Nat.ne_of_gt (blk_lt (g := gb260) (o := .cells #[.int .i64 t257, .int .i64 t258] 25 (0, 0)) (by (with_reducible repeat (first | refine blk_drewN ?_ _ | refine blk_drew ?_ | refine blk_alloc ?_ _)); exact BK260.out)) : gb264 ≠ gb260)); clear BK249; clear BK252; clear BK256; clear BK260; clear HB; have BK249 := n0_; have BK252 := n1_; have BK256 := n2_; have BK260 := n3_; have HB := n4_; have BK264 := n5_; have GW264 := n6_; have GE264 := n7_; have NB249_264 := n8_; have NB264_249 := n9_; have NB252_264 := n10_; have NB264_252 := n11_; have NB256_264 := n12_; have NB264_256 := n13_; have NB260_264 := n14_; have NB264_260 := n15_; clear n0_ n1_ n2_ n3_ n4_ n5_ n6_ n7_ n8_ n9_ n10_ n11_ n12_ n13_ n14_ n15_; clear hb hbox hg; have hnb39 := NB264_249.out; have hnc39 := NB249_264.out; have hnb40 := NB264_252.out; have hnc40 := NB252_264.out; have hnb41 := NB264_256.out; have hnc41 := NB256_264.out; have hnb42 := NB264_260.out; have hnc42 := NB260_264.out; have hcz43_0 : w38.cell? ⟨gb264, 0, none⟩ = some (.int .i64 0) := (blk_cell BK264.out 0).trans rfl; have hcz43_1 : w38.cell? ⟨gb264, 1, none⟩ = some (.int .i64 0) := (blk_cell BK264.out 1).trans rfl; have hfz43_0 := blk_frozen BK264.out 0; have hfz43_1 := blk_frozen BK264.out 1; have hcz44_0 : w38.cell? ⟨gb249, 0, none⟩ = some (.int .i64 t247) := (blk_cell BK249.out 0).trans rfl; have hcz44_1 : w38.cell? ⟨gb249, 1, none⟩ = some (.int .i64 t248) := (blk_cell BK249.out 1).trans rfl; have hfz44_0 := blk_frozen BK249.out 0; have hfz44_1 := blk_frozen BK249.out 1) | ((with_reducible refine gate_callee (f := 9) rfl ?_); refine goesL_ (some 58) rfl rfl Tryz.func9 (by kernel_rfl) rfl #[.agg #[.int .i64 t247, .int .i64 t248]] rfl (by (try simp only [List.map_toArray, List.map_cons, List.map_nil]); first | done | rfl | (simp only [List.length_drop, List.length_take]; rfl)) ?_; (with_reducible refine (impl_FractionText.calls k t247 t248 t265 t266 _ (by first | exact HT0.out | exact TabOk.below HT0.out (by repeat (first | (with_reducible first | exact HB.out | apply below_alloc | apply pw_below_drewN | apply below_drew1 | refine below_set ?_ GE249.out | refine below_set ?_ GE252.out | refine below_set ?_ GE256.out | refine below_set ?_ GE260.out | refine below_set ?_ GE264.out) | exact HB.out))) A10.out).mono ?_); rintro e w45 ⟨rfl, hb⟩; refine ⟨_, rfl, ?_⟩; have n0_ := Aside0.mk (blk_below (g := gb249) (o := .cells #[.int .i64 t247, .int .i64 t248] 25 (0, 0)) (by (with_reducible repeat (first | refine blk_drewN ?_ _ | refine blk_drew ?_ | refine blk_alloc ?_ _)); refine blk_far ?_ NB249_264.out _; (with_reducible repeat (first | refine blk_drewN ?_ _ | refine blk_drew ?_ | refine blk_alloc ?_ _)); refine blk_far ?_ NB249_264.out _; (with_reducible repeat (first | refine blk_drewN ?_ _ | refine blk_drew ?_ | refine blk_alloc ?_ _)); exact BK249.out) hb); have n1_ := Aside0.mk (blk_below (g := gb252) (o := .cells #[.int .i64 t250, .int .i64 t251] 25 (0, 0)) (by (with_reducible repeat (first | refine blk_drewN ?_ _ | refine blk_drew ?_ | refine blk_alloc ?_ _)); refine blk_far ?_ NB252_264.out _; (with_reducible repeat (first | refine blk_drewN ?_ _ | refine blk_drew ?_ | refine blk_alloc ?_ _)); refine blk_far ?_ NB252_264.out _; (with_reducible repeat (first | refine blk_drewN ?_ _ | refine blk_drew ?_ | refine blk_alloc ?_ _)); exact BK252.out) hb); have n2_ := Aside0.mk (blk_below (g := gb256) (o := .cells #[.int .i64 t253, .int .i64 t254] 25 (0, 0)) (by (with_reducible repeat (first | refine blk_drewN ?_ _ | refine blk_drew ?_ | refine blk_alloc ?_ _)); refine blk_far ?_ NB256_264.out _; (with_reducible repeat (first | refine blk_drewN ?_ _ | refine blk_drew ?_ | refine blk_alloc ?_ _)); refine blk_far ?_ NB256_264.out _; (with_reducible repeat (first | refine blk_drewN ?_ _ | refine blk_drew ?_ | refine blk_alloc ?_ _)); exact BK256.out) hb); have n3_ := Aside0.mk (blk_below (g := gb260) (o := .cells #[.int .i64 t257, .int .i64 t258] 25 (0, 0)) (by (with_reducible repeat (first | refine blk_drewN ?_ _ | refine blk_drew ?_ | refine blk_alloc ?_ _)); refine blk_far ?_ NB260_264.out _; (with_reducible repeat (first | refine blk_drewN ?_ _ | refine blk_drew ?_ | refine blk_alloc ?_ _)); refine blk_far ?_ NB260_264.out _; (with_reducible repeat (first | refine blk_drewN ?_ _ | refine blk_drew ?_ | refine blk_alloc ?_ _)); exact BK260.out) hb); have n4_ := Aside0.mk (blk_below (g := gb264) (o := .cells #[.int .i64 t261, .int .i64 t262] 25 (0, 0)) (by (with_reducible repeat (first | refine blk_drewN ?_ _ | refine blk_drew ?_ | refine blk_alloc ?_ _)); refine blk_put (cs := #[.int .i64 t261, .int .i64 0]) ?_ 1 _ rfl; (with_reducible repeat (first | refine blk_drewN ?_ _ | refine blk_drew ?_ | refine blk_alloc ?_ _)); refine blk_put (cs := #[.int .i64 0, .int .i64 0]) ?_ 0 _ rfl; (with_reducible repeat (first | refine blk_drewN ?_ _ | refine blk_drew ?_ | refine blk_alloc ?_ _)); exact BK264.out) hb); have n5_ := Aside0.mk (below_step (by repeat (first | (with_reducible first | exact HB.out | apply below_alloc | apply pw_below_drewN | apply below_drew1 | refine below_set ?_ GE249.out | refine below_set ?_ GE252.out | refine below_set ?_ GE256.out | refine below_set ?_ GE260.out | refine below_set ?_ GE264.out) | exact HB.out)) hb); clear BK249; clear BK252; clear BK256; clear BK260; clear BK264; clear HB; have BK249 := n0_; have BK252 := n1_; have BK256 := n2_; have BK260 := n3_; have BK264 := n4_; have HB := n5_; clear n0_ n1_ n2_ n3_ n4_ n5_; (try clear hb); (try clear hb2); (try clear hk); (try clear hi)) | ((with_reducible refine gate_callee (f := 10) rfl ?_); refine goesL_ (some 63) rfl rfl Tryz.func10 (by kernel_rfl) rfl #[.string t265] rfl (by (try simp only [List.map_toArray, List.map_cons, List.map_nil]); first | done | rfl | (simp only [List.length_drop, List.length_take]; rfl)) ?_; (with_reducible refine (impl_ReadFraction.calls k t265 t267 t268 t269 _ (by first | exact HT0.out | exact TabOk.below HT0.out (by repeat (first | (with_reducible first | exact HB.out | apply below_alloc | apply pw_below_drewN | apply below_drew1 | refine below_set ?_ GE249.out | refine below_set ?_ GE252.out | refine below_set ?_ GE256.out | refine below_set ?_ GE260.out | refine below_set ?_ GE264.out) | exact HB.out))) A11.out).mono ?_); rintro e w46 ⟨rfl, hb⟩; refine ⟨_, rfl, ?_⟩; have n0_ := Aside0.mk (blk_below (g := gb249) (o := .cells #[.int .i64 t247, .int .i64 t248] 25 (0, 0)) (by (with_reducible repeat (first | refine blk_drewN ?_ _ | refine blk_drew ?_ | refine blk_alloc ?_ _)); exact BK249.out) hb); have n1_ := Aside0.mk (blk_below (g := gb252) (o := .cells #[.int .i64 t250, .int .i64 t251] 25 (0, 0)) (by (with_reducible repeat (first | refine blk_drewN ?_ _ | refine blk_drew ?_ | refine blk_alloc ?_ _)); exact BK252.out) hb); have n2_ := Aside0.mk (blk_below (g := gb256) (o := .cells #[.int .i64 t253, .int .i64 t254] 25 (0, 0)) (by (with_reducible repeat (first | refine blk_drewN ?_ _ | refine blk_drew ?_ | refine blk_alloc ?_ _)); exact BK256.out) hb); have n3_ := Aside0.mk (blk_below (g := gb260) (o := .cells #[.int .i64 t257, .int .i64 t258] 25 (0, 0)) (by (with_reducible repeat (first | refine blk_drewN ?_ _ | refine blk_drew ?_ | refine blk_alloc ?_ _)); exact BK260.out) hb); have n4_ := Aside0.mk (blk_below (g := gb264) (o := .cells #[.int .i64 t261, .int .i64 t262] 25 (0, 0)) (by (with_reducible repeat (first | refine blk_drewN ?_ _ | refine blk_drew ?_ | refine blk_alloc ?_ _)); exact BK264.out) hb); have n5_ := Aside0.mk (below_step (by repeat (first | (with_reducible first | exact HB.out | apply below_alloc | apply pw_below_drewN | apply below_drew1 | refine below_set ?_ GE249.out | refine below_set ?_ GE252.out | refine below_set ?_ GE256.out | refine below_set ?_ GE260.out | refine below_set ?_ GE264.out) | exact HB.out)) hb); clear BK249; clear BK252; clear BK256; clear BK260; clear BK264; clear HB; have BK249 := n0_; have BK252 := n1_; have BK256 := n2_; have BK260 := n3_; have BK264 := n4_; have HB := n5_; clear n0_ n1_ n2_ n3_ n4_ n5_; (try clear hb); (try clear hb2); (try clear hk); (try clear hi)) | ((with_reducible refine gate_dst (N := 15) rfl ?_); refine box_event ?hg (N := 15) ?hd (cs := #[.int .i64 0, .int .i64 0]) (t := 25) ?hr ?_; (case hd => rfl); (case hg => rfl); (case hr => first | (go_simp; done) | (go_simp; rfl)); intro gb270 hg w47 hbox hb; have n0_ := Aside0.mk (blk_below (g := gb249) (o := .cells #[.int .i64 t247, .int .i64 t248] 25 (0, 0)) (by (with_reducible repeat (first | refine blk_drewN ?_ _ | refine blk_drew ?_ | refine blk_alloc ?_ _)); exact BK249.out) hb); have n1_ := Aside0.mk (blk_below (g := gb252) (o := .cells #[.int .i64 t250, .int .i64 t251] 25 (0, 0)) (by (with_reducible repeat (first | refine blk_drewN ?_ _ | refine blk_drew ?_ | refine blk_alloc ?_ _)); exact BK252.out) hb); have n2_ := Aside0.mk (blk_below (g := gb256) (o := .cells #[.int .i64 t253, .int .i64 t254] 25 (0, 0)) (by (with_reducible repeat (first | refine blk_drewN ?_ _ | refine blk_drew ?_ | refine blk_alloc ?_ _)); exact BK256.out) hb); have n3_ := Aside0.mk (blk_below (g := gb260) (o := .cells #[.int .i64 t257, .int .i64 t258] 25 (0, 0)) (by (with_reducible repeat (first | refine blk_drewN ?_ _ | refine blk_drew ?_ | refine blk_alloc ?_ _)); exact BK260.out) hb); have n4_ := Aside0.mk (blk_below (g := gb264) (o := .cells #[.int .i64 t261, .int .i64 t262] 25 (0, 0)) (by (with_reducible repeat (first | refine blk_drewN ?_ _ | refine blk_drew ?_ | refine blk_alloc ?_ _)); exact BK264.out) hb); have n5_ := Aside0.mk (below_step (by repeat (first | (with_reducible first | exact HB.out | apply below_alloc | apply pw_below_drewN | apply below_drew1 | refine below_set ?_ GE249.out | refine below_set ?_ GE252.out | refine below_set ?_ GE256.out | refine below_set ?_ GE260.out | refine below_set ?_ GE264.out) | exact HB.out)) hb); have n6_ := Aside0.mk (hbox); have n7_ := Aside0.mk ((by rw [hg]; exact (below_size (by repeat (first | (with_reducible first | exact HB.out | apply below_alloc | apply pw_below_drewN | apply below_drew1 | refine below_set ?_ GE249.out | refine below_set ?_ GE252.out | refine below_set ?_ GE256.out | refine below_set ?_ GE260.out | refine below_set ?_ GE264.out) | exact HB.out))) : w.heap.size ≤ gb270)); have n8_ := Aside0.mk ((by rw [hg]; exact (below_size (by repeat (first | (with_reducible first | exact HB.out | apply below_alloc | apply pw_below_drewN | apply below_drew1 | refine below_set ?_ GE249.out | refine below_set ?_ GE252.out | refine below_set ?_ GE256.out | refine below_set ?_ GE260.out | refine below_set ?_ GE264.out) | exact HB.out))) : w.heap.size ≤ gb270)); have n9_ := Aside0.mk ((by rw [hg]; exact Nat.ne_of_lt (blk_lt (g := gb249) (o := .cells #[.int .i64 t247, .int .i64 t248] 25 (0, 0)) (by (with_reducible repeat (first | refine blk_drewN ?_ _ | refine blk_drew ?_ | refine blk_alloc ?_ _)); exact BK249.out)) : gb249 ≠ gb270)); have n10_ := Aside0.mk ((by rw [hg]; exact Nat.ne_of_gt (blk_lt (g := gb249) (o := .cells #[.int .i64 t247, .int .i64 t248] 25 (0, 0)) (by (with_reducible repeat (first | refine blk_drewN ?_ _ | refine blk_drew ?_ | refine blk_alloc ?_ _)); exact BK249.out)) : gb270 ≠ gb249)); have n11_ := Aside0.mk ((by rw [hg]; exact Nat.ne_of_lt (blk_lt (g := gb252) (o := .cells #[.int .i64 t250, .int .i64 t251] 25 (0, 0)) (by (with_reducible repeat (first | refine blk_drewN ?_ _ | refine blk_drew ?_ | refine blk_alloc ?_ _)); exact BK252.out)) : gb252 ≠ gb270)); have n12_ := Aside0.mk ((by rw [hg]; exact Nat.ne_of_gt (blk_lt (g := gb252) (o := .cells #[.int .i64 t250, .int .i64 t251] 25 (0, 0)) (by (with_reducible repeat (first | refine blk_drewN ?_ _ | refine blk_drew ?_ | refine blk_alloc ?_ _)); exact BK252.out)) : gb270 ≠ gb252)); have n13_ := Aside0.mk ((by rw [hg]; exact Nat.ne_of_lt (blk_lt (g := gb256) (o := .cells #[.int .i64 t253, .int .i64 t254] 25 (0, 0)) (by (with_reducible repeat (first | refine blk_drewN ?_ _ | refine blk_drew ?_ | refine blk_alloc ?_ _)); exact BK256.out)) : gb256 ≠ gb270)); have n14_ := Aside0.mk ((by rw [hg]; exact Nat.ne_of_gt (blk_lt (g := gb256) (o := .cells #[.int .i64 t253, .int .i64 t254] 25 (0, 0)) (by (with_reducible repeat (first | refine blk_drewN ?_ _ | refine blk_drew ?_ | refine blk_alloc ?_ _)); exact BK256.out)) : gb270 ≠ gb256)); have n15_ := Aside0.mk ((by rw [hg]; exact Nat.ne_of_lt (blk_lt (g := gb260) (o := .cells #[.int .i64 t257, .int .i64 t258] 25 (0, 0)) (by (with_reducible repeat (first | refine blk_drewN ?_ _ | refine blk_drew ?_ | refine blk_alloc ?_ _)); exact BK260.out)) : gb260 ≠ gb270)); have n16_ := Aside0.mk ((by rw [hg]; exact Nat.ne_of_gt (blk_lt (g := gb260) (o := .cells #[.int .i64 t257, .int .i64 t258] 25 (0, 0)) (by (with_reducible repeat (first | refine blk_drewN ?_ _ | refine blk_drew ?_ | refine blk_alloc ?_ _)); exact BK260.out)) : gb270 ≠ gb260)); have n17_ := Aside0.mk ((by rw [hg]; exact Nat.ne_of_lt (blk_lt (g := gb264) (o := .cells #[.int .i64 t261, .int .i64 t262] 25 (0, 0)) (by (with_reducible repeat (first | refine blk_drewN ?_ _ | refine blk_drew ?_ | refine blk_alloc ?_ _)); exact BK264.out)) : gb264 ≠ gb270)); have n18_ := Aside0.mk ((by rw [hg]; exact Nat.ne_of_gt (blk_lt (g := gb264) (o := .cells #[.int .i64 t261, .int .i64 t262] 25 (0, 0)) (by (with_reducible repeat (first | refine blk_drewN ?_ _ | refine blk_drew ?_ | refine blk_alloc ?_ _)); exact BK264.out)) : gb270 ≠ gb264)); clear BK249; clear BK252; clear BK256; clear BK260; clear BK264; clear HB; have BK249 := n0_; have BK252 := n1_; have BK256 := n2_; have BK260 := n3_; have BK264 := n4_; have HB := n5_; have BK270 := n6_; have GW270 := n7_; have GE270 := n8_; have NB249_270 := n9_; have NB270_249 := n10_; have NB252_270 := n11_; have NB270_252 := n12_; have NB256_270 := n13_; have NB270_256 := n14_; have NB260_270 := n15_; have NB270_260 := n16_; have NB264_270 := n17_; have NB270_264 := n18_; clear n0_ n1_ n2_ n3_ n4_ n5_ n6_ n7_ n8_ n9_ n10_ n11_ n12_ n13_ n14_ n15_ n16_ n17_ n18_; clear hb hbox hg; have hnb48 := NB270_249.out; have hnc48 := NB249_270.out; have hnb49 := NB270_252.out; have hnc49 := NB252_270.out; have hnb50 := NB270_256.out; have hnc50 := NB256_270.out; have hnb51 := NB270_260.out; have hnc51 := NB260_270.out; have hnb52 := NB270_264.out; have hnc52 := NB264_270.out; have hcz53_0 : w47.cell? ⟨gb270, 0, none⟩ = some (.int .i64 0) := (blk_cell BK270.out 0).trans rfl; have hcz53_1 : w47.cell? ⟨gb270, 1, none⟩ = some (.int .i64 0) := (blk_cell BK270.out 1).trans rfl; have hfz53_0 := blk_frozen BK270.out 0; have hfz53_1 := blk_frozen BK270.out 1; have hcz54_0 : w47.cell? ⟨gb249, 0, none⟩ = some (.int .i64 t247) := (blk_cell BK249.out 0).trans rfl; have hcz54_1 : w47.cell? ⟨gb249, 1, none⟩ = some (.int .i64 t248) := (blk_cell BK249.out 1).trans rfl; have hfz54_0 := blk_frozen BK249.out 0; have hfz54_1 := blk_frozen BK249.out 1; have hcz55_0 : w47.cell? ⟨gb252, 0, none⟩ = some (.int .i64 t250) := (blk_cell BK252.out 0).trans rfl; have hcz55_1 : w47.cell? ⟨gb252, 1, none⟩ = some (.int .i64 t251) := (blk_cell BK252.out 1).trans rfl; have hfz55_0 := blk_frozen BK252.out 0; have hfz55_1 := blk_frozen BK252.out 1) | ((with_reducible refine gate_dst (N := 69) rfl ?_); refine Kd.R_lit k25 _ 25 ?hg (N := 69) ?hd (xs := ([(⟨t247, t248⟩ : S25), (⟨t250, t251⟩ : S25)] : List (S25))) (inner := [.int .i64 t247, .int .i64 t248, .int .i64 t250, .int .i64 t251]) (ok := fun _ => True) (okp := fun _ => True) ?hr ?hp (fun _ hk => hk) trivial (Below.refl _ _) (Nat.le_refl _) (by simp) ?_; (case hd => rfl); (case hg => rfl); (case hr => first | (go_simp; done) | (go_simp; rfl)); (case hp => exact (Reps.c2 (show Kd.M k25 _ _ _ (⟨t247, t248⟩ : S25) [.int .i64 t247, .int .i64 t248] from (k25_mkM _ _ _ (⟨t247, t248⟩ : S25) )) (Reps.c2 (show Kd.M k25 _ _ _ (⟨t250, t251⟩ : S25) [.int .i64 t250, .int .i64 t251] from (k25_mkM _ _ _ (⟨t250, t251⟩ : S25) )) (Reps.none _ _)))); intro v272 w56 ho57 hb hg_ hnew_; clear hg_ hnew_; (first | rw [← Ny271.out] at ho57 | (simp only [Int.reduceToNat] at ho57; rw [← Ny271.out] at ho57)); have n0_ := Aside0.mk (Kd.R_lower (Kd.R_newB (Kd.R_newB (Kd.R_newB (Kd.R_newB (Kd.R_newB (Kd.R_newB ho57 (g := gb249) (o := .cells #[.int .i64 t247, .int .i64 t248] 25 (0, 0)) (by (with_reducible repeat (first | refine blk_drewN ?_ _ | refine blk_drew ?_ | refine blk_alloc ?_ _)); refine blk_far ?_ NB249_270.out _; (with_reducible repeat (first | refine blk_drewN ?_ _ | refine blk_drew ?_ | refine blk_alloc ?_ _)); refine blk_far ?_ NB249_270.out _; (with_reducible repeat (first | refine blk_drewN ?_ _ | refine blk_drew ?_ | refine blk_alloc ?_ _)); exact BK249.out)) (g := gb252) (o := .cells #[.int .i64 t250, .int .i64 t251] 25 (0, 0)) (by (with_reducible repeat (first | refine blk_drewN ?_ _ | refine blk_drew ?_ | refine blk_alloc ?_ _)); refine blk_far ?_ NB252_270.out _; (with_reducible repeat (first | refine blk_drewN ?_ _ | refine blk_drew ?_ | refine blk_alloc ?_ _)); refine blk_far ?_ NB252_270.out _; (with_reducible repeat (first | refine blk_drewN ?_ _ | refine blk_drew ?_ | refine blk_alloc ?_ _)); exact BK252.out)) (g := gb256) (o := .cells #[.int .i64 t253, .int .i64 t254] 25 (0, 0)) (by (with_reducible repeat (first | refine blk_drewN ?_ _ | refine blk_drew ?_ | refine blk_alloc ?_ _)); refine blk_far ?_ NB256_270.out _; (with_reducible repeat (first | refine blk_drewN ?_ _ | refine blk_drew ?_ | refine blk_alloc ?_ _)); refine blk_far ?_ NB256_270.out _; (with_reducible repeat (first | refine blk_drewN ?_ _ | refine blk_drew ?_ | refine blk_alloc ?_ _)); exact BK256.out)) (g := gb260) (o := .cells #[.int .i64 t257, .int .i64 t258] 25 (0, 0)) (by (with_reducible repeat (first | refine blk_drewN ?_ _ | refine blk_drew ?_ | refine blk_alloc ?_ _)); refine blk_far ?_ NB260_270.out _; (with_reducible repeat (first | refine blk_drewN ?_ _ | refine blk_drew ?_ | refine blk_alloc ?_ _)); refine blk_far ?_ NB260_270.out _; (with_reducible repeat (first | refine blk_drewN ?_ _ | refine blk_drew ?_ | refine blk_alloc ?_ _)); exact BK260.out)) (g := gb264) (o := .cells #[.int .i64 t261, .int .i64 t262] 25 (0, 0)) (by (with_reducible repeat (first | refine blk_drewN ?_ _ | refine blk_drew ?_ | refine blk_alloc ?_ _)); refine blk_far ?_ NB264_270.out _; (with_reducible repeat (first | refine blk_drewN ?_ _ | refine blk_drew ?_ | refine blk_alloc ?_ _)); refine blk_far ?_ NB264_270.out _; (with_reducible repeat (first | refine blk_drewN ?_ _ | refine blk_drew ?_ | refine blk_alloc ?_ _)); exact BK264.out)) (g := gb270) (o := .cells #[.int .i64 t267, .int .i64 t268] 25 (0, 0)) (by (with_reducible repeat (first | refine blk_drewN ?_ _ | refine blk_drew ?_ | refine blk_alloc ?_ _)); refine blk_put (cs := #[.int .i64 t267, .int .i64 0]) ?_ 1 _ rfl; (with_reducible repeat (first | refine blk_drewN ?_ _ | refine blk_drew ?_ | refine blk_alloc ?_ _)); refine blk_put (cs := #[.int .i64 0, .int .i64 0]) ?_ 0 _ rfl; (with_reducible repeat (first | refine blk_drewN ?_ _ | refine blk_drew ?_ | refine blk_alloc ?_ _)); exact BK270.out)) (below_size (by repeat (first | (with_reducible first | exact HB.out | apply below_alloc | apply pw_below_drewN | apply below_drew1 | refine below_set ?_ GE249.out | refine below_set ?_ GE252.out | refine below_set ?_ GE256.out | refine below_set ?_ GE260.out | refine below_set ?_ GE264.out | refine below_set ?_ GE270.out) | exact HB.out)))); have n1_ := Aside0.mk (blk_below (g := gb249) (o := .cells #[.int .i64 t247, .int .i64 t248] 25 (0, 0)) (by (with_reducible repeat (first | refine blk_drewN ?_ _ | refine blk_drew ?_ | refine blk_alloc ?_ _)); refine blk_far ?_ NB249_270.out _; (with_reducible repeat (first | refine blk_drewN ?_ _ | refine blk_drew ?_ | refine blk_alloc ?_ _)); refine blk_far ?_ NB249_270.out _; (with_reducible repeat (first | refine blk_drewN ?_ _ | refine blk_drew ?_ | refine blk_alloc ?_ _)); exact BK249.out) hb); have n2_ := Aside0.mk (blk_below (g := gb252) (o := .cells #[.int .i64 t250, .int .i64 t251] 25 (0, 0)) (by (with_reducible repeat (first | refine blk_drewN ?_ _ | refine blk_drew ?_ | refine blk_alloc ?_ _)); refine blk_far ?_ NB252_270.out _; (with_reducible repeat (first | refine blk_drewN ?_ _ | refine blk_drew ?_ | refine blk_alloc ?_ _)); refine blk_far ?_ NB252_270.out _; (with_reducible repeat (first | refine blk_drewN ?_ _ | refine blk_drew ?_ | refine blk_alloc ?_ _)); exact BK252.out) hb); have n3_ := Aside0.mk (blk_below (g := gb256) (o := .cells #[.int .i64 t253, .int .i64 t254] 25 (0, 0)) (by (with_reducible repeat (first | refine blk_drewN ?_ _ | refine blk_drew ?_ | refine blk_alloc ?_ _)); refine blk_far ?_ NB256_270.out _; (with_reducible repeat (first | refine blk_drewN ?_ _ | refine blk_drew ?_ | refine blk_alloc ?_ _)); refine blk_far ?_ NB256_270.out _; (with_reducible repeat (first | refine blk_drewN ?_ _ | refine blk_drew ?_ | refine blk_alloc ?_ _)); exact BK256.out) hb); have n4_ := Aside0.mk (blk_below (g := gb260) (o := .cells #[.int .i64 t257, .int .i64 t258] 25 (0, 0)) (by (with_reducible repeat (first | refine blk_drewN ?_ _ | refine blk_drew ?_ | refine blk_alloc ?_ _)); refine blk_far ?_ NB260_270.out _; (with_reducible repeat (first | refine blk_drewN ?_ _ | refine blk_drew ?_ | refine blk_alloc ?_ _)); refine blk_far ?_ NB260_270.out _; (with_reducible repeat (first | refine blk_drewN ?_ _ | refine blk_drew ?_ | refine blk_alloc ?_ _)); exact BK260.out) hb); have n5_ := Aside0.mk (blk_below (g := gb264) (o := .cells #[.int .i64 t261, .int .i64 t262] 25 (0, 0)) (by (with_reducible repeat (first | refine blk_drewN ?_ _ | refine blk_drew ?_ | refine blk_alloc ?_ _)); refine blk_far ?_ NB264_270.out _; (with_reducible repeat (first | refine blk_drewN ?_ _ | refine blk_drew ?_ | refine blk_alloc ?_ _)); refine blk_far ?_ NB264_270.out _; (with_reducible repeat (first | refine blk_drewN ?_ _ | refine blk_drew ?_ | refine blk_alloc ?_ _)); exact BK264.out) hb); have n6_ := Aside0.mk (blk_below (g := gb270) (o := .cells #[.int .i64 t267, .int .i64 t268] 25 (0, 0)) (by (with_reducible repeat (first | refine blk_drewN ?_ _ | refine blk_drew ?_ | refine blk_alloc ?_ _)); refine blk_put (cs := #[.int .i64 t267, .int .i64 0]) ?_ 1 _ rfl; (with_reducible repeat (first | refine blk_drewN ?_ _ | refine blk_drew ?_ | refine blk_alloc ?_ _)); refine blk_put (cs := #[.int .i64 0, .int .i64 0]) ?_ 0 _ rfl; (with_reducible repeat (first | refine blk_drewN ?_ _ | refine blk_drew ?_ | refine blk_alloc ?_ _)); exact BK270.out) hb); have n7_ := Aside0.mk (below_step (by repeat (first | (with_reducible first | exact HB.out | apply below_alloc | apply pw_below_drewN | apply below_drew1 | refine below_set ?_ GE249.out | refine below_set ?_ GE252.out | refine below_set ?_ GE256.out | refine below_set ?_ GE260.out | refine below_set ?_ GE264.out | refine below_set ?_ GE270.out) | exact HB.out)) hb); clear BK249; clear BK252; clear BK256; clear BK260; clear BK264; clear BK270; clear HB; have HO273 := n0_; have BK249 := n1_; have BK252 := n2_; have BK256 := n3_; have BK260 := n4_; have BK264 := n5_; have BK270 := n6_; have HB := n7_; clear n0_ n1_ n2_ n3_ n4_ n5_ n6_ n7_; clear hb ho57; obtain ⟨Ao58, co58, eo58⟩ := Kd.R_slice HO273.out; subst eo58) | ((with_reducible refine gate_callee (f := 11) rfl ?_); refine goesL_ (some 70) rfl rfl Tryz.func11 (by kernel_rfl) rfl #[.slice Ao58 y271.length co58] rfl (by (try simp only [List.map_toArray, List.map_cons, List.map_nil]); first | done | rfl | (simp only [List.length_drop, List.length_take]; rfl)) ?_; (with_reducible refine (impl_SumFractions.calls _ _ y271 t274 t275 t276 _ ?side1 ?side2 A12.out).mono ?_); (case side1 => repeat (first | exact (Kd.R_reads' HO273.out).2.2 | (with_reducible refine Kd.C_alloc ?_ _) | (with_reducible refine Kd.C_drewN ?_ _) | (with_reducible refine Kd.C_drew ?_))); (case side2 => exact (Kd.R_reads' HO273.out).2.1); rintro e w59 ⟨rfl, hb⟩; refine ⟨_, rfl, ?_⟩; have n0_ := Aside0.mk (Kd.R_below (by (with_reducible repeat (first | apply Kd.R_alloc | apply Kd.R_drewN | apply Kd.R_drew)); exact HO273.out) hb); have n1_ := Aside0.mk (blk_below (g := gb249) (o := .cells #[.int .i64 t247, .int .i64 t248] 25 (0, 0)) (by (with_reducible repeat (first | refine blk_drewN ?_ _ | refine blk_drew ?_ | refine blk_alloc ?_ _)); exact BK249.out) hb); have n2_ := Aside0.mk (blk_below (g := gb252) (o := .cells #[.int .i64 t250, .int .i64 t251] 25 (0, 0)) (by (with_reducible repeat (first | refine blk_drewN ?_ _ | refine blk_drew ?_ | refine blk_alloc ?_ _)); exact BK252.out) hb); have n3_ := Aside0.mk (blk_below (g := gb256) (o := .cells #[.int .i64 t253, .int .i64 t254] 25 (0, 0)) (by (with_reducible repeat (first | refine blk_drewN ?_ _ | refine blk_drew ?_ | refine blk_alloc ?_ _)); exact BK256.out) hb); have n4_ := Aside0.mk (blk_below (g := gb260) (o := .cells #[.int .i64 t257, .int .i64 t258] 25 (0, 0)) (by (with_reducible repeat (first | refine blk_drewN ?_ _ | refine blk_drew ?_ | refine blk_alloc ?_ _)); exact BK260.out) hb); have n5_ := Aside0.mk (blk_below (g := gb264) (o := .cells #[.int .i64 t261, .int .i64 t262] 25 (0, 0)) (by (with_reducible repeat (first | refine blk_drewN ?_ _ | refine blk_drew ?_ | refine blk_alloc ?_ _)); exact BK264.out) hb); have n6_ := Aside0.mk (blk_below (g := gb270) (o := .cells #[.int .i64 t267, .int .i64 t268] 25 (0, 0)) (by (with_reducible repeat (first | refine blk_drewN ?_ _ | refine blk_drew ?_ | refine blk_alloc ?_ _)); exact BK270.out) hb); have n7_ := Aside0.mk (below_step (by repeat (first | (with_reducible first | exact HB.out | apply below_alloc | apply pw_below_drewN | apply below_drew1 | refine below_set ?_ GE249.out | refine below_set ?_ GE252.out | refine below_set ?_ GE256.out | refine below_set ?_ GE260.out | refine below_set ?_ GE264.out | refine below_set ?_ GE270.out) | exact HB.out)) hb); clear HO273; clear BK249; clear BK252; clear BK256; clear BK260; clear BK264; clear BK270; clear HB; have HO273 := n0_; have BK249 := n1_; have BK252 := n2_; have BK256 := n3_; have BK260 := n4_; have BK264 := n5_; have BK270 := n6_; have HB := n7_; clear n0_ n1_ n2_ n3_ n4_ n5_ n6_ n7_; (try clear hb); (try clear hb2); (try clear hk); (try clear hi)) | ((with_reducible refine gate_dst (N := 17) rfl ?_); refine box_event ?hg (N := 17) ?hd (cs := #[.int .i64 0, .int .i64 0]) (t := 25) ?hr ?_; (case hd => rfl); (case hg => rfl); (case hr => first | (go_simp; done) | (go_simp; rfl)); intro gb277 hg w60 hbox hb; have n0_ := Aside0.mk (Kd.R_below (Kd.R_elderB (by (with_reducible repeat (first | apply Kd.R_alloc | apply Kd.R_drewN | apply Kd.R_drew)); exact HO273.out) gb277 (Nat.le_of_eq hg.symm)) hb); have n1_ := Aside0.mk (blk_below (g := gb249) (o := .cells #[.int .i64 t247, .int .i64 t248] 25 (0, 0)) (by (with_reducible repeat (first | refine blk_drewN ?_ _ | refine blk_drew ?_ | refine blk_alloc ?_ _)); exact BK249.out) hb); have n2_ := Aside0.mk (blk_below (g := gb252) (o := .cells #[.int .i64 t250, .int .i64 t251] 25 (0, 0)) (by (with_reducible repeat (first | refine blk_drewN ?_ _ | refine blk_drew ?_ | refine blk_alloc ?_ _)); exact BK252.out) hb); have n3_ := Aside0.mk (blk_below (g := gb256) (o := .cells #[.int .i64 t253, .int .i64 t254] 25 (0, 0)) (by (with_reducible repeat (first | refine blk_drewN ?_ _ | refine blk_drew ?_ | refine blk_alloc ?_ _)); exact BK256.out) hb); have n4_ := Aside0.mk (blk_below (g := gb260) (o := .cells #[.int .i64 t257, .int .i64 t258] 25 (0, 0)) (by (with_reducible repeat (first | refine blk_drewN ?_ _ | refine blk_drew ?_ | refine blk_alloc ?_ _)); exact BK260.out) hb); have n5_ := Aside0.mk (blk_below (g := gb264) (o := .cells #[.int .i64 t261, .int .i64 t262] 25 (0, 0)) (by (with_reducible repeat (first | refine blk_drewN ?_ _ | refine blk_drew ?_ | refine blk_alloc ?_ _)); exact BK264.out) hb); have n6_ := Aside0.mk (blk_below (g := gb270) (o := .cells #[.int .i64 t267, .int .i64 t268] 25 (0, 0)) (by (with_reducible repeat (first | refine blk_drewN ?_ _ | refine blk_drew ?_ | refine blk_alloc ?_ _)); exact BK270.out) hb); have n7_ := Aside0.mk (below_step (by repeat (first | (with_reducible first | exact HB.out | apply below_alloc | apply pw_below_drewN | apply below_drew1 | refine below_set ?_ GE249.out | refine below_set ?_ GE252.out | refine below_set ?_ GE256.out | refine below_set ?_ GE260.out | refine below_set ?_ GE264.out | refine below_set ?_ GE270.out) | exact HB.out)) hb); have n8_ := Aside0.mk (hbox); have n9_ := Aside0.mk ((by rw [hg]; exact (below_size (by repeat (first | (with_reducible first | exact HB.out | apply below_alloc | apply pw_below_drewN | apply below_drew1 | refine below_set ?_ GE249.out | refine below_set ?_ GE252.out | refine below_set ?_ GE256.out | refine below_set ?_ GE260.out | refine below_set ?_ GE264.out | refine below_set ?_ GE270.out) | exact HB.out))) : w.heap.size ≤ gb277)); have n10_ := Aside0.mk ((by rw [hg]; exact (below_size (by repeat (first | (with_reducible first | exact HB.out | apply below_alloc | apply pw_below_drewN | apply below_drew1 | refine below_set ?_ GE249.out | refine below_set ?_ GE252.out | refine below_set ?_ GE256.out | refine below_set ?_ GE260.out | refine below_set ?_ GE264.out | refine below_set ?_ GE270.out) | exact HB.out))) : w.heap.size ≤ gb277)); have n11_ := Aside0.mk ((by rw [hg]; exact Nat.ne_of_lt (blk_lt (g := gb249) (o := .cells #[.int .i64 t247, .int .i64 t248] 25 (0, 0)) (by (with_reducible repeat (first | refine blk_drewN ?_ _ | refine blk_drew ?_ | refine blk_alloc ?_ _)); exact BK249.out)) : gb249 ≠ gb277)); have n12_ := Aside0.mk ((by rw [hg]; exact Nat.ne_of_gt (blk_lt (g := gb249) (o := .cells #[.int .i64 t247, .int .i64 t248] 25 (0, 0)) (by (with_reducible repeat (first | refine blk_drewN ?_ _ | refine blk_drew ?_ | refine blk_alloc ?_ _)); exact BK249.out)) : gb277 ≠ gb249)); have n13_ := Aside0.mk ((by rw [hg]; exact Nat.ne_of_lt (blk_lt (g := gb252) (o := .cells #[.int .i64 t250, .int .i64 t251] 25 (0, 0)) (by (with_reducible repeat (first | refine blk_drewN ?_ _ | refine blk_drew ?_ | refine blk_alloc ?_ _)); exact BK252.out)) : gb252 ≠ gb277)); have n14_ := Aside0.mk ((by rw [hg]; exact Nat.ne_of_gt (blk_lt (g := gb252) (o := .cells #[.int .i64 t250, .int .i64 t251] 25 (0, 0)) (by (with_reducible repeat (first | refine blk_drewN ?_ _ | refine blk_drew ?_ | refine blk_alloc ?_ _)); exact BK252.out)) : gb277 ≠ gb252)); have n15_ := Aside0.mk ((by rw [hg]; exact Nat.ne_of_lt (blk_lt (g := gb256) (o := .cells #[.int .i64 t253, .int .i64 t254] 25 (0, 0)) (by (with_reducible repeat (first | refine blk_drewN ?_ _ | refine blk_drew ?_ | refine blk_alloc ?_ _)); exact BK256.out)) : gb256 ≠ gb277)); have n16_ := Aside0.mk ((by rw [hg]; exact Nat.ne_of_gt (blk_lt (g := gb256) (o := .cells #[.int .i64 t253, .int .i64 t254] 25 (0, 0)) (by (with_reducible repeat (first | refine blk_drewN ?_ _ | refine blk_drew ?_ | refine blk_alloc ?_ _)); exact BK256.out)) : gb277 ≠ gb256)); have n17_ := Aside0.mk ((by rw [hg]; exact Nat.ne_of_lt (blk_lt (g := gb260) (o := .cells #[.int .i64 t257, .int .i64 t258] 25 (0, 0)) (by (with_reducible repeat (first | refine blk_drewN ?_ _ | refine blk_drew ?_ | refine blk_alloc ?_ _)); exact BK260.out)) : gb260 ≠ gb277)); have n18_ := Aside0.mk ((by rw [hg]; exact Nat.ne_of_gt (blk_lt (g := gb260) (o := .cells #[.int .i64 t257, .int .i64 t258] 25 (0, 0)) (by (with_reducible repeat (first | refine blk_drewN ?_ _ | refine blk_drew ?_ | refine blk_alloc ?_ _)); exact BK260.out)) : gb277 ≠ gb260)); have n19_ := Aside0.mk ((by rw [hg]; exact Nat.ne_of_lt (blk_lt (g := gb264) (o := .cells #[.int .i64 t261, .int .i64 t262] 25 (0, 0)) (by (with_reducible repeat (first | refine blk_drewN ?_ _ | refine blk_drew ?_ | refine blk_alloc ?_ _)); exact BK264.out)) : gb264 ≠ gb277)); have n20_ := Aside0.mk ((by rw [hg]; exact Nat.ne_of_gt (blk_lt (g := gb264) (o := .cells #[.int .i64 t261, .int .i64 t262] 25 (0, 0)) (by (with_reducible repeat (first | refine blk_drewN ?_ _ | refine blk_drew ?_ | refine blk_alloc ?_ _)); exact BK264.out)) : gb277 ≠ gb264)); have n21_ := Aside0.mk ((by rw [hg]; exact Nat.ne_of_lt (blk_lt (g := gb270) (o := .cells #[.int .i64 t267, .int .i64 t268] 25 (0, 0)) (by (with_reducible repeat (first | refine blk_drewN ?_ _ | refine blk_drew ?_ | refine blk_alloc ?_ _)); exact BK270.out)) : gb270 ≠ gb277)); have n22_ := Aside0.mk ((by rw [hg]; exact Nat.ne_of_gt (blk_lt (g := gb270) (o := .cells #[.int .i64 t267, .int .i64 t268] 25 (0, 0)) (by (with_reducible repeat (first | refine blk_drewN ?_ _ | refine blk_drew ?_ | refine blk_alloc ?_ _)); exact BK270.out)) : gb277 ≠ gb270)); clear HO273; clear BK249; clear BK252; clear BK256; clear BK260; clear BK264; clear BK270; clear HB; have HO273 := n0_; have BK249 := n1_; have BK252 := n2_; have BK256 := n3_; have BK260 := n4_; have BK264 := n5_; have BK270 := n6_; have HB := n7_; have BK277 := n8_; have GW277 := n9_; have GE277 := n10_; have NB249_277 := n11_; have NB277_249 := n12_; have NB252_277 := n13_; have NB277_252 := n14_; have NB256_277 := n15_; have NB277_256 := n16_; have NB260_277 := n17_; have NB277_260 := n18_; have NB264_277 := n19_; have NB277_264 := n20_; have NB270_277 := n21_; have NB277_270 := n22_; clear n0_ n1_ n2_ n3_ n4_ n5_ n6_ n7_ n8_ n9_ n10_ n11_ n12_ n13_ n14_ n15_ n16_ n17_ n18_ n19_ n20_ n21_ n22_; clear hb hbox hg; have hnb61 := NB277_249.out; have hnc61 := NB249_277.out; have hnb62 := NB277_252.out; have hnc62 := NB252_277.out; have hnb63 := NB277_256.out; have hnc63 := NB256_277.out; have hnb64 := NB277_260.out; have hnc64 := NB260_277.out; have hnb65 := NB277_264.out; have hnc65 := NB264_277.out; have hnb66 := NB277_270.out; have hnc66 := NB270_277.out; have hcz67_0 : w60.cell? ⟨gb277, 0, none⟩ = some (.int .i64 0) := (blk_cell BK277.out 0).trans rfl; have hcz67_1 : w60.cell? ⟨gb277, 1, none⟩ = some (.int .i64 0) := (blk_cell BK277.out 1).trans rfl; have hfz67_0 := blk_frozen BK277.out 0; have hfz67_1 := blk_frozen BK277.out 1; have hcz68_0 : w60.cell? ⟨gb249, 0, none⟩ = some (.int .i64 t247) := (blk_cell BK249.out 0).trans rfl; have hcz68_1 : w60.cell? ⟨gb249, 1, none⟩ = some (.int .i64 t248) := (blk_cell BK249.out 1).trans rfl; have hfz68_0 := blk_frozen BK249.out 0; have hfz68_1 := blk_frozen BK249.out 1; have hcz69_0 : w60.cell? ⟨gb252, 0, none⟩ = some (.int .i64 t250) := (blk_cell BK252.out 0).trans rfl; have hcz69_1 : w60.cell? ⟨gb252, 1, none⟩ = some (.int .i64 t251) := (blk_cell BK252.out 1).trans rfl; have hfz69_0 := blk_frozen BK252.out 0; have hfz69_1 := blk_frozen BK252.out 1) | ((with_reducible refine gate_callee (f := 12) rfl ?_); refine goesL_ (some 76) rfl rfl Tryz.func12 (by kernel_rfl) rfl #[.agg #[.int .i64 t247, .int .i64 t248], .agg #[.int .i64 t250, .int .i64 t251]] rfl (by (try simp only [List.map_toArray, List.map_cons, List.map_nil]); first | done | rfl | (simp only [List.length_drop, List.length_take]; rfl)) ?_; (with_reducible refine (impl_CompareFractions.calls t247 t248 t250 t251 t278 t279 _ A13.out).mono ?_); rintro e w70 ⟨rfl, hb⟩; refine ⟨_, rfl, ?_⟩; have n0_ := Aside0.mk (Kd.R_below (by (with_reducible repeat (first | apply Kd.R_alloc | apply Kd.R_drewN | apply Kd.R_drew)); exact (Kd.R_mono (Kd.R_far (p := ⟨gb277, 1, none⟩) (Kd.R_far (p := ⟨gb277, 0, none⟩) (Kd.R_mono HO273.out (fun k_ hk => (⟨hk, hk.2⟩ : _ ∧ k_ ≠ gb277))) (fun _ hk => hk.2) (.int .i64 t274)) (fun _ hk => hk.2) (.int .i64 t275)) (fun _ h_ => h_.1))) hb); have n1_ := Aside0.mk (blk_below (g := gb249) (o := .cells #[.int .i64 t247, .int .i64 t248] 25 (0, 0)) (by (with_reducible repeat (first | refine blk_drewN ?_ _ | refine blk_drew ?_ | refine blk_alloc ?_ _)); refine blk_far ?_ NB249_277.out _; (with_reducible repeat (first | refine blk_drewN ?_ _ | refine blk_drew ?_ | refine blk_alloc ?_ _)); refine blk_far ?_ NB249_277.out _; (with_reducible repeat (first | refine blk_drewN ?_ _ | refine blk_drew ?_ | refine blk_alloc ?_ _)); exact BK249.out) hb); have n2_ := Aside0.mk (blk_below (g := gb252) (o := .cells #[.int .i64 t250, .int .i64 t251] 25 (0, 0)) (by (with_reducible repeat (first | refine blk_drewN ?_ _ | refine blk_drew ?_ | refine blk_alloc ?_ _)); refine blk_far ?_ NB252_277.out _; (with_reducible repeat (first | refine blk_drewN ?_ _ | refine blk_drew ?_ | refine blk_alloc ?_ _)); refine blk_far ?_ NB252_277.out _; (with_reducible repeat (first | refine blk_drewN ?_ _ | refine blk_drew ?_ | refine blk_alloc ?_ _)); exact BK252.out) hb); have n3_ := Aside0.mk (blk_below (g := gb256) (o := .cells #[.int .i64 t253, .int .i64 t254] 25 (0, 0)) (by (with_reducible repeat (first | refine blk_drewN ?_ _ | refine blk_drew ?_ | refine blk_alloc ?_ _)); refine blk_far ?_ NB256_277.out _; (with_reducible repeat (first | refine blk_drewN ?_ _ | refine blk_drew ?_ | refine blk_alloc ?_ _)); refine blk_far ?_ NB256_277.out _; (with_reducible repeat (first | refine blk_drewN ?_ _ | refine blk_drew ?_ | refine blk_alloc ?_ _)); exact BK256.out) hb); have n4_ := Aside0.mk (blk_below (g := gb260) (o := .cells #[.int .i64 t257, .int .i64 t258] 25 (0, 0)) (by (with_reducible repeat (first | refine blk_drewN ?_ _ | refine blk_drew ?_ | refine blk_alloc ?_ _)); refine blk_far ?_ NB260_277.out _; (with_reducible repeat (first | refine blk_drewN ?_ _ | refine blk_drew ?_ | refine blk_alloc ?_ _)); refine blk_far ?_ NB260_277.out _; (with_reducible repeat (first | refine blk_drewN ?_ _ | refine blk_drew ?_ | refine blk_alloc ?_ _)); exact BK260.out) hb); have n5_ := Aside0.mk (blk_below (g := gb264) (o := .cells #[.int .i64 t261, .int .i64 t262] 25 (0, 0)) (by (with_reducible repeat (first | refine blk_drewN ?_ _ | refine blk_drew ?_ | refine blk_alloc ?_ _)); refine blk_far ?_ NB264_277.out _; (with_reducible repeat (first | refine blk_drewN ?_ _ | refine blk_drew ?_ | refine blk_alloc ?_ _)); refine blk_far ?_ NB264_277.out _; (with_reducible repeat (first | refine blk_drewN ?_ _ | refine blk_drew ?_ | refine blk_alloc ?_ _)); exact BK264.out) hb); have n6_ := Aside0.mk (blk_below (g := gb270) (o := .cells #[.int .i64 t267, .int .i64 t268] 25 (0, 0)) (by (with_reducible repeat (first | refine blk_drewN ?_ _ | refine blk_drew ?_ | refine blk_alloc ?_ _)); refine blk_far ?_ NB270_277.out _; (with_reducible repeat (first | refine blk_drewN ?_ _ | refine blk_drew ?_ | refine blk_alloc ?_ _)); refine blk_far ?_ NB270_277.out _; (with_reducible repeat (first | refine blk_drewN ?_ _ | refine blk_drew ?_ | refine blk_alloc ?_ _)); exact BK270.out) hb); have n7_ := Aside0.mk (blk_below (g := gb277) (o := .cells #[.int .i64 t274, .int .i64 t275] 25 (0, 0)) (by (with_reducible repeat (first | refine blk_drewN ?_ _ | refine blk_drew ?_ | refine blk_alloc ?_ _)); refine blk_put (cs := #[.int .i64 t274, .int .i64 0]) ?_ 1 _ rfl; (with_reducible repeat (first | refine blk_drewN ?_ _ | refine blk_drew ?_ | refine blk_alloc ?_ _)); refine blk_put (cs := #[.int .i64 0, .int .i64 0]) ?_ 0 _ rfl; (with_reducible repeat (first | refine blk_drewN ?_ _ | refine blk_drew ?_ | refine blk_alloc ?_ _)); exact BK277.out) hb); have n8_ := Aside0.mk (below_step (by repeat (first | (with_reducible first | exact HB.out | apply below_alloc | apply pw_below_drewN | apply below_drew1 | refine below_set ?_ GE249.out | refine below_set ?_ GE252.out | refine below_set ?_ GE256.out | refine below_set ?_ GE260.out | refine below_set ?_ GE264.out | refine below_set ?_ GE270.out | refine below_set ?_ GE277.out) | exact HB.out)) hb); clear HO273; clear BK249; clear BK252; clear BK256; clear BK260; clear BK264; clear BK270; clear BK277; clear HB; have HO273 := n0_; have BK249 := n1_; have BK252 := n2_; have BK256 := n3_; have BK260 := n4_; have BK264 := n5_; have BK270 := n6_; have BK277 := n7_; have HB := n8_; clear n0_ n1_ n2_ n3_ n4_ n5_ n6_ n7_ n8_; (try clear hb); (try clear hb2); (try clear hk); (try clear hi)))
  (try simp only [Act.put, List.setIfInBounds_toArray, List.set_cons_zero, List.set_cons_succ])
  go_cut [148] (fun v148 wc => ∃ (kq : Nat) (x148_13 : Bool), v148 = .bool x148_13 ∧ Aside0 (laws_FnNumbers.j0 kq l0 l1 x148_13 t247 t248 t250 t251 t261 t262 = some r) ∧ Aside0 (kq ≤ k) ∧ Aside0 (wc.heap[gb249]? = some (.cells #[.int .i64 t247, .int .i64 t248] 25 (0, 0))) ∧ Aside0 (wc.heap[gb252]? = some (.cells #[.int .i64 t250, .int .i64 t251] 25 (0, 0))) ∧ Aside0 (wc.heap[gb256]? = some (.cells #[.int .i64 t253, .int .i64 t254] 25 (0, 0))) ∧ Aside0 (wc.heap[gb260]? = some (.cells #[.int .i64 t257, .int .i64 t258] 25 (0, 0))) ∧ Aside0 (wc.heap[gb264]? = some (.cells #[.int .i64 t261, .int .i64 t262] 25 (0, 0))) ∧ Aside0 (wc.heap[gb270]? = some (.cells #[.int .i64 t267, .int .i64 t268] 25 (0, 0))) ∧ Aside0 (wc.heap[gb277]? = some (.cells #[.int .i64 t274, .int .i64 t275] 25 (0, 0))) ∧ Aside0 (Below w.heap.size w wc))
  case first =>
   have H := HC14.out
   clear HC14
   by_cases c71 : t255 = true
   ·subst c71
    have H1 : (if t259 = true then (if t263 = true then (if t266 = true then (if t269 = true then (if t276 = true then (if t279 = true then (if (!(t257 == t247) || (!(t258 == t248))) = true then (none) else (if (!(t267 == t247) || (!(t268 == t248))) = true then (none) else (if (!(t274 == t253) || (!(t275 == t254))) = true then (none) else ((impl_ValidFraction.f k t261 t262).bind fun t280 => (if t280 = true then (if ((decide (t278 < 0)) != (decide ((wrap64 (t247 * t251)) < (wrap64 (t250 * t248))))) = true then (none) else (laws_FnNumbers.j0 k l0 l1 ((t278 == 0) != (t247 == t250 && (t248 == t251))) t247 t248 t250 t251 t261 t262)) else (none)))))) else (none)) else (none)) else (none)) else (none)) else (none)) else (none)) = some r := by rw [if_pos rfl] at H; exact H
    clear H
    have H := H1
    clear H1
    by_cases c72 : t259 = true
    ·subst c72
     have H1 : (if t263 = true then (if t266 = true then (if t269 = true then (if t276 = true then (if t279 = true then (if (!(t257 == t247) || (!(t258 == t248))) = true then (none) else (if (!(t267 == t247) || (!(t268 == t248))) = true then (none) else (if (!(t274 == t253) || (!(t275 == t254))) = true then (none) else ((impl_ValidFraction.f k t261 t262).bind fun t280 => (if t280 = true then (if ((decide (t278 < 0)) != (decide ((wrap64 (t247 * t251)) < (wrap64 (t250 * t248))))) = true then (none) else (laws_FnNumbers.j0 k l0 l1 ((t278 == 0) != (t247 == t250 && (t248 == t251))) t247 t248 t250 t251 t261 t262)) else (none)))))) else (none)) else (none)) else (none)) else (none)) else (none)) = some r := by rw [if_pos rfl] at H; exact H
     clear H
     have H := H1
     clear H1
     by_cases c73 : t263 = true
     ·subst c73
      have H1 : (if t266 = true then (if t269 = true then (if t276 = true then (if t279 = true then (if (!(t257 == t247) || (!(t258 == t248))) = true then (none) else (if (!(t267 == t247) || (!(t268 == t248))) = true then (none) else (if (!(t274 == t253) || (!(t275 == t254))) = true then (none) else ((impl_ValidFraction.f k t261 t262).bind fun t280 => (if t280 = true then (if ((decide (t278 < 0)) != (decide ((wrap64 (t247 * t251)) < (wrap64 (t250 * t248))))) = true then (none) else (laws_FnNumbers.j0 k l0 l1 ((t278 == 0) != (t247 == t250 && (t248 == t251))) t247 t248 t250 t251 t261 t262)) else (none)))))) else (none)) else (none)) else (none)) else (none)) = some r := by rw [if_pos rfl] at H; exact H
      clear H
      have H := H1
      clear H1
      by_cases c74 : t266 = true
      ·subst c74
       have H1 : (if t269 = true then (if t276 = true then (if t279 = true then (if (!(t257 == t247) || (!(t258 == t248))) = true then (none) else (if (!(t267 == t247) || (!(t268 == t248))) = true then (none) else (if (!(t274 == t253) || (!(t275 == t254))) = true then (none) else ((impl_ValidFraction.f k t261 t262).bind fun t280 => (if t280 = true then (if ((decide (t278 < 0)) != (decide ((wrap64 (t247 * t251)) < (wrap64 (t250 * t248))))) = true then (none) else (laws_FnNumbers.j0 k l0 l1 ((t278 == 0) != (t247 == t250 && (t248 == t251))) t247 t248 t250 t251 t261 t262)) else (none)))))) else (none)) else (none)) else (none)) = some r := by rw [if_pos rfl] at H; exact H
       clear H
       have H := H1
       clear H1
       by_cases c75 : t269 = true
       ·subst c75
        have H1 : (if t276 = true then (if t279 = true then (if (!(t257 == t247) || (!(t258 == t248))) = true then (none) else (if (!(t267 == t247) || (!(t268 == t248))) = true then (none) else (if (!(t274 == t253) || (!(t275 == t254))) = true then (none) else ((impl_ValidFraction.f k t261 t262).bind fun t280 => (if t280 = true then (if ((decide (t278 < 0)) != (decide ((wrap64 (t247 * t251)) < (wrap64 (t250 * t248))))) = true then (none) else (laws_FnNumbers.j0 k l0 l1 ((t278 == 0) != (t247 == t250 && (t248 == t251))) t247 t248 t250 t251 t261 t262)) else (none)))))) else (none)) else (none)) = some r := by rw [if_pos rfl] at H; exact H
        clear H
        have H := H1
        clear H1
        by_cases c76 : t276 = true
        ·subst c76
         have H1 : (if t279 = true then (if (!(t257 == t247) || (!(t258 == t248))) = true then (none) else (if (!(t267 == t247) || (!(t268 == t248))) = true then (none) else (if (!(t274 == t253) || (!(t275 == t254))) = true then (none) else ((impl_ValidFraction.f k t261 t262).bind fun t280 => (if t280 = true then (if ((decide (t278 < 0)) != (decide ((wrap64 (t247 * t251)) < (wrap64 (t250 * t248))))) = true then (none) else (laws_FnNumbers.j0 k l0 l1 ((t278 == 0) != (t247 == t250 && (t248 == t251))) t247 t248 t250 t251 t261 t262)) else (none)))))) else (none)) = some r := by rw [if_pos rfl] at H; exact H
         clear H
         have H := H1
         clear H1
         by_cases c77 : t279 = true
         ·subst c77
          have H1 : (if (!(t257 == t247) || (!(t258 == t248))) = true then (none) else (if (!(t267 == t247) || (!(t268 == t248))) = true then (none) else (if (!(t274 == t253) || (!(t275 == t254))) = true then (none) else ((impl_ValidFraction.f k t261 t262).bind fun t280 => (if t280 = true then (if ((decide (t278 < 0)) != (decide ((wrap64 (t247 * t251)) < (wrap64 (t250 * t248))))) = true then (none) else (laws_FnNumbers.j0 k l0 l1 ((t278 == 0) != (t247 == t250 && (t248 == t251))) t247 t248 t250 t251 t261 t262)) else (none)))))) = some r := by rw [if_pos rfl] at H; exact H
          clear H
          have H := H1
          clear H1
          by_cases c78 : (!(t257 == t247) || (!(t258 == t248))) = true
          ·rw [if_pos c78] at H
           have c78b0 : (!(t257 == t247) || (!(t258 == t248))) = true := c78
           clear c78
           (first | rw [c78b0] | (simp only [i64_w, i32_w]; rw [c78b0]) | skip)
           exact absurd H (by simp)
          ·rw [if_neg c78] at H
           have c78b0 : (!(t257 == t247) || (!(t258 == t248))) = false := by simpa using c78
           clear c78
           (first | rw [c78b0] | (simp only [i64_w, i32_w]; rw [c78b0]) | skip)
           by_cases c92 : (!(t267 == t247) || (!(t268 == t248))) = true
           ·rw [if_pos c92] at H
            have c92b0 : (!(t267 == t247) || (!(t268 == t248))) = true := c92
            clear c92
            exact absurd H (by simp)
           ·rw [if_neg c92] at H
            have c92b0 : (!(t267 == t247) || (!(t268 == t248))) = false := by simpa using c92
            clear c92
            by_cases c111 : (!(t274 == t253) || (!(t275 == t254))) = true
            ·rw [if_pos c111] at H
             have c111b0 : (!(t274 == t253) || (!(t275 == t254))) = true := c111
             clear c111
             exact absurd H (by simp)
            ·rw [if_neg c111] at H
             have c111b0 : (!(t274 == t253) || (!(t275 == t254))) = false := by simpa using c111
             clear c111
             replace H := Option.bind_eq_some_iff.mp H
             obtain ⟨t280, A1370, H⟩ := H
             replace H : (if t280 = true then (if ((decide (t278 < 0)) != (decide ((wrap64 (t247 * t251)) < (wrap64 (t250 * t248))))) = true then (none) else (laws_FnNumbers.j0 k l0 l1 ((t278 == 0) != (t247 == t250 && (t248 == t251))) t247 t248 t250 t251 t261 t262)) else (none)) = some r := H
             have A137 := Aside0.mk A1370
             clear A1370
             by_cases c138 : t280 = true
             ·subst c138
              have H1 : (if ((decide (t278 < 0)) != (decide ((wrap64 (t247 * t251)) < (wrap64 (t250 * t248))))) = true then (none) else (laws_FnNumbers.j0 k l0 l1 ((t278 == 0) != (t247 == t250 && (t248 == t251))) t247 t248 t250 t251 t261 t262)) = some r := by rw [if_pos rfl] at H; exact H
              clear H
              have H := H1
              clear H1
              by_cases c139 : ((decide (t278 < 0)) != (decide ((wrap64 (t247 * t251)) < (wrap64 (t250 * t248))))) = true
              ·rw [if_pos c139] at H
               have c139b0 : ((decide (t278 < 0)) != (decide ((wrap64 (t247 * t251)) < (wrap64 (t250 * t248))))) = true := c139
               (try (have c139b1 : decide ((decide (t278 < 0)) = (decide ((wrap64 (t247 * t251)) < (wrap64 (t250 * t248))))) = false := by simpa using c139))
               (try (have c139b2 : ((decide (t278 < 0)) == (decide ((wrap64 (t247 * t251)) < (wrap64 (t250 * t248))))) = false := by simpa using c139))
               (try (have c139b3 : ¬ ((decide (t278 < 0)) = (decide ((wrap64 (t247 * t251)) < (wrap64 (t250 * t248))))) := by simpa using c139))
               clear c139
               exact absurd H (by simp)
              ·rw [if_neg c139] at H
               have c139b0 : ((decide (t278 < 0)) != (decide ((wrap64 (t247 * t251)) < (wrap64 (t250 * t248))))) = false := by simpa using c139
               (try (have c139b1 : decide ((decide (t278 < 0)) = (decide ((wrap64 (t247 * t251)) < (wrap64 (t250 * t248))))) = true := by simpa using c139))
               (try (have c139b2 : ((decide (t278 < 0)) == (decide ((wrap64 (t247 * t251)) < (wrap64 (t250 * t248))))) = true := by simpa using c139))
               clear c139
               as_aux_lemma =>
                have H' := Aside0.mk H
                clear H
                have hnb170 := NB260_249.out
                have hnc170 := NB249_260.out
                have hnb171 := NB260_252.out
                have hnc171 := NB252_260.out
                have hnb172 := NB260_256.out
                have hnc172 := NB256_260.out
                have hnb173 := NB260_264.out
                have hnc173 := NB264_260.out
                have hnb174 := NB260_270.out
                have hnc174 := NB270_260.out
                have hnb175 := NB260_277.out
                have hnc175 := NB277_260.out
                have hcz176_0 : w70.cell? ⟨gb260, 0, none⟩ = some (.int .i64 t257) := (blk_cell BK260.out 0).trans rfl
                have hcz176_1 : w70.cell? ⟨gb260, 1, none⟩ = some (.int .i64 t258) := (blk_cell BK260.out 1).trans rfl
                have hfz176_0 := blk_frozen BK260.out 0
                have hfz176_1 := blk_frozen BK260.out 1
                have hnb177 := NB249_252.out
                have hnc177 := NB252_249.out
                have hnb178 := NB249_256.out
                have hnc178 := NB256_249.out
                have hnb179 := NB249_264.out
                have hnc179 := NB264_249.out
                have hnb180 := NB249_270.out
                have hnc180 := NB270_249.out
                have hnb181 := NB249_277.out
                have hnc181 := NB277_249.out
                have hcz182_0 : w70.cell? ⟨gb249, 0, none⟩ = some (.int .i64 t247) := (blk_cell BK249.out 0).trans rfl
                have hcz182_1 : w70.cell? ⟨gb249, 1, none⟩ = some (.int .i64 t248) := (blk_cell BK249.out 1).trans rfl
                have hfz182_0 := blk_frozen BK249.out 0
                have hfz182_1 := blk_frozen BK249.out 1
                have hnb183 := NB270_252.out
                have hnc183 := NB252_270.out
                have hnb184 := NB270_256.out
                have hnc184 := NB256_270.out
                have hnb185 := NB270_264.out
                have hnc185 := NB264_270.out
                have hnb186 := NB270_277.out
                have hnc186 := NB277_270.out
                have hcz187_0 : w70.cell? ⟨gb270, 0, none⟩ = some (.int .i64 t267) := (blk_cell BK270.out 0).trans rfl
                have hcz187_1 : w70.cell? ⟨gb270, 1, none⟩ = some (.int .i64 t268) := (blk_cell BK270.out 1).trans rfl
                have hfz187_0 := blk_frozen BK270.out 0
                have hfz187_1 := blk_frozen BK270.out 1
                have hnb188 := NB277_252.out
                have hnc188 := NB252_277.out
                have hnb189 := NB277_256.out
                have hnc189 := NB256_277.out
                have hnb190 := NB277_264.out
                have hnc190 := NB264_277.out
                have hcz191_0 : w70.cell? ⟨gb277, 0, none⟩ = some (.int .i64 t274) := (blk_cell BK277.out 0).trans rfl
                have hcz191_1 : w70.cell? ⟨gb277, 1, none⟩ = some (.int .i64 t275) := (blk_cell BK277.out 1).trans rfl
                have hfz191_0 := blk_frozen BK277.out 0
                have hfz191_1 := blk_frozen BK277.out 1
                have hnb192 := NB256_252.out
                have hnc192 := NB252_256.out
                have hnb193 := NB256_264.out
                have hnc193 := NB264_256.out
                have hcz194_0 : w70.cell? ⟨gb256, 0, none⟩ = some (.int .i64 t253) := (blk_cell BK256.out 0).trans rfl
                have hcz194_1 : w70.cell? ⟨gb256, 1, none⟩ = some (.int .i64 t254) := (blk_cell BK256.out 1).trans rfl
                have hfz194_0 := blk_frozen BK256.out 0
                have hfz194_1 := blk_frozen BK256.out 1
                have hnb195 := NB264_252.out
                have hnc195 := NB252_264.out
                have hcz196_0 : w70.cell? ⟨gb264, 0, none⟩ = some (.int .i64 t261) := (blk_cell BK264.out 0).trans rfl
                have hcz196_1 : w70.cell? ⟨gb264, 1, none⟩ = some (.int .i64 t262) := (blk_cell BK264.out 1).trans rfl
                have hfz196_0 := blk_frozen BK264.out 0
                have hfz196_1 := blk_frozen BK264.out 1
                go_wp2_with (first | (go_at_call 13; (with_reducible refine (impl_ValidFraction.calls k t261 t262 true _ A137.out).mono ?_); rintro e w197 ⟨rfl, hb⟩; have n0_ := Aside0.mk (Kd.R_below (by (with_reducible repeat (first | apply Kd.R_alloc | apply Kd.R_drewN | apply Kd.R_drew)); exact HO273.out) hb); have n1_ := Aside0.mk (blk_below (g := gb249) (o := .cells #[.int .i64 t247, .int .i64 t248] 25 (0, 0)) (by (with_reducible repeat (first | refine blk_drewN ?_ _ | refine blk_drew ?_ | refine blk_alloc ?_ _)); exact BK249.out) hb); have n2_ := Aside0.mk (blk_below (g := gb252) (o := .cells #[.int .i64 t250, .int .i64 t251] 25 (0, 0)) (by (with_reducible repeat (first | refine blk_drewN ?_ _ | refine blk_drew ?_ | refine blk_alloc ?_ _)); exact BK252.out) hb); have n3_ := Aside0.mk (blk_below (g := gb256) (o := .cells #[.int .i64 t253, .int .i64 t254] 25 (0, 0)) (by (with_reducible repeat (first | refine blk_drewN ?_ _ | refine blk_drew ?_ | refine blk_alloc ?_ _)); exact BK256.out) hb); have n4_ := Aside0.mk (blk_below (g := gb260) (o := .cells #[.int .i64 t257, .int .i64 t258] 25 (0, 0)) (by (with_reducible repeat (first | refine blk_drewN ?_ _ | refine blk_drew ?_ | refine blk_alloc ?_ _)); exact BK260.out) hb); have n5_ := Aside0.mk (blk_below (g := gb264) (o := .cells #[.int .i64 t261, .int .i64 t262] 25 (0, 0)) (by (with_reducible repeat (first | refine blk_drewN ?_ _ | refine blk_drew ?_ | refine blk_alloc ?_ _)); exact BK264.out) hb); have n6_ := Aside0.mk (blk_below (g := gb270) (o := .cells #[.int .i64 t267, .int .i64 t268] 25 (0, 0)) (by (with_reducible repeat (first | refine blk_drewN ?_ _ | refine blk_drew ?_ | refine blk_alloc ?_ _)); exact BK270.out) hb); have n7_ := Aside0.mk (blk_below (g := gb277) (o := .cells #[.int .i64 t274, .int .i64 t275] 25 (0, 0)) (by (with_reducible repeat (first | refine blk_drewN ?_ _ | refine blk_drew ?_ | refine blk_alloc ?_ _)); exact BK277.out) hb); have n8_ := Aside0.mk (below_step (by repeat (first | (with_reducible first | exact HB.out | apply below_alloc | apply pw_below_drewN | apply below_drew1 | refine below_set ?_ GE249.out | refine below_set ?_ GE252.out | refine below_set ?_ GE256.out | refine below_set ?_ GE260.out | refine below_set ?_ GE264.out | refine below_set ?_ GE270.out | refine below_set ?_ GE277.out) | exact HB.out)) hb); clear HO273; clear BK249; clear BK252; clear BK256; clear BK260; clear BK264; clear BK270; clear BK277; clear HB; have HO273 := n0_; have BK249 := n1_; have BK252 := n2_; have BK256 := n3_; have BK260 := n4_; have BK264 := n5_; have BK270 := n6_; have BK277 := n7_; have HB := n8_; clear n0_ n1_ n2_ n3_ n4_ n5_ n6_ n7_ n8_; (try clear hb); (try clear hb2); (try clear hk); (try clear hi); have hcz198_0 : w197.cell? ⟨gb249, 0, none⟩ = some (.int .i64 t247) := (blk_cell BK249.out 0).trans rfl; have hcz198_1 : w197.cell? ⟨gb249, 1, none⟩ = some (.int .i64 t248) := (blk_cell BK249.out 1).trans rfl; have hfz198_0 := blk_frozen BK249.out 0; have hfz198_1 := blk_frozen BK249.out 1; have hcz199_0 : w197.cell? ⟨gb252, 0, none⟩ = some (.int .i64 t250) := (blk_cell BK252.out 0).trans rfl; have hcz199_1 : w197.cell? ⟨gb252, 1, none⟩ = some (.int .i64 t251) := (blk_cell BK252.out 1).trans rfl; have hfz199_0 := blk_frozen BK252.out 0; have hfz199_1 := blk_frozen BK252.out 1))
                go_meet
                case rel => exact ⟨_, (((t278 == 0) != (t247 == t250 && (t248 == t251)))), (by first | rfl | (simp; done) | (simp [*]; done)), H', ⟨by first | omega | exact Nat.le_refl _⟩, ⟨by (with_reducible repeat (first | refine blk_drewN ?_ _ | refine blk_drew ?_ | refine blk_alloc ?_ _)); exact BK249.out⟩, ⟨by (with_reducible repeat (first | refine blk_drewN ?_ _ | refine blk_drew ?_ | refine blk_alloc ?_ _)); exact BK252.out⟩, ⟨by (with_reducible repeat (first | refine blk_drewN ?_ _ | refine blk_drew ?_ | refine blk_alloc ?_ _)); exact BK256.out⟩, ⟨by (with_reducible repeat (first | refine blk_drewN ?_ _ | refine blk_drew ?_ | refine blk_alloc ?_ _)); exact BK260.out⟩, ⟨by (with_reducible repeat (first | refine blk_drewN ?_ _ | refine blk_drew ?_ | refine blk_alloc ?_ _)); exact BK264.out⟩, ⟨by (with_reducible repeat (first | refine blk_drewN ?_ _ | refine blk_drew ?_ | refine blk_alloc ?_ _)); exact BK270.out⟩, ⟨by (with_reducible repeat (first | refine blk_drewN ?_ _ | refine blk_drew ?_ | refine blk_alloc ?_ _)); exact BK277.out⟩, ⟨by repeat (first | (with_reducible first | exact HB.out | apply below_alloc | apply pw_below_drewN | apply below_drew1 | refine below_set ?_ GE249.out | refine below_set ?_ GE252.out | refine below_set ?_ GE256.out | refine below_set ?_ GE260.out | refine below_set ?_ GE264.out | refine below_set ?_ GE270.out | refine below_set ?_ GE277.out) | exact HB.out)⟩⟩
             ·replace c138 := Bool.eq_false_iff.mpr c138
              subst c138
              have H1 : (none) = some r := by rw [if_neg (show ¬ (false = true) by decide)] at H; exact H
              clear H
              have H := H1
              clear H1
              exact absurd H (by simp)
         ·replace c77 := Bool.eq_false_iff.mpr c77
          subst c77
          have H1 : (none) = some r := by rw [if_neg (show ¬ (false = true) by decide)] at H; exact H
          clear H
          have H := H1
          clear H1
          exact absurd H (by simp)
        ·replace c76 := Bool.eq_false_iff.mpr c76
         subst c76
         have H1 : (none) = some r := by rw [if_neg (show ¬ (false = true) by decide)] at H; exact H
         clear H
         have H := H1
         clear H1
         exact absurd H (by simp)
       ·replace c75 := Bool.eq_false_iff.mpr c75
        subst c75
        have H1 : (none) = some r := by rw [if_neg (show ¬ (false = true) by decide)] at H; exact H
        clear H
        have H := H1
        clear H1
        exact absurd H (by simp)
      ·replace c74 := Bool.eq_false_iff.mpr c74
       subst c74
       have H1 : (none) = some r := by rw [if_neg (show ¬ (false = true) by decide)] at H; exact H
       clear H
       have H := H1
       clear H1
       exact absurd H (by simp)
     ·replace c73 := Bool.eq_false_iff.mpr c73
      subst c73
      have H1 : (none) = some r := by rw [if_neg (show ¬ (false = true) by decide)] at H; exact H
      clear H
      have H := H1
      clear H1
      exact absurd H (by simp)
    ·replace c72 := Bool.eq_false_iff.mpr c72
     subst c72
     have H1 : (none) = some r := by rw [if_neg (show ¬ (false = true) by decide)] at H; exact H
     clear H
     have H := H1
     clear H1
     exact absurd H (by simp)
   ·replace c71 := Bool.eq_false_iff.mpr c71
    subst c71
    have H1 : (none) = some r := by rw [if_neg (show ¬ (false = true) by decide)] at H; exact H
    clear H
    have H := H1
    clear H1
    exact absurd H (by simp)
  case rest =>
   clear HC14
   try clear c1
   try clear c2
   try clear p2
   try clear c3
   try clear c4
   try clear c5
   try clear c6
   try clear p6
   try clear c7
   try clear c8
   try clear c9
   try clear c10
   try clear c11
   try clear c12
   try clear c13
   try clear c14
   try clear c15
   try clear c16
   try clear c17
   try clear c18
   try clear c19
   try clear c20
   try clear c21
   try clear c22
   try clear c25
   try clear c26
   try clear c31
   try clear c32
   try clear c33
   try clear c39
   try clear c40
   try clear c41
   try clear c42
   try clear c48
   try clear c49
   try clear c50
   try clear c51
   try clear c52
   try clear c61
   try clear c62
   try clear c63
   try clear c64
   try clear p64
   try clear c65
   try clear c66
   try clear c71
   try clear c72
   try clear c73
   try clear c74
   try clear c75
   try clear c76
   try clear c77
   try clear c78
   try clear c78b0
   try clear c79
   try clear c80
   try clear c81
   try clear c82
   try clear c83
   try clear c84
   try clear c86
   try clear c87
   try clear c88
   try clear c89
   try clear c90
   try clear c92
   try clear c92b0
   try clear c93
   try clear c94
   try clear c95
   try clear c96
   try clear c97
   try clear c98
   try clear c100
   try clear c101
   try clear c102
   try clear c103
   try clear c104
   try clear c106
   try clear c107
   try clear c108
   try clear c109
   try clear c111
   try clear c111b0
   try clear c112
   try clear c113
   try clear c114
   try clear c115
   try clear c116
   try clear c117
   try clear c119
   try clear c120
   try clear c121
   try clear c122
   try clear c123
   try clear c125
   try clear c126
   try clear c127
   try clear c128
   try clear c130
   try clear c131
   try clear c132
   try clear c134
   try clear c135
   try clear c138
   try clear c139
   try clear c139b0
   try clear c139b1
   try clear c139b2
   try clear c140
   try clear c141
   try clear c142
   try clear c143
   try clear c144
   try clear c145
   try clear c147
   try clear c148
   try clear c149
   try clear c150
   try clear c151
   try clear c153
   try clear c154
   try clear c155
   try clear c156
   try clear c158
   try clear c159
   try clear c160
   try clear c162
   try clear c163
   try clear c165
   try clear c170
   try clear c171
   try clear c172
   try clear c173
   try clear c174
   try clear c175
   try clear c177
   try clear c178
   try clear c179
   try clear c180
   try clear c181
   try clear c183
   try clear c184
   try clear c185
   try clear c186
   try clear c188
   try clear c189
   try clear c190
   try clear c192
   try clear c193
   try clear c195
   try clear c200
   try clear c201
   try clear c202
   try clear c203
   try clear c204
   try clear c205
   try clear c207
   try clear c208
   try clear c209
   try clear c210
   try clear c211
   try clear c213
   try clear c214
   try clear c215
   try clear c216
   try clear c218
   try clear c219
   try clear c220
   try clear c222
   try clear c223
   try clear c225
   try clear hcz105_0
   try clear hcz105_1
   try clear hcz110_0
   try clear hcz110_1
   try clear hcz118_0
   try clear hcz118_1
   try clear hcz124_0
   try clear hcz124_1
   try clear hcz129_0
   try clear hcz129_1
   try clear hcz133_0
   try clear hcz133_1
   try clear hcz136_0
   try clear hcz136_1
   try clear hcz146_0
   try clear hcz146_1
   try clear hcz152_0
   try clear hcz152_1
   try clear hcz157_0
   try clear hcz157_1
   try clear hcz161_0
   try clear hcz161_1
   try clear hcz164_0
   try clear hcz164_1
   try clear hcz166_0
   try clear hcz166_1
   try clear hcz168_0
   try clear hcz168_1
   try clear hcz169_0
   try clear hcz169_1
   try clear hcz176_0
   try clear hcz176_1
   try clear hcz17_0
   try clear hcz17_1
   try clear hcz182_0
   try clear hcz182_1
   try clear hcz187_0
   try clear hcz187_1
   try clear hcz191_0
   try clear hcz191_1
   try clear hcz194_0
   try clear hcz194_1
   try clear hcz196_0
   try clear hcz196_1
   try clear hcz198_0
   try clear hcz198_1
   try clear hcz199_0
   try clear hcz199_1
   try clear hcz206_0
   try clear hcz206_1
   try clear hcz212_0
   try clear hcz212_1
   try clear hcz217_0
   try clear hcz217_1
   try clear hcz21_0
   try clear hcz21_1
   try clear hcz221_0
   try clear hcz221_1
   try clear hcz224_0
   try clear hcz224_1
   try clear hcz226_0
   try clear hcz226_1
   try clear hcz22_0
   try clear hcz22_1
   try clear hcz27_0
   try clear hcz27_1
   try clear hcz28_0
   try clear hcz28_1
   try clear hcz34_0
   try clear hcz34_1
   try clear hcz35_0
   try clear hcz35_1
   try clear hcz36_0
   try clear hcz36_1
   try clear hcz43_0
   try clear hcz43_1
   try clear hcz44_0
   try clear hcz44_1
   try clear hcz53_0
   try clear hcz53_1
   try clear hcz54_0
   try clear hcz54_1
   try clear hcz55_0
   try clear hcz55_1
   try clear hcz67_0
   try clear hcz67_1
   try clear hcz68_0
   try clear hcz68_1
   try clear hcz69_0
   try clear hcz69_1
   try clear hcz85_0
   try clear hcz85_1
   try clear hcz91_0
   try clear hcz91_1
   try clear hcz99_0
   try clear hcz99_1
   try clear hfz105_0
   try clear hfz105_1
   try clear hfz110_0
   try clear hfz110_1
   try clear hfz118_0
   try clear hfz118_1
   try clear hfz124_0
   try clear hfz124_1
   try clear hfz129_0
   try clear hfz129_1
   try clear hfz133_0
   try clear hfz133_1
   try clear hfz136_0
   try clear hfz136_1
   try clear hfz146_0
   try clear hfz146_1
   try clear hfz152_0
   try clear hfz152_1
   try clear hfz157_0
   try clear hfz157_1
   try clear hfz161_0
   try clear hfz161_1
   try clear hfz164_0
   try clear hfz164_1
   try clear hfz166_0
   try clear hfz166_1
   try clear hfz168_0
   try clear hfz168_1
   try clear hfz169_0
   try clear hfz169_1
   try clear hfz176_0
   try clear hfz176_1
   try clear hfz17_0
   try clear hfz17_1
   try clear hfz182_0
   try clear hfz182_1
   try clear hfz187_0
   try clear hfz187_1
   try clear hfz191_0
   try clear hfz191_1
   try clear hfz194_0
   try clear hfz194_1
   try clear hfz196_0
   try clear hfz196_1
   try clear hfz198_0
   try clear hfz198_1
   try clear hfz199_0
   try clear hfz199_1
   try clear hfz206_0
   try clear hfz206_1
   try clear hfz212_0
   try clear hfz212_1
   try clear hfz217_0
   try clear hfz217_1
   try clear hfz21_0
   try clear hfz21_1
   try clear hfz221_0
   try clear hfz221_1
   try clear hfz224_0
   try clear hfz224_1
   try clear hfz226_0
   try clear hfz226_1
   try clear hfz22_0
   try clear hfz22_1
   try clear hfz27_0
   try clear hfz27_1
   try clear hfz28_0
   try clear hfz28_1
   try clear hfz34_0
   try clear hfz34_1
   try clear hfz35_0
   try clear hfz35_1
   try clear hfz36_0
   try clear hfz36_1
   try clear hfz43_0
   try clear hfz43_1
   try clear hfz44_0
   try clear hfz44_1
   try clear hfz53_0
   try clear hfz53_1
   try clear hfz54_0
   try clear hfz54_1
   try clear hfz55_0
   try clear hfz55_1
   try clear hfz67_0
   try clear hfz67_1
   try clear hfz68_0
   try clear hfz68_1
   try clear hfz69_0
   try clear hfz69_1
   try clear hfz85_0
   try clear hfz85_1
   try clear hfz91_0
   try clear hfz91_1
   try clear hfz99_0
   try clear hfz99_1
   obtain ⟨kq, x148_13, rfl, HA, HJ13, BK249, BK252, BK256, BK260, BK264, BK270, BK277, HB⟩ := hcut
   cases kq with
   | zero => exact absurd HA.out (by simp [laws_FnNumbers.j0])
   | succ kj13 =>
    have H := HA.out
    clear HA
    simp only [laws_FnNumbers.j0] at H
    by_cases c228 : x148_13 = true
    ·subst c228
     have H1 : (none) = some r := by rw [if_pos rfl] at H; exact H
     clear H
     have H := H1
     clear H1
     exact absurd H (by simp)
    ·replace c228 := Bool.eq_false_iff.mpr c228
     subst c228
     have H1 : ((impl_DivFractions.f t261 t262 t250 t251).bind fun bt281 => (if (bt281.2.2 != (t250 != 0)) = true then (none) else (if bt281.2.2 = true then (laws_FnNumbers.j1 kj13 l0 l1 (!(bt281.1 == t247) || (!(bt281.2.1 == t248))) t247 t248) else (laws_FnNumbers.j1 kj13 l0 l1 false t247 t248)))) = some r := by rw [if_neg (show ¬ (false = true) by decide)] at H; exact H
     clear H
     have H := H1
     clear H1
     replace H := Option.bind_eq_some_iff.mp H
     obtain ⟨⟨t281, t282, t283⟩, A2290, H⟩ := H
     replace H : (if (t283 != (t250 != 0)) = true then (none) else (if t283 = true then (laws_FnNumbers.j1 kj13 l0 l1 (!(t281 == t247) || (!(t282 == t248))) t247 t248) else (laws_FnNumbers.j1 kj13 l0 l1 false t247 t248))) = some r := H
     have A229 := Aside0.mk A2290
     clear A2290
     have HC230 := Aside0.mk H
     clear H
     have hnb231 := NB264_249.out
     have hnc231 := NB249_264.out
     have hnb232 := NB264_252.out
     have hnc232 := NB252_264.out
     have hnb233 := NB264_256.out
     have hnc233 := NB256_264.out
     have hnb234 := NB264_260.out
     have hnc234 := NB260_264.out
     have hnb235 := NB264_270.out
     have hnc235 := NB270_264.out
     have hnb236 := NB264_277.out
     have hnc236 := NB277_264.out
     have hcz237_0 : wc.cell? ⟨gb264, 0, none⟩ = some (.int .i64 t261) := (blk_cell BK264.out 0).trans rfl
     have hcz237_1 : wc.cell? ⟨gb264, 1, none⟩ = some (.int .i64 t262) := (blk_cell BK264.out 1).trans rfl
     have hfz237_0 := blk_frozen BK264.out 0
     have hfz237_1 := blk_frozen BK264.out 1
     have hnb238 := NB252_249.out
     have hnc238 := NB249_252.out
     have hnb239 := NB252_256.out
     have hnc239 := NB256_252.out
     have hnb240 := NB252_260.out
     have hnc240 := NB260_252.out
     have hnb241 := NB252_270.out
     have hnc241 := NB270_252.out
     have hnb242 := NB252_277.out
     have hnc242 := NB277_252.out
     have hcz243_0 : wc.cell? ⟨gb252, 0, none⟩ = some (.int .i64 t250) := (blk_cell BK252.out 0).trans rfl
     have hcz243_1 : wc.cell? ⟨gb252, 1, none⟩ = some (.int .i64 t251) := (blk_cell BK252.out 1).trans rfl
     have hfz243_0 := blk_frozen BK252.out 0
     have hfz243_1 := blk_frozen BK252.out 1
     go_upto_region 15 with (first | ((with_reducible refine gate_callee (f := 14) rfl ?_); refine goesL_ (some 152) rfl rfl Tryz.func14 (by kernel_rfl) rfl #[.agg #[.int .i64 t261, .int .i64 t262], .agg #[.int .i64 t250, .int .i64 t251]] rfl (by (try simp only [List.map_toArray, List.map_cons, List.map_nil]); first | done | rfl | (simp only [List.length_drop, List.length_take]; rfl)) ?_; (with_reducible refine (impl_DivFractions.calls t261 t262 t250 t251 t281 t282 t283 _ A229.out).mono ?_); rintro e w244 ⟨rfl, hb⟩; refine ⟨_, rfl, ?_⟩; have n0_ := Aside0.mk (blk_below (g := gb249) (o := .cells #[.int .i64 t247, .int .i64 t248] 25 (0, 0)) (by (with_reducible repeat (first | refine blk_drewN ?_ _ | refine blk_drew ?_ | refine blk_alloc ?_ _)); exact BK249.out) hb); have n1_ := Aside0.mk (blk_below (g := gb252) (o := .cells #[.int .i64 t250, .int .i64 t251] 25 (0, 0)) (by (with_reducible repeat (first | refine blk_drewN ?_ _ | refine blk_drew ?_ | refine blk_alloc ?_ _)); exact BK252.out) hb); have n2_ := Aside0.mk (blk_below (g := gb256) (o := .cells #[.int .i64 t253, .int .i64 t254] 25 (0, 0)) (by (with_reducible repeat (first | refine blk_drewN ?_ _ | refine blk_drew ?_ | refine blk_alloc ?_ _)); exact BK256.out) hb); have n3_ := Aside0.mk (blk_below (g := gb260) (o := .cells #[.int .i64 t257, .int .i64 t258] 25 (0, 0)) (by (with_reducible repeat (first | refine blk_drewN ?_ _ | refine blk_drew ?_ | refine blk_alloc ?_ _)); exact BK260.out) hb); have n4_ := Aside0.mk (blk_below (g := gb264) (o := .cells #[.int .i64 t261, .int .i64 t262] 25 (0, 0)) (by (with_reducible repeat (first | refine blk_drewN ?_ _ | refine blk_drew ?_ | refine blk_alloc ?_ _)); exact BK264.out) hb); have n5_ := Aside0.mk (blk_below (g := gb270) (o := .cells #[.int .i64 t267, .int .i64 t268] 25 (0, 0)) (by (with_reducible repeat (first | refine blk_drewN ?_ _ | refine blk_drew ?_ | refine blk_alloc ?_ _)); exact BK270.out) hb); have n6_ := Aside0.mk (blk_below (g := gb277) (o := .cells #[.int .i64 t274, .int .i64 t275] 25 (0, 0)) (by (with_reducible repeat (first | refine blk_drewN ?_ _ | refine blk_drew ?_ | refine blk_alloc ?_ _)); exact BK277.out) hb); have n7_ := Aside0.mk (below_step (by repeat (first | (with_reducible first | exact HB.out | apply below_alloc | apply pw_below_drewN | apply below_drew1 | refine below_set ?_ GE249.out | refine below_set ?_ GE252.out | refine below_set ?_ GE256.out | refine below_set ?_ GE260.out | refine below_set ?_ GE264.out | refine below_set ?_ GE270.out | refine below_set ?_ GE277.out) | exact HB.out)) hb); clear BK249; clear BK252; clear BK256; clear BK260; clear BK264; clear BK270; clear BK277; clear HB; have BK249 := n0_; have BK252 := n1_; have BK256 := n2_; have BK260 := n3_; have BK264 := n4_; have BK270 := n5_; have BK277 := n6_; have HB := n7_; clear n0_ n1_ n2_ n3_ n4_ n5_ n6_ n7_; (try clear hb); (try clear hb2); (try clear hk); (try clear hi)) | ((with_reducible refine gate_dst (N := 21) rfl ?_); refine box_event ?hg (N := 21) ?hd (cs := #[.int .i64 0, .int .i64 0]) (t := 25) ?hr ?_; (case hd => rfl); (case hg => rfl); (case hr => first | (go_simp; done) | (go_simp; rfl)); intro gb284 hg w245 hbox hb; have n0_ := Aside0.mk (blk_below (g := gb249) (o := .cells #[.int .i64 t247, .int .i64 t248] 25 (0, 0)) (by (with_reducible repeat (first | refine blk_drewN ?_ _ | refine blk_drew ?_ | refine blk_alloc ?_ _)); exact BK249.out) hb); have n1_ := Aside0.mk (blk_below (g := gb252) (o := .cells #[.int .i64 t250, .int .i64 t251] 25 (0, 0)) (by (with_reducible repeat (first | refine blk_drewN ?_ _ | refine blk_drew ?_ | refine blk_alloc ?_ _)); exact BK252.out) hb); have n2_ := Aside0.mk (blk_below (g := gb256) (o := .cells #[.int .i64 t253, .int .i64 t254] 25 (0, 0)) (by (with_reducible repeat (first | refine blk_drewN ?_ _ | refine blk_drew ?_ | refine blk_alloc ?_ _)); exact BK256.out) hb); have n3_ := Aside0.mk (blk_below (g := gb260) (o := .cells #[.int .i64 t257, .int .i64 t258] 25 (0, 0)) (by (with_reducible repeat (first | refine blk_drewN ?_ _ | refine blk_drew ?_ | refine blk_alloc ?_ _)); exact BK260.out) hb); have n4_ := Aside0.mk (blk_below (g := gb264) (o := .cells #[.int .i64 t261, .int .i64 t262] 25 (0, 0)) (by (with_reducible repeat (first | refine blk_drewN ?_ _ | refine blk_drew ?_ | refine blk_alloc ?_ _)); exact BK264.out) hb); have n5_ := Aside0.mk (blk_below (g := gb270) (o := .cells #[.int .i64 t267, .int .i64 t268] 25 (0, 0)) (by (with_reducible repeat (first | refine blk_drewN ?_ _ | refine blk_drew ?_ | refine blk_alloc ?_ _)); exact BK270.out) hb); have n6_ := Aside0.mk (blk_below (g := gb277) (o := .cells #[.int .i64 t274, .int .i64 t275] 25 (0, 0)) (by (with_reducible repeat (first | refine blk_drewN ?_ _ | refine blk_drew ?_ | refine blk_alloc ?_ _)); exact BK277.out) hb); have n7_ := Aside0.mk (below_step (by repeat (first | (with_reducible first | exact HB.out | apply below_alloc | apply pw_below_drewN | apply below_drew1 | refine below_set ?_ GE249.out | refine below_set ?_ GE252.out | refine below_set ?_ GE256.out | refine below_set ?_ GE260.out | refine below_set ?_ GE264.out | refine below_set ?_ GE270.out | refine below_set ?_ GE277.out) | exact HB.out)) hb); have n8_ := Aside0.mk (hbox); have n9_ := Aside0.mk ((by rw [hg]; exact (below_size (by repeat (first | (with_reducible first | exact HB.out | apply below_alloc | apply pw_below_drewN | apply below_drew1 | refine below_set ?_ GE249.out | refine below_set ?_ GE252.out | refine below_set ?_ GE256.out | refine below_set ?_ GE260.out | refine below_set ?_ GE264.out | refine below_set ?_ GE270.out | refine below_set ?_ GE277.out) | exact HB.out))) : w.heap.size ≤ gb284)); have n10_ := Aside0.mk ((by rw [hg]; exact (below_size (by repeat (first | (with_reducible first | exact HB.out | apply below_alloc | apply pw_below_drewN | apply below_drew1 | refine below_set ?_ GE249.out | refine below_set ?_ GE252.out | refine below_set ?_ GE256.out | refine below_set ?_ GE260.out | refine below_set ?_ GE264.out | refine below_set ?_ GE270.out | refine below_set ?_ GE277.out) | exact HB.out))) : w.heap.size ≤ gb284)); have n11_ := Aside0.mk ((by rw [hg]; exact Nat.ne_of_lt (blk_lt (g := gb249) (o := .cells #[.int .i64 t247, .int .i64 t248] 25 (0, 0)) (by (with_reducible repeat (first | refine blk_drewN ?_ _ | refine blk_drew ?_ | refine blk_alloc ?_ _)); exact BK249.out)) : gb249 ≠ gb284)); have n12_ := Aside0.mk ((by rw [hg]; exact Nat.ne_of_gt (blk_lt (g := gb249) (o := .cells #[.int .i64 t247, .int .i64 t248] 25 (0, 0)) (by (with_reducible repeat (first | refine blk_drewN ?_ _ | refine blk_drew ?_ | refine blk_alloc ?_ _)); exact BK249.out)) : gb284 ≠ gb249)); have n13_ := Aside0.mk ((by rw [hg]; exact Nat.ne_of_lt (blk_lt (g := gb252) (o := .cells #[.int .i64 t250, .int .i64 t251] 25 (0, 0)) (by (with_reducible repeat (first | refine blk_drewN ?_ _ | refine blk_drew ?_ | refine blk_alloc ?_ _)); exact BK252.out)) : gb252 ≠ gb284)); have n14_ := Aside0.mk ((by rw [hg]; exact Nat.ne_of_gt (blk_lt (g := gb252) (o := .cells #[.int .i64 t250, .int .i64 t251] 25 (0, 0)) (by (with_reducible repeat (first | refine blk_drewN ?_ _ | refine blk_drew ?_ | refine blk_alloc ?_ _)); exact BK252.out)) : gb284 ≠ gb252)); have n15_ := Aside0.mk ((by rw [hg]; exact Nat.ne_of_lt (blk_lt (g := gb256) (o := .cells #[.int .i64 t253, .int .i64 t254] 25 (0, 0)) (by (with_reducible repeat (first | refine blk_drewN ?_ _ | refine blk_drew ?_ | refine blk_alloc ?_ _)); exact BK256.out)) : gb256 ≠ gb284)); have n16_ := Aside0.mk ((by rw [hg]; exact Nat.ne_of_gt (blk_lt (g := gb256) (o := .cells #[.int .i64 t253, .int .i64 t254] 25 (0, 0)) (by (with_reducible repeat (first | refine blk_drewN ?_ _ | refine blk_drew ?_ | refine blk_alloc ?_ _)); exact BK256.out)) : gb284 ≠ gb256)); have n17_ := Aside0.mk ((by rw [hg]; exact Nat.ne_of_lt (blk_lt (g := gb260) (o := .cells #[.int .i64 t257, .int .i64 t258] 25 (0, 0)) (by (with_reducible repeat (first | refine blk_drewN ?_ _ | refine blk_drew ?_ | refine blk_alloc ?_ _)); exact BK260.out)) : gb260 ≠ gb284)); have n18_ := Aside0.mk ((by rw [hg]; exact Nat.ne_of_gt (blk_lt (g := gb260) (o := .cells #[.int .i64 t257, .int .i64 t258] 25 (0, 0)) (by (with_reducible repeat (first | refine blk_drewN ?_ _ | refine blk_drew ?_ | refine blk_alloc ?_ _)); exact BK260.out)) : gb284 ≠ gb260)); have n19_ := Aside0.mk ((by rw [hg]; exact Nat.ne_of_lt (blk_lt (g := gb264) (o := .cells #[.int .i64 t261, .int .i64 t262] 25 (0, 0)) (by (with_reducible repeat (first | refine blk_drewN ?_ _ | refine blk_drew ?_ | refine blk_alloc ?_ _)); exact BK264.out)) : gb264 ≠ gb284)); have n20_ := Aside0.mk ((by rw [hg]; exact Nat.ne_of_gt (blk_lt (g := gb264) (o := .cells #[.int .i64 t261, .int .i64 t262] 25 (0, 0)) (by (with_reducible repeat (first | refine blk_drewN ?_ _ | refine blk_drew ?_ | refine blk_alloc ?_ _)); exact BK264.out)) : gb284 ≠ gb264)); have n21_ := Aside0.mk ((by rw [hg]; exact Nat.ne_of_lt (blk_lt (g := gb270) (o := .cells #[.int .i64 t267, .int .i64 t268] 25 (0, 0)) (by (with_reducible repeat (first | refine blk_drewN ?_ _ | refine blk_drew ?_ | refine blk_alloc ?_ _)); exact BK270.out)) : gb270 ≠ gb284)); have n22_ := Aside0.mk ((by rw [hg]; exact Nat.ne_of_gt (blk_lt (g := gb270) (o := .cells #[.int .i64 t267, .int .i64 t268] 25 (0, 0)) (by (with_reducible repeat (first | refine blk_drewN ?_ _ | refine blk_drew ?_ | refine blk_alloc ?_ _)); exact BK270.out)) : gb284 ≠ gb270)); have n23_ := Aside0.mk ((by rw [hg]; exact Nat.ne_of_lt (blk_lt (g := gb277) (o := .cells #[.int .i64 t274, .int .i64 t275] 25 (0, 0)) (by (with_reducible repeat (first | refine blk_drewN ?_ _ | refine blk_drew ?_ | refine blk_alloc ?_ _)); exact BK277.out)) : gb277 ≠ gb284)); have n24_ := Aside0.mk ((by rw [hg]; exact Nat.ne_of_gt (blk_lt (g := gb277) (o := .cells #[.int .i64 t274, .int .i64 t275] 25 (0, 0)) (by (with_reducible repeat (first | refine blk_drewN ?_ _ | refine blk_drew ?_ | refine blk_alloc ?_ _)); exact BK277.out)) : gb284 ≠ gb277)); clear BK249; clear BK252; clear BK256; clear BK260; clear BK264; clear BK270; clear BK277; clear HB; have BK249 := n0_; have BK252 := n1_; have BK256 := n2_; have BK260 := n3_; have BK264 := n4_; have BK270 := n5_; have BK277 := n6_; have HB := n7_; have BK284 := n8_; have GW284 := n9_; have GE284 := n10_; have NB249_284 := n11_; have NB284_249 := n12_; have NB252_284 := n13_; have NB284_252 := n14_; have NB256_284 := n15_; have NB284_256 := n16_; have NB260_284 := n17_; have NB284_260 := n18_; have NB264_284 := n19_; have NB284_264 := n20_; have NB270_284 := n21_; have NB284_270 := n22_; have NB277_284 := n23_; have NB284_277 := n24_; clear n0_ n1_ n2_ n3_ n4_ n5_ n6_ n7_ n8_ n9_ n10_ n11_ n12_ n13_ n14_ n15_ n16_ n17_ n18_ n19_ n20_ n21_ n22_ n23_ n24_; clear hb hbox hg; have hnb246 := NB284_249.out; have hnc246 := NB249_284.out; have hnb247 := NB284_252.out; have hnc247 := NB252_284.out; have hnb248 := NB284_256.out; have hnc248 := NB256_284.out; have hnb249 := NB284_260.out; have hnc249 := NB260_284.out; have hnb250 := NB284_264.out; have hnc250 := NB264_284.out; have hnb251 := NB284_270.out; have hnc251 := NB270_284.out; have hnb252 := NB284_277.out; have hnc252 := NB277_284.out; have hcz253_0 : w245.cell? ⟨gb284, 0, none⟩ = some (.int .i64 0) := (blk_cell BK284.out 0).trans rfl; have hcz253_1 : w245.cell? ⟨gb284, 1, none⟩ = some (.int .i64 0) := (blk_cell BK284.out 1).trans rfl; have hfz253_0 := blk_frozen BK284.out 0; have hfz253_1 := blk_frozen BK284.out 1))
     (try simp only [Act.put, List.setIfInBounds_toArray, List.set_cons_zero, List.set_cons_succ])
     go_cut [167] (fun v167 wc => ∃ (kq : Nat) (x167_229 : Bool), v167 = .bool x167_229 ∧ Aside0 (laws_FnNumbers.j1 kq l0 l1 x167_229 t247 t248 = some r) ∧ Aside0 (kq ≤ kj13) ∧ Aside0 (wc.heap[gb249]? = some (.cells #[.int .i64 t247, .int .i64 t248] 25 (0, 0))) ∧ Aside0 (wc.heap[gb252]? = some (.cells #[.int .i64 t250, .int .i64 t251] 25 (0, 0))) ∧ Aside0 (wc.heap[gb256]? = some (.cells #[.int .i64 t253, .int .i64 t254] 25 (0, 0))) ∧ Aside0 (wc.heap[gb260]? = some (.cells #[.int .i64 t257, .int .i64 t258] 25 (0, 0))) ∧ Aside0 (wc.heap[gb264]? = some (.cells #[.int .i64 t261, .int .i64 t262] 25 (0, 0))) ∧ Aside0 (wc.heap[gb270]? = some (.cells #[.int .i64 t267, .int .i64 t268] 25 (0, 0))) ∧ Aside0 (wc.heap[gb277]? = some (.cells #[.int .i64 t274, .int .i64 t275] 25 (0, 0))) ∧ Aside0 (wc.heap[gb284]? = some (.cells #[.int .i64 t281, .int .i64 t282] 25 (0, 0))) ∧ Aside0 (Below w.heap.size w wc))
     case first =>
      have H := HC230.out
      clear HC230
      by_cases c254 : (t283 != (t250 != 0)) = true
      ·rw [if_pos c254] at H
       have c254b0 : (t283 != (t250 != 0)) = true := c254
       (try (have c254b1 : decide (t283 = (t250 != 0)) = false := by simpa using c254))
       (try (have c254b2 : (t283 == (t250 != 0)) = false := by simpa using c254))
       (try (have c254b3 : ¬ (t283 = (t250 != 0)) := by simpa using c254))
       clear c254
       (first | rw [c254b0] | (simp only [i64_w, i32_w]; rw [c254b0]) | skip)
       exact absurd H (by simp)
      ·rw [if_neg c254] at H
       have c254b0 : (t283 != (t250 != 0)) = false := by simpa using c254
       (try (have c254b1 : decide (t283 = (t250 != 0)) = true := by simpa using c254))
       (try (have c254b2 : (t283 == (t250 != 0)) = true := by simpa using c254))
       clear c254
       (first | rw [c254b0] | (simp only [i64_w, i32_w]; rw [c254b0]) | skip)
       by_cases c263 : t283 = true
       ·subst c263
        have H1 : (laws_FnNumbers.j1 kj13 l0 l1 (!(t281 == t247) || (!(t282 == t248))) t247 t248) = some r := by rw [if_pos rfl] at H; exact H
        clear H
        have H := H1
        clear H1
        as_aux_lemma =>
         have H' := Aside0.mk H
         clear H
         have hnb264 := NB252_249.out
         have hnc264 := NB249_252.out
         have hnb265 := NB252_256.out
         have hnc265 := NB256_252.out
         have hnb266 := NB252_260.out
         have hnc266 := NB260_252.out
         have hnb267 := NB252_264.out
         have hnc267 := NB264_252.out
         have hnb268 := NB252_270.out
         have hnc268 := NB270_252.out
         have hnb269 := NB252_277.out
         have hnc269 := NB277_252.out
         have hnb270 := NB252_284.out
         have hnc270 := NB284_252.out
         have hcz271_0 : w245.cell? ⟨gb252, 0, none⟩ = some (.int .i64 t250) := (blk_cell BK252.out 0).trans rfl
         have hcz271_1 : w245.cell? ⟨gb252, 1, none⟩ = some (.int .i64 t251) := (blk_cell BK252.out 1).trans rfl
         have hfz271_0 := blk_frozen BK252.out 0
         have hfz271_1 := blk_frozen BK252.out 1
         have hnb272 := NB284_249.out
         have hnc272 := NB249_284.out
         have hnb273 := NB284_256.out
         have hnc273 := NB256_284.out
         have hnb274 := NB284_260.out
         have hnc274 := NB260_284.out
         have hnb275 := NB284_264.out
         have hnc275 := NB264_284.out
         have hnb276 := NB284_270.out
         have hnc276 := NB270_284.out
         have hnb277 := NB284_277.out
         have hnc277 := NB277_284.out
         have hcz278_0 : w245.cell? ⟨gb284, 0, none⟩ = some (.int .i64 0) := (blk_cell BK284.out 0).trans rfl
         have hcz278_1 : w245.cell? ⟨gb284, 1, none⟩ = some (.int .i64 0) := (blk_cell BK284.out 1).trans rfl
         have hfz278_0 := blk_frozen BK284.out 0
         have hfz278_1 := blk_frozen BK284.out 1
         have hnb279 := NB249_256.out
         have hnc279 := NB256_249.out
         have hnb280 := NB249_260.out
         have hnc280 := NB260_249.out
         have hnb281 := NB249_264.out
         have hnc281 := NB264_249.out
         have hnb282 := NB249_270.out
         have hnc282 := NB270_249.out
         have hnb283 := NB249_277.out
         have hnc283 := NB277_249.out
         have hcz284_0 : w245.cell? ⟨gb249, 0, none⟩ = some (.int .i64 t247) := (blk_cell BK249.out 0).trans rfl
         have hcz284_1 : w245.cell? ⟨gb249, 1, none⟩ = some (.int .i64 t248) := (blk_cell BK249.out 1).trans rfl
         have hfz284_0 := blk_frozen BK249.out 0
         have hfz284_1 := blk_frozen BK249.out 1
         go_wp2
         go_meet
         case rel => exact ⟨_, ((!(t281 == t247) || (!(t282 == t248)))), (by first | rfl | (simp; done) | (simp [*]; done)), H', ⟨by have := HJ13.out; first | omega | exact Nat.le_refl _⟩, ⟨by (with_reducible repeat (first | refine blk_drewN ?_ _ | refine blk_drew ?_ | refine blk_alloc ?_ _)); refine blk_far ?_ NB249_284.out _; (with_reducible repeat (first | refine blk_drewN ?_ _ | refine blk_drew ?_ | refine blk_alloc ?_ _)); refine blk_far ?_ NB249_284.out _; (with_reducible repeat (first | refine blk_drewN ?_ _ | refine blk_drew ?_ | refine blk_alloc ?_ _)); exact BK249.out⟩, ⟨by (with_reducible repeat (first | refine blk_drewN ?_ _ | refine blk_drew ?_ | refine blk_alloc ?_ _)); refine blk_far ?_ NB252_284.out _; (with_reducible repeat (first | refine blk_drewN ?_ _ | refine blk_drew ?_ | refine blk_alloc ?_ _)); refine blk_far ?_ NB252_284.out _; (with_reducible repeat (first | refine blk_drewN ?_ _ | refine blk_drew ?_ | refine blk_alloc ?_ _)); exact BK252.out⟩, ⟨by (with_reducible repeat (first | refine blk_drewN ?_ _ | refine blk_drew ?_ | refine blk_alloc ?_ _)); refine blk_far ?_ NB256_284.out _; (with_reducible repeat (first | refine blk_drewN ?_ _ | refine blk_drew ?_ | refine blk_alloc ?_ _)); refine blk_far ?_ NB256_284.out _; (with_reducible repeat (first | refine blk_drewN ?_ _ | refine blk_drew ?_ | refine blk_alloc ?_ _)); exact BK256.out⟩, ⟨by (with_reducible repeat (first | refine blk_drewN ?_ _ | refine blk_drew ?_ | refine blk_alloc ?_ _)); refine blk_far ?_ NB260_284.out _; (with_reducible repeat (first | refine blk_drewN ?_ _ | refine blk_drew ?_ | refine blk_alloc ?_ _)); refine blk_far ?_ NB260_284.out _; (with_reducible repeat (first | refine blk_drewN ?_ _ | refine blk_drew ?_ | refine blk_alloc ?_ _)); exact BK260.out⟩, ⟨by (with_reducible repeat (first | refine blk_drewN ?_ _ | refine blk_drew ?_ | refine blk_alloc ?_ _)); refine blk_far ?_ NB264_284.out _; (with_reducible repeat (first | refine blk_drewN ?_ _ | refine blk_drew ?_ | refine blk_alloc ?_ _)); refine blk_far ?_ NB264_284.out _; (with_reducible repeat (first | refine blk_drewN ?_ _ | refine blk_drew ?_ | refine blk_alloc ?_ _)); exact BK264.out⟩, ⟨by (with_reducible repeat (first | refine blk_drewN ?_ _ | refine blk_drew ?_ | refine blk_alloc ?_ _)); refine blk_far ?_ NB270_284.out _; (with_reducible repeat (first | refine blk_drewN ?_ _ | refine blk_drew ?_ | refine blk_alloc ?_ _)); refine blk_far ?_ NB270_284.out _; (with_reducible repeat (first | refine blk_drewN ?_ _ | refine blk_drew ?_ | refine blk_alloc ?_ _)); exact BK270.out⟩, ⟨by (with_reducible repeat (first | refine blk_drewN ?_ _ | refine blk_drew ?_ | refine blk_alloc ?_ _)); refine blk_far ?_ NB277_284.out _; (with_reducible repeat (first | refine blk_drewN ?_ _ | refine blk_drew ?_ | refine blk_alloc ?_ _)); refine blk_far ?_ NB277_284.out _; (with_reducible repeat (first | refine blk_drewN ?_ _ | refine blk_drew ?_ | refine blk_alloc ?_ _)); exact BK277.out⟩, ⟨by (with_reducible repeat (first | refine blk_drewN ?_ _ | refine blk_drew ?_ | refine blk_alloc ?_ _)); refine blk_put (cs := #[.int .i64 t281, .int .i64 0]) ?_ 1 _ rfl; (with_reducible repeat (first | refine blk_drewN ?_ _ | refine blk_drew ?_ | refine blk_alloc ?_ _)); refine blk_put (cs := #[.int .i64 0, .int .i64 0]) ?_ 0 _ rfl; (with_reducible repeat (first | refine blk_drewN ?_ _ | refine blk_drew ?_ | refine blk_alloc ?_ _)); exact BK284.out⟩, ⟨by repeat (first | (with_reducible first | exact HB.out | apply below_alloc | apply pw_below_drewN | apply below_drew1 | refine below_set ?_ GE249.out | refine below_set ?_ GE252.out | refine below_set ?_ GE256.out | refine below_set ?_ GE260.out | refine below_set ?_ GE264.out | refine below_set ?_ GE270.out | refine below_set ?_ GE277.out | refine below_set ?_ GE284.out) | exact HB.out)⟩⟩
       ·replace c263 := Bool.eq_false_iff.mpr c263
        subst c263
        have H1 : (laws_FnNumbers.j1 kj13 l0 l1 false t247 t248) = some r := by rw [if_neg (show ¬ (false = true) by decide)] at H; exact H
        clear H
        have H := H1
        clear H1
        as_aux_lemma =>
         have H' := Aside0.mk H
         clear H
         have hnb285 := NB252_249.out
         have hnc285 := NB249_252.out
         have hnb286 := NB252_256.out
         have hnc286 := NB256_252.out
         have hnb287 := NB252_260.out
         have hnc287 := NB260_252.out
         have hnb288 := NB252_264.out
         have hnc288 := NB264_252.out
         have hnb289 := NB252_270.out
         have hnc289 := NB270_252.out
         have hnb290 := NB252_277.out
         have hnc290 := NB277_252.out
         have hnb291 := NB252_284.out
         have hnc291 := NB284_252.out
         have hcz292_0 : w245.cell? ⟨gb252, 0, none⟩ = some (.int .i64 t250) := (blk_cell BK252.out 0).trans rfl
         have hcz292_1 : w245.cell? ⟨gb252, 1, none⟩ = some (.int .i64 t251) := (blk_cell BK252.out 1).trans rfl
         have hfz292_0 := blk_frozen BK252.out 0
         have hfz292_1 := blk_frozen BK252.out 1
         go_wp2
         go_meet
         case rel => exact ⟨_, (false), (by first | rfl | (simp; done) | (simp [*]; done)), H', ⟨by have := HJ13.out; first | omega | exact Nat.le_refl _⟩, ⟨by (with_reducible repeat (first | refine blk_drewN ?_ _ | refine blk_drew ?_ | refine blk_alloc ?_ _)); refine blk_far ?_ NB249_284.out _; (with_reducible repeat (first | refine blk_drewN ?_ _ | refine blk_drew ?_ | refine blk_alloc ?_ _)); refine blk_far ?_ NB249_284.out _; (with_reducible repeat (first | refine blk_drewN ?_ _ | refine blk_drew ?_ | refine blk_alloc ?_ _)); exact BK249.out⟩, ⟨by (with_reducible repeat (first | refine blk_drewN ?_ _ | refine blk_drew ?_ | refine blk_alloc ?_ _)); refine blk_far ?_ NB252_284.out _; (with_reducible repeat (first | refine blk_drewN ?_ _ | refine blk_drew ?_ | refine blk_alloc ?_ _)); refine blk_far ?_ NB252_284.out _; (with_reducible repeat (first | refine blk_drewN ?_ _ | refine blk_drew ?_ | refine blk_alloc ?_ _)); exact BK252.out⟩, ⟨by (with_reducible repeat (first | refine blk_drewN ?_ _ | refine blk_drew ?_ | refine blk_alloc ?_ _)); refine blk_far ?_ NB256_284.out _; (with_reducible repeat (first | refine blk_drewN ?_ _ | refine blk_drew ?_ | refine blk_alloc ?_ _)); refine blk_far ?_ NB256_284.out _; (with_reducible repeat (first | refine blk_drewN ?_ _ | refine blk_drew ?_ | refine blk_alloc ?_ _)); exact BK256.out⟩, ⟨by (with_reducible repeat (first | refine blk_drewN ?_ _ | refine blk_drew ?_ | refine blk_alloc ?_ _)); refine blk_far ?_ NB260_284.out _; (with_reducible repeat (first | refine blk_drewN ?_ _ | refine blk_drew ?_ | refine blk_alloc ?_ _)); refine blk_far ?_ NB260_284.out _; (with_reducible repeat (first | refine blk_drewN ?_ _ | refine blk_drew ?_ | refine blk_alloc ?_ _)); exact BK260.out⟩, ⟨by (with_reducible repeat (first | refine blk_drewN ?_ _ | refine blk_drew ?_ | refine blk_alloc ?_ _)); refine blk_far ?_ NB264_284.out _; (with_reducible repeat (first | refine blk_drewN ?_ _ | refine blk_drew ?_ | refine blk_alloc ?_ _)); refine blk_far ?_ NB264_284.out _; (with_reducible repeat (first | refine blk_drewN ?_ _ | refine blk_drew ?_ | refine blk_alloc ?_ _)); exact BK264.out⟩, ⟨by (with_reducible repeat (first | refine blk_drewN ?_ _ | refine blk_drew ?_ | refine blk_alloc ?_ _)); refine blk_far ?_ NB270_284.out _; (with_reducible repeat (first | refine blk_drewN ?_ _ | refine blk_drew ?_ | refine blk_alloc ?_ _)); refine blk_far ?_ NB270_284.out _; (with_reducible repeat (first | refine blk_drewN ?_ _ | refine blk_drew ?_ | refine blk_alloc ?_ _)); exact BK270.out⟩, ⟨by (with_reducible repeat (first | refine blk_drewN ?_ _ | refine blk_drew ?_ | refine blk_alloc ?_ _)); refine blk_far ?_ NB277_284.out _; (with_reducible repeat (first | refine blk_drewN ?_ _ | refine blk_drew ?_ | refine blk_alloc ?_ _)); refine blk_far ?_ NB277_284.out _; (with_reducible repeat (first | refine blk_drewN ?_ _ | refine blk_drew ?_ | refine blk_alloc ?_ _)); exact BK277.out⟩, ⟨by (with_reducible repeat (first | refine blk_drewN ?_ _ | refine blk_drew ?_ | refine blk_alloc ?_ _)); refine blk_put (cs := #[.int .i64 t281, .int .i64 0]) ?_ 1 _ rfl; (with_reducible repeat (first | refine blk_drewN ?_ _ | refine blk_drew ?_ | refine blk_alloc ?_ _)); refine blk_put (cs := #[.int .i64 0, .int .i64 0]) ?_ 0 _ rfl; (with_reducible repeat (first | refine blk_drewN ?_ _ | refine blk_drew ?_ | refine blk_alloc ?_ _)); exact BK284.out⟩, ⟨by repeat (first | (with_reducible first | exact HB.out | apply below_alloc | apply pw_below_drewN | apply below_drew1 | refine below_set ?_ GE249.out | refine below_set ?_ GE252.out | refine below_set ?_ GE256.out | refine below_set ?_ GE260.out | refine below_set ?_ GE264.out | refine below_set ?_ GE270.out | refine below_set ?_ GE277.out | refine below_set ?_ GE284.out) | exact HB.out)⟩⟩
     case rest =>
      clear HC230
      try clear c1
      try clear c2
      try clear p2
      try clear c3
      try clear c4
      try clear c5
      try clear c6
      try clear p6
      try clear c7
      try clear c8
      try clear c9
      try clear c10
      try clear c11
      try clear c12
      try clear c13
      try clear c14
      try clear c15
      try clear c16
      try clear c17
      try clear c18
      try clear c19
      try clear c20
      try clear c21
      try clear c22
      try clear c23
      try clear c24
      try clear c25
      try clear c26
      try clear c27
      try clear c28
      try clear c29
      try clear c31
      try clear c32
      try clear c33
      try clear c39
      try clear c40
      try clear c41
      try clear c42
      try clear c48
      try clear c49
      try clear c50
      try clear c51
      try clear c52
      try clear c61
      try clear c62
      try clear c63
      try clear c64
      try clear p64
      try clear c65
      try clear c66
      try clear c71
      try clear c72
      try clear c73
      try clear c74
      try clear c75
      try clear c76
      try clear c77
      try clear c78
      try clear c78b0
      try clear c79
      try clear c80
      try clear c81
      try clear c82
      try clear c83
      try clear c84
      try clear c86
      try clear c87
      try clear c88
      try clear c89
      try clear c90
      try clear c92
      try clear c92b0
      try clear c93
      try clear c94
      try clear c95
      try clear c96
      try clear c97
      try clear c98
      try clear c100
      try clear c101
      try clear c102
      try clear c103
      try clear c104
      try clear c106
      try clear c107
      try clear c108
      try clear c109
      try clear c111
      try clear c111b0
      try clear c112
      try clear c113
      try clear c114
      try clear c115
      try clear c116
      try clear c117
      try clear c119
      try clear c120
      try clear c121
      try clear c122
      try clear c123
      try clear c125
      try clear c126
      try clear c127
      try clear c128
      try clear c130
      try clear c131
      try clear c132
      try clear c134
      try clear c135
      try clear c138
      try clear c139
      try clear c139b0
      try clear c139b1
      try clear c139b2
      try clear c140
      try clear c141
      try clear c142
      try clear c143
      try clear c144
      try clear c145
      try clear c147
      try clear c148
      try clear c149
      try clear c150
      try clear c151
      try clear c153
      try clear c154
      try clear c155
      try clear c156
      try clear c158
      try clear c159
      try clear c160
      try clear c162
      try clear c163
      try clear c165
      try clear c170
      try clear c171
      try clear c172
      try clear c173
      try clear c174
      try clear c175
      try clear c177
      try clear c178
      try clear c179
      try clear c180
      try clear c181
      try clear c183
      try clear c184
      try clear c185
      try clear c186
      try clear c188
      try clear c189
      try clear c190
      try clear c192
      try clear c193
      try clear c195
      try clear c200
      try clear c201
      try clear c202
      try clear c203
      try clear c204
      try clear c205
      try clear c207
      try clear c208
      try clear c209
      try clear c210
      try clear c211
      try clear c213
      try clear c214
      try clear c215
      try clear c216
      try clear c218
      try clear c219
      try clear c220
      try clear c222
      try clear c223
      try clear c225
      try clear c228
      try clear c231
      try clear c232
      try clear c233
      try clear c234
      try clear c235
      try clear c236
      try clear c238
      try clear c239
      try clear c240
      try clear c241
      try clear c242
      try clear c246
      try clear c247
      try clear c248
      try clear c249
      try clear c250
      try clear c251
      try clear c252
      try clear c254
      try clear c254b0
      try clear c254b1
      try clear c254b2
      try clear c255
      try clear c256
      try clear c257
      try clear c258
      try clear c259
      try clear c260
      try clear c261
      try clear c263
      try clear c264
      try clear c265
      try clear c266
      try clear c267
      try clear c268
      try clear c269
      try clear c270
      try clear c272
      try clear c273
      try clear c274
      try clear c275
      try clear c276
      try clear c277
      try clear c279
      try clear c280
      try clear c281
      try clear c282
      try clear c283
      try clear c285
      try clear c286
      try clear c287
      try clear c288
      try clear c289
      try clear c290
      try clear c291
      try clear hcz105_0
      try clear hcz105_1
      try clear hcz110_0
      try clear hcz110_1
      try clear hcz118_0
      try clear hcz118_1
      try clear hcz124_0
      try clear hcz124_1
      try clear hcz129_0
      try clear hcz129_1
      try clear hcz133_0
      try clear hcz133_1
      try clear hcz136_0
      try clear hcz136_1
      try clear hcz146_0
      try clear hcz146_1
      try clear hcz152_0
      try clear hcz152_1
      try clear hcz157_0
      try clear hcz157_1
      try clear hcz161_0
      try clear hcz161_1
      try clear hcz164_0
      try clear hcz164_1
      try clear hcz166_0
      try clear hcz166_1
      try clear hcz168_0
      try clear hcz168_1
      try clear hcz169_0
      try clear hcz169_1
      try clear hcz176_0
      try clear hcz176_1
      try clear hcz17_0
      try clear hcz17_1
      try clear hcz182_0
      try clear hcz182_1
      try clear hcz187_0
      try clear hcz187_1
      try clear hcz191_0
      try clear hcz191_1
      try clear hcz194_0
      try clear hcz194_1
      try clear hcz196_0
      try clear hcz196_1
      try clear hcz198_0
      try clear hcz198_1
      try clear hcz199_0
      try clear hcz199_1
      try clear hcz206_0
      try clear hcz206_1
      try clear hcz212_0
      try clear hcz212_1
      try clear hcz217_0
      try clear hcz217_1
      try clear hcz21_0
      try clear hcz21_1
      try clear hcz221_0
      try clear hcz221_1
      try clear hcz224_0
      try clear hcz224_1
      try clear hcz226_0
      try clear hcz226_1
      try clear hcz22_0
      try clear hcz22_1
      try clear hcz237_0
      try clear hcz237_1
      try clear hcz243_0
      try clear hcz243_1
      try clear hcz253_0
      try clear hcz253_1
      try clear hcz262_0
      try clear hcz262_1
      try clear hcz271_0
      try clear hcz271_1
      try clear hcz278_0
      try clear hcz278_1
      try clear hcz27_0
      try clear hcz27_1
      try clear hcz284_0
      try clear hcz284_1
      try clear hcz28_0
      try clear hcz28_1
      try clear hcz292_0
      try clear hcz292_1
      try clear hcz34_0
      try clear hcz34_1
      try clear hcz35_0
      try clear hcz35_1
      try clear hcz36_0
      try clear hcz36_1
      try clear hcz43_0
      try clear hcz43_1
      try clear hcz44_0
      try clear hcz44_1
      try clear hcz53_0
      try clear hcz53_1
      try clear hcz54_0
      try clear hcz54_1
      try clear hcz55_0
      try clear hcz55_1
      try clear hcz67_0
      try clear hcz67_1
      try clear hcz68_0
      try clear hcz68_1
      try clear hcz69_0
      try clear hcz69_1
      try clear hcz85_0
      try clear hcz85_1
      try clear hcz91_0
      try clear hcz91_1
      try clear hcz99_0
      try clear hcz99_1
      try clear hfz105_0
      try clear hfz105_1
      try clear hfz110_0
      try clear hfz110_1
      try clear hfz118_0
      try clear hfz118_1
      try clear hfz124_0
      try clear hfz124_1
      try clear hfz129_0
      try clear hfz129_1
      try clear hfz133_0
      try clear hfz133_1
      try clear hfz136_0
      try clear hfz136_1
      try clear hfz146_0
      try clear hfz146_1
      try clear hfz152_0
      try clear hfz152_1
      try clear hfz157_0
      try clear hfz157_1
      try clear hfz161_0
      try clear hfz161_1
      try clear hfz164_0
      try clear hfz164_1
      try clear hfz166_0
      try clear hfz166_1
      try clear hfz168_0
      try clear hfz168_1
      try clear hfz169_0
      try clear hfz169_1
      try clear hfz176_0
      try clear hfz176_1
      try clear hfz17_0
      try clear hfz17_1
      try clear hfz182_0
      try clear hfz182_1
      try clear hfz187_0
      try clear hfz187_1
      try clear hfz191_0
      try clear hfz191_1
      try clear hfz194_0
      try clear hfz194_1
      try clear hfz196_0
      try clear hfz196_1
      try clear hfz198_0
      try clear hfz198_1
      try clear hfz199_0
      try clear hfz199_1
      try clear hfz206_0
      try clear hfz206_1
      try clear hfz212_0
      try clear hfz212_1
      try clear hfz217_0
      try clear hfz217_1
      try clear hfz21_0
      try clear hfz21_1
      try clear hfz221_0
      try clear hfz221_1
      try clear hfz224_0
      try clear hfz224_1
      try clear hfz226_0
      try clear hfz226_1
      try clear hfz22_0
      try clear hfz22_1
      try clear hfz237_0
      try clear hfz237_1
      try clear hfz243_0
      try clear hfz243_1
      try clear hfz253_0
      try clear hfz253_1
      try clear hfz262_0
      try clear hfz262_1
      try clear hfz271_0
      try clear hfz271_1
      try clear hfz278_0
      try clear hfz278_1
      try clear hfz27_0
      try clear hfz27_1
      try clear hfz284_0
      try clear hfz284_1
      try clear hfz28_0
      try clear hfz28_1
      try clear hfz292_0
      try clear hfz292_1
      try clear hfz34_0
      try clear hfz34_1
      try clear hfz35_0
      try clear hfz35_1
      try clear hfz36_0
      try clear hfz36_1
      try clear hfz43_0
      try clear hfz43_1
      try clear hfz44_0
      try clear hfz44_1
      try clear hfz53_0
      try clear hfz53_1
      try clear hfz54_0
      try clear hfz54_1
      try clear hfz55_0
      try clear hfz55_1
      try clear hfz67_0
      try clear hfz67_1
      try clear hfz68_0
      try clear hfz68_1
      try clear hfz69_0
      try clear hfz69_1
      try clear hfz85_0
      try clear hfz85_1
      try clear hfz91_0
      try clear hfz91_1
      try clear hfz99_0
      try clear hfz99_1
      try clear p2
      try clear p6
      try clear p64
      obtain ⟨kq, x167_229, rfl, HA, HJ229, BK249, BK252, BK256, BK260, BK264, BK270, BK277, BK284, HB⟩ := hcut
      cases kq with
      | zero => exact absurd HA.out (by simp [laws_FnNumbers.j1])
      | succ kj229 =>
       have H := HA.out
       clear HA
       simp only [laws_FnNumbers.j1] at H
       by_cases c293 : x167_229 = true
       ·subst c293
        have H1 : (none) = some r := by rw [if_pos rfl] at H; exact H
        clear H
        have H := H1
        clear H1
        exact absurd H (by simp)
       ·replace c293 := Bool.eq_false_iff.mpr c293
        subst c293
        have H1 : ((laws_b10At.f l0 1 256).bind fun t285 => ((laws_b10At.f l1 1 256).bind fun t286 => ((impl_GcdOf.f kj229 (wrap64 (1 + t285)) (wrap64 (1 + t286))).bind fun bt287 => ((impl_LcmOf.f kj229 (wrap64 (1 + t285)) (wrap64 (1 + t286))).bind fun bt289 => ((impl_MakeFraction.f (wrap64 ((-6) * t247)) (wrap64 ((-6) * t248))).bind fun bt291 => (if bt287.2 = true then (if bt289.2 = true then (if bt291.2.2 = true then (if bt287.1 ≥ 1 then (if bt287.1 = 0 then (none) else (if (Int.tmod (wrap64 (1 + t285)) bt287.1) = 0 then (if (Int.tmod (wrap64 (1 + t286)) bt287.1) = 0 then (if (wrap64 (1 + t285)) = 0 then (none) else (if (Int.tmod bt289.1 (wrap64 (1 + t285))) = 0 then (if (wrap64 (1 + t286)) = 0 then (none) else (if (Int.tmod bt289.1 (wrap64 (1 + t286))) = 0 then (if (wrap64 (bt287.1 * bt289.1)) = (wrap64 ((wrap64 (1 + t285)) * (wrap64 (1 + t286)))) then (some (bt291.1 == t247 && (bt291.2.1 == t248))) else (none)) else (none))) else (none))) else (none)) else (none))) else (none)) else (none)) else (none)) else (none))))))) = some r := by rw [if_neg (show ¬ (false = true) by decide)] at H; exact H
        clear H
        have H := H1
        clear H1
        replace H := Option.bind_eq_some_iff.mp H
        obtain ⟨t285, A2940, H⟩ := H
        replace H : ((laws_b10At.f l1 1 256).bind fun t286 => ((impl_GcdOf.f kj229 (wrap64 (1 + t285)) (wrap64 (1 + t286))).bind fun bt287 => ((impl_LcmOf.f kj229 (wrap64 (1 + t285)) (wrap64 (1 + t286))).bind fun bt289 => ((impl_MakeFraction.f (wrap64 ((-6) * t247)) (wrap64 ((-6) * t248))).bind fun bt291 => (if bt287.2 = true then (if bt289.2 = true then (if bt291.2.2 = true then (if bt287.1 ≥ 1 then (if bt287.1 = 0 then (none) else (if (Int.tmod (wrap64 (1 + t285)) bt287.1) = 0 then (if (Int.tmod (wrap64 (1 + t286)) bt287.1) = 0 then (if (wrap64 (1 + t285)) = 0 then (none) else (if (Int.tmod bt289.1 (wrap64 (1 + t285))) = 0 then (if (wrap64 (1 + t286)) = 0 then (none) else (if (Int.tmod bt289.1 (wrap64 (1 + t286))) = 0 then (if (wrap64 (bt287.1 * bt289.1)) = (wrap64 ((wrap64 (1 + t285)) * (wrap64 (1 + t286)))) then (some (bt291.1 == t247 && (bt291.2.1 == t248))) else (none)) else (none))) else (none))) else (none)) else (none))) else (none)) else (none)) else (none)) else (none)))))) = some r := H
        have A294 := Aside0.mk A2940
        clear A2940
        replace H := Option.bind_eq_some_iff.mp H
        obtain ⟨t286, A2950, H⟩ := H
        replace H : ((impl_GcdOf.f kj229 (wrap64 (1 + t285)) (wrap64 (1 + t286))).bind fun bt287 => ((impl_LcmOf.f kj229 (wrap64 (1 + t285)) (wrap64 (1 + t286))).bind fun bt289 => ((impl_MakeFraction.f (wrap64 ((-6) * t247)) (wrap64 ((-6) * t248))).bind fun bt291 => (if bt287.2 = true then (if bt289.2 = true then (if bt291.2.2 = true then (if bt287.1 ≥ 1 then (if bt287.1 = 0 then (none) else (if (Int.tmod (wrap64 (1 + t285)) bt287.1) = 0 then (if (Int.tmod (wrap64 (1 + t286)) bt287.1) = 0 then (if (wrap64 (1 + t285)) = 0 then (none) else (if (Int.tmod bt289.1 (wrap64 (1 + t285))) = 0 then (if (wrap64 (1 + t286)) = 0 then (none) else (if (Int.tmod bt289.1 (wrap64 (1 + t286))) = 0 then (if (wrap64 (bt287.1 * bt289.1)) = (wrap64 ((wrap64 (1 + t285)) * (wrap64 (1 + t286)))) then (some (bt291.1 == t247 && (bt291.2.1 == t248))) else (none)) else (none))) else (none))) else (none)) else (none))) else (none)) else (none)) else (none)) else (none))))) = some r := H
        have A295 := Aside0.mk A2950
        clear A2950
        replace H := Option.bind_eq_some_iff.mp H
        obtain ⟨⟨t287, t288⟩, A2960, H⟩ := H
        replace H : ((impl_LcmOf.f kj229 (wrap64 (1 + t285)) (wrap64 (1 + t286))).bind fun bt289 => ((impl_MakeFraction.f (wrap64 ((-6) * t247)) (wrap64 ((-6) * t248))).bind fun bt291 => (if t288 = true then (if bt289.2 = true then (if bt291.2.2 = true then (if t287 ≥ 1 then (if t287 = 0 then (none) else (if (Int.tmod (wrap64 (1 + t285)) t287) = 0 then (if (Int.tmod (wrap64 (1 + t286)) t287) = 0 then (if (wrap64 (1 + t285)) = 0 then (none) else (if (Int.tmod bt289.1 (wrap64 (1 + t285))) = 0 then (if (wrap64 (1 + t286)) = 0 then (none) else (if (Int.tmod bt289.1 (wrap64 (1 + t286))) = 0 then (if (wrap64 (t287 * bt289.1)) = (wrap64 ((wrap64 (1 + t285)) * (wrap64 (1 + t286)))) then (some (bt291.1 == t247 && (bt291.2.1 == t248))) else (none)) else (none))) else (none))) else (none)) else (none))) else (none)) else (none)) else (none)) else (none)))) = some r := H
        have A296 := Aside0.mk A2960
        clear A2960
        replace H := Option.bind_eq_some_iff.mp H
        obtain ⟨⟨t289, t290⟩, A2970, H⟩ := H
        replace H : ((impl_MakeFraction.f (wrap64 ((-6) * t247)) (wrap64 ((-6) * t248))).bind fun bt291 => (if t288 = true then (if t290 = true then (if bt291.2.2 = true then (if t287 ≥ 1 then (if t287 = 0 then (none) else (if (Int.tmod (wrap64 (1 + t285)) t287) = 0 then (if (Int.tmod (wrap64 (1 + t286)) t287) = 0 then (if (wrap64 (1 + t285)) = 0 then (none) else (if (Int.tmod t289 (wrap64 (1 + t285))) = 0 then (if (wrap64 (1 + t286)) = 0 then (none) else (if (Int.tmod t289 (wrap64 (1 + t286))) = 0 then (if (wrap64 (t287 * t289)) = (wrap64 ((wrap64 (1 + t285)) * (wrap64 (1 + t286)))) then (some (bt291.1 == t247 && (bt291.2.1 == t248))) else (none)) else (none))) else (none))) else (none)) else (none))) else (none)) else (none)) else (none)) else (none))) = some r := H
        have A297 := Aside0.mk A2970
        clear A2970
        replace H := Option.bind_eq_some_iff.mp H
        obtain ⟨⟨t291, t292, t293⟩, A2980, H⟩ := H
        replace H : (if t288 = true then (if t290 = true then (if t293 = true then (if t287 ≥ 1 then (if t287 = 0 then (none) else (if (Int.tmod (wrap64 (1 + t285)) t287) = 0 then (if (Int.tmod (wrap64 (1 + t286)) t287) = 0 then (if (wrap64 (1 + t285)) = 0 then (none) else (if (Int.tmod t289 (wrap64 (1 + t285))) = 0 then (if (wrap64 (1 + t286)) = 0 then (none) else (if (Int.tmod t289 (wrap64 (1 + t286))) = 0 then (if (wrap64 (t287 * t289)) = (wrap64 ((wrap64 (1 + t285)) * (wrap64 (1 + t286)))) then (some (t291 == t247 && (t292 == t248))) else (none)) else (none))) else (none))) else (none)) else (none))) else (none)) else (none)) else (none)) else (none)) = some r := H
        have A298 := Aside0.mk A2980
        clear A2980
        by_cases c299 : t288 = true
        ·subst c299
         have H1 : (if t290 = true then (if t293 = true then (if t287 ≥ 1 then (if t287 = 0 then (none) else (if (Int.tmod (wrap64 (1 + t285)) t287) = 0 then (if (Int.tmod (wrap64 (1 + t286)) t287) = 0 then (if (wrap64 (1 + t285)) = 0 then (none) else (if (Int.tmod t289 (wrap64 (1 + t285))) = 0 then (if (wrap64 (1 + t286)) = 0 then (none) else (if (Int.tmod t289 (wrap64 (1 + t286))) = 0 then (if (wrap64 (t287 * t289)) = (wrap64 ((wrap64 (1 + t285)) * (wrap64 (1 + t286)))) then (some (t291 == t247 && (t292 == t248))) else (none)) else (none))) else (none))) else (none)) else (none))) else (none)) else (none)) else (none)) = some r := by rw [if_pos rfl] at H; exact H
         clear H
         have H := H1
         clear H1
         by_cases c300 : t290 = true
         ·subst c300
          have H1 : (if t293 = true then (if t287 ≥ 1 then (if t287 = 0 then (none) else (if (Int.tmod (wrap64 (1 + t285)) t287) = 0 then (if (Int.tmod (wrap64 (1 + t286)) t287) = 0 then (if (wrap64 (1 + t285)) = 0 then (none) else (if (Int.tmod t289 (wrap64 (1 + t285))) = 0 then (if (wrap64 (1 + t286)) = 0 then (none) else (if (Int.tmod t289 (wrap64 (1 + t286))) = 0 then (if (wrap64 (t287 * t289)) = (wrap64 ((wrap64 (1 + t285)) * (wrap64 (1 + t286)))) then (some (t291 == t247 && (t292 == t248))) else (none)) else (none))) else (none))) else (none)) else (none))) else (none)) else (none)) = some r := by rw [if_pos rfl] at H; exact H
          clear H
          have H := H1
          clear H1
          by_cases c301 : t293 = true
          ·subst c301
           have H1 : (if t287 ≥ 1 then (if t287 = 0 then (none) else (if (Int.tmod (wrap64 (1 + t285)) t287) = 0 then (if (Int.tmod (wrap64 (1 + t286)) t287) = 0 then (if (wrap64 (1 + t285)) = 0 then (none) else (if (Int.tmod t289 (wrap64 (1 + t285))) = 0 then (if (wrap64 (1 + t286)) = 0 then (none) else (if (Int.tmod t289 (wrap64 (1 + t286))) = 0 then (if (wrap64 (t287 * t289)) = (wrap64 ((wrap64 (1 + t285)) * (wrap64 (1 + t286)))) then (some (t291 == t247 && (t292 == t248))) else (none)) else (none))) else (none))) else (none)) else (none))) else (none)) = some r := by rw [if_pos rfl] at H; exact H
           clear H
           have H := H1
           clear H1
           by_cases c302 : t287 ≥ 1
           ·rw [if_pos c302] at H
            have c302b0 : decide (1 ≤ t287) = true := decide_eq_true c302
            clear c302
            by_cases c303 : t287 = 0
            ·rw [if_pos c303] at H
             exact absurd H (by simp)
            ·rw [if_neg c303] at H
             have c303b0 : (t287 == 0) = false := beq_eq_false_iff_ne.mpr c303
             have c303b1 : (t287 != 0) = true := bne_iff_ne.mpr c303
             by_cases c304 : (Int.tmod (wrap64 (1 + t285)) t287) = 0
             ·rw [if_pos c304] at H
              have c304b0 : ((Int.tmod (wrap64 (1 + t285)) t287) == 0) = true := beq_iff_eq.mpr c304
              have c304b1 : ((Int.tmod (wrap64 (1 + t285)) t287) != 0) = false := bne_eq_false_iff_eq.mpr c304
              clear c304
              by_cases c305 : (Int.tmod (wrap64 (1 + t286)) t287) = 0
              ·rw [if_pos c305] at H
               have c305b0 : ((Int.tmod (wrap64 (1 + t286)) t287) == 0) = true := beq_iff_eq.mpr c305
               have c305b1 : ((Int.tmod (wrap64 (1 + t286)) t287) != 0) = false := bne_eq_false_iff_eq.mpr c305
               clear c305
               by_cases c306 : (wrap64 (1 + t285)) = 0
               ·rw [if_pos c306] at H
                exact absurd H (by simp)
               ·rw [if_neg c306] at H
                have c306b0 : ((wrap64 (1 + t285)) == 0) = false := beq_eq_false_iff_ne.mpr c306
                have c306b1 : ((wrap64 (1 + t285)) != 0) = true := bne_iff_ne.mpr c306
                by_cases c307 : (Int.tmod t289 (wrap64 (1 + t285))) = 0
                ·rw [if_pos c307] at H
                 have c307b0 : ((Int.tmod t289 (wrap64 (1 + t285))) == 0) = true := beq_iff_eq.mpr c307
                 have c307b1 : ((Int.tmod t289 (wrap64 (1 + t285))) != 0) = false := bne_eq_false_iff_eq.mpr c307
                 clear c307
                 by_cases c308 : (wrap64 (1 + t286)) = 0
                 ·rw [if_pos c308] at H
                  exact absurd H (by simp)
                 ·rw [if_neg c308] at H
                  have c308b0 : ((wrap64 (1 + t286)) == 0) = false := beq_eq_false_iff_ne.mpr c308
                  have c308b1 : ((wrap64 (1 + t286)) != 0) = true := bne_iff_ne.mpr c308
                  by_cases c309 : (Int.tmod t289 (wrap64 (1 + t286))) = 0
                  ·rw [if_pos c309] at H
                   have c309b0 : ((Int.tmod t289 (wrap64 (1 + t286))) == 0) = true := beq_iff_eq.mpr c309
                   have c309b1 : ((Int.tmod t289 (wrap64 (1 + t286))) != 0) = false := bne_eq_false_iff_eq.mpr c309
                   clear c309
                   by_cases c310 : (wrap64 (t287 * t289)) = (wrap64 ((wrap64 (1 + t285)) * (wrap64 (1 + t286))))
                   ·rw [if_pos c310] at H
                    have c310b0 : ((wrap64 (t287 * t289)) == (wrap64 ((wrap64 (1 + t285)) * (wrap64 (1 + t286))))) = true := beq_iff_eq.mpr c310
                    have c310b1 : ((wrap64 (t287 * t289)) != (wrap64 ((wrap64 (1 + t285)) * (wrap64 (1 + t286))))) = false := bne_eq_false_iff_eq.mpr c310
                    clear c310
                    as_aux_lemma =>
                     obtain rfl := Option.some.inj H
                     go_wp2_with (first | ((with_reducible refine gate_callee (f := 15) rfl ?_); refine goesL_ (some 169) rfl rfl Tryz.func15 (by kernel_rfl) rfl #[.slice A0 l0.length c0, .int .i64 1, .int .i64 256] rfl (by (try simp only [List.map_toArray, List.map_cons, List.map_nil]); first | done | rfl | (simp only [List.length_drop, List.length_take]; rfl)) ?_; (with_reducible refine (laws_b10At.calls _ _ l0 1 256 t285 _ ?side1 ?side2 A294.out).mono ?_); (case side1 => repeat (first | exact (Kd.C_below HR0.out HB.out) | (with_reducible refine Kd.C_alloc ?_ _) | (with_reducible refine Kd.C_drewN ?_ _) | (with_reducible refine Kd.C_drew ?_))); (case side2 => exact HC0.out); rintro e w' ⟨rfl, ⟨nd, rfl⟩⟩; refine ⟨_, rfl, ?_⟩; (try (rw [drewN_self wc]; generalize hq_ : World.drewN wc _ = wc; have n0_ : Aside0 (wc.heap[gb249]? = some (.cells #[.int .i64 t247, .int .i64 t248] 25 (0, 0))) := ⟨by rw [← hq_]; exact (by (with_reducible repeat (first | refine blk_drewN ?_ _ | refine blk_drew ?_ | refine blk_alloc ?_ _)); exact BK249.out)⟩; have n1_ : Aside0 (wc.heap[gb252]? = some (.cells #[.int .i64 t250, .int .i64 t251] 25 (0, 0))) := ⟨by rw [← hq_]; exact (by (with_reducible repeat (first | refine blk_drewN ?_ _ | refine blk_drew ?_ | refine blk_alloc ?_ _)); exact BK252.out)⟩; have n2_ : Aside0 (wc.heap[gb256]? = some (.cells #[.int .i64 t253, .int .i64 t254] 25 (0, 0))) := ⟨by rw [← hq_]; exact (by (with_reducible repeat (first | refine blk_drewN ?_ _ | refine blk_drew ?_ | refine blk_alloc ?_ _)); exact BK256.out)⟩; have n3_ : Aside0 (wc.heap[gb260]? = some (.cells #[.int .i64 t257, .int .i64 t258] 25 (0, 0))) := ⟨by rw [← hq_]; exact (by (with_reducible repeat (first | refine blk_drewN ?_ _ | refine blk_drew ?_ | refine blk_alloc ?_ _)); exact BK260.out)⟩; have n4_ : Aside0 (wc.heap[gb264]? = some (.cells #[.int .i64 t261, .int .i64 t262] 25 (0, 0))) := ⟨by rw [← hq_]; exact (by (with_reducible repeat (first | refine blk_drewN ?_ _ | refine blk_drew ?_ | refine blk_alloc ?_ _)); exact BK264.out)⟩; have n5_ : Aside0 (wc.heap[gb270]? = some (.cells #[.int .i64 t267, .int .i64 t268] 25 (0, 0))) := ⟨by rw [← hq_]; exact (by (with_reducible repeat (first | refine blk_drewN ?_ _ | refine blk_drew ?_ | refine blk_alloc ?_ _)); exact BK270.out)⟩; have n6_ : Aside0 (wc.heap[gb277]? = some (.cells #[.int .i64 t274, .int .i64 t275] 25 (0, 0))) := ⟨by rw [← hq_]; exact (by (with_reducible repeat (first | refine blk_drewN ?_ _ | refine blk_drew ?_ | refine blk_alloc ?_ _)); exact BK277.out)⟩; have n7_ : Aside0 (wc.heap[gb284]? = some (.cells #[.int .i64 t281, .int .i64 t282] 25 (0, 0))) := ⟨by rw [← hq_]; exact (by (with_reducible repeat (first | refine blk_drewN ?_ _ | refine blk_drew ?_ | refine blk_alloc ?_ _)); exact BK284.out)⟩; have n8_ : Aside0 (Below w.heap.size w wc) := ⟨by rw [← hq_]; exact (by repeat (first | (with_reducible first | exact HB.out | apply below_alloc | apply pw_below_drewN | apply below_drew1 | refine below_set ?_ GE249.out | refine below_set ?_ GE252.out | refine below_set ?_ GE256.out | refine below_set ?_ GE260.out | refine below_set ?_ GE264.out | refine below_set ?_ GE270.out | refine below_set ?_ GE277.out | refine below_set ?_ GE284.out) | exact HB.out))⟩; clear BK249 BK252 BK256 BK260 BK264 BK270 BK277 BK284 HB hq_; have BK249 := n0_; have BK252 := n1_; have BK256 := n2_; have BK260 := n3_; have BK264 := n4_; have BK270 := n5_; have BK277 := n6_; have BK284 := n7_; have HB := n8_; clear n0_ n1_ n2_ n3_ n4_ n5_ n6_ n7_ n8_))) | ((with_reducible refine gate_callee (f := 15) rfl ?_); refine goesL_ (some 172) rfl rfl Tryz.func15 (by kernel_rfl) rfl #[.slice A1 l1.length c1, .int .i64 1, .int .i64 256] rfl (by (try simp only [List.map_toArray, List.map_cons, List.map_nil]); first | done | rfl | (simp only [List.length_drop, List.length_take]; rfl)) ?_; (with_reducible refine (laws_b10At.calls _ _ l1 1 256 t286 _ ?side1 ?side2 A295.out).mono ?_); (case side1 => repeat (first | exact (Kd.C_below HR1.out HB.out) | (with_reducible refine Kd.C_alloc ?_ _) | (with_reducible refine Kd.C_drewN ?_ _) | (with_reducible refine Kd.C_drew ?_))); (case side2 => exact HC1.out); rintro e w' ⟨rfl, ⟨nd, rfl⟩⟩; refine ⟨_, rfl, ?_⟩; (try (rw [drewN_self wc]; generalize hq_ : World.drewN wc _ = wc; have n0_ : Aside0 (wc.heap[gb249]? = some (.cells #[.int .i64 t247, .int .i64 t248] 25 (0, 0))) := ⟨by rw [← hq_]; exact (by (with_reducible repeat (first | refine blk_drewN ?_ _ | refine blk_drew ?_ | refine blk_alloc ?_ _)); exact BK249.out)⟩; have n1_ : Aside0 (wc.heap[gb252]? = some (.cells #[.int .i64 t250, .int .i64 t251] 25 (0, 0))) := ⟨by rw [← hq_]; exact (by (with_reducible repeat (first | refine blk_drewN ?_ _ | refine blk_drew ?_ | refine blk_alloc ?_ _)); exact BK252.out)⟩; have n2_ : Aside0 (wc.heap[gb256]? = some (.cells #[.int .i64 t253, .int .i64 t254] 25 (0, 0))) := ⟨by rw [← hq_]; exact (by (with_reducible repeat (first | refine blk_drewN ?_ _ | refine blk_drew ?_ | refine blk_alloc ?_ _)); exact BK256.out)⟩; have n3_ : Aside0 (wc.heap[gb260]? = some (.cells #[.int .i64 t257, .int .i64 t258] 25 (0, 0))) := ⟨by rw [← hq_]; exact (by (with_reducible repeat (first | refine blk_drewN ?_ _ | refine blk_drew ?_ | refine blk_alloc ?_ _)); exact BK260.out)⟩; have n4_ : Aside0 (wc.heap[gb264]? = some (.cells #[.int .i64 t261, .int .i64 t262] 25 (0, 0))) := ⟨by rw [← hq_]; exact (by (with_reducible repeat (first | refine blk_drewN ?_ _ | refine blk_drew ?_ | refine blk_alloc ?_ _)); exact BK264.out)⟩; have n5_ : Aside0 (wc.heap[gb270]? = some (.cells #[.int .i64 t267, .int .i64 t268] 25 (0, 0))) := ⟨by rw [← hq_]; exact (by (with_reducible repeat (first | refine blk_drewN ?_ _ | refine blk_drew ?_ | refine blk_alloc ?_ _)); exact BK270.out)⟩; have n6_ : Aside0 (wc.heap[gb277]? = some (.cells #[.int .i64 t274, .int .i64 t275] 25 (0, 0))) := ⟨by rw [← hq_]; exact (by (with_reducible repeat (first | refine blk_drewN ?_ _ | refine blk_drew ?_ | refine blk_alloc ?_ _)); exact BK277.out)⟩; have n7_ : Aside0 (wc.heap[gb284]? = some (.cells #[.int .i64 t281, .int .i64 t282] 25 (0, 0))) := ⟨by rw [← hq_]; exact (by (with_reducible repeat (first | refine blk_drewN ?_ _ | refine blk_drew ?_ | refine blk_alloc ?_ _)); exact BK284.out)⟩; have n8_ : Aside0 (Below w.heap.size w wc) := ⟨by rw [← hq_]; exact (by repeat (first | (with_reducible first | exact HB.out | apply below_alloc | apply pw_below_drewN | apply below_drew1 | refine below_set ?_ GE249.out | refine below_set ?_ GE252.out | refine below_set ?_ GE256.out | refine below_set ?_ GE260.out | refine below_set ?_ GE264.out | refine below_set ?_ GE270.out | refine below_set ?_ GE277.out | refine below_set ?_ GE284.out) | exact HB.out))⟩; clear BK249 BK252 BK256 BK260 BK264 BK270 BK277 BK284 HB hq_; have BK249 := n0_; have BK252 := n1_; have BK256 := n2_; have BK260 := n3_; have BK264 := n4_; have BK270 := n5_; have BK277 := n6_; have BK284 := n7_; have HB := n8_; clear n0_ n1_ n2_ n3_ n4_ n5_ n6_ n7_ n8_))) | ((with_reducible refine gate_callee (f := 16) rfl ?_); refine goesL_ (some 177) rfl rfl Tryz.func16 (by kernel_rfl) rfl #[.int .i64 (wrap64 (1 + t285)), .int .i64 (wrap64 (1 + t286))] rfl (by (try simp only [List.map_toArray, List.map_cons, List.map_nil]); first | done | rfl | (simp only [List.length_drop, List.length_take]; rfl)) ?_; (with_reducible refine (impl_GcdOf.calls kj229 (wrap64 (1 + t285)) (wrap64 (1 + t286)) t287 true _ A296.out).mono ?_); rintro e w311 ⟨rfl, hb⟩; refine ⟨_, rfl, ?_⟩; have n0_ := Aside0.mk (blk_below (g := gb249) (o := .cells #[.int .i64 t247, .int .i64 t248] 25 (0, 0)) (by (with_reducible repeat (first | refine blk_drewN ?_ _ | refine blk_drew ?_ | refine blk_alloc ?_ _)); exact BK249.out) hb); have n1_ := Aside0.mk (blk_below (g := gb252) (o := .cells #[.int .i64 t250, .int .i64 t251] 25 (0, 0)) (by (with_reducible repeat (first | refine blk_drewN ?_ _ | refine blk_drew ?_ | refine blk_alloc ?_ _)); exact BK252.out) hb); have n2_ := Aside0.mk (blk_below (g := gb256) (o := .cells #[.int .i64 t253, .int .i64 t254] 25 (0, 0)) (by (with_reducible repeat (first | refine blk_drewN ?_ _ | refine blk_drew ?_ | refine blk_alloc ?_ _)); exact BK256.out) hb); have n3_ := Aside0.mk (blk_below (g := gb260) (o := .cells #[.int .i64 t257, .int .i64 t258] 25 (0, 0)) (by (with_reducible repeat (first | refine blk_drewN ?_ _ | refine blk_drew ?_ | refine blk_alloc ?_ _)); exact BK260.out) hb); have n4_ := Aside0.mk (blk_below (g := gb264) (o := .cells #[.int .i64 t261, .int .i64 t262] 25 (0, 0)) (by (with_reducible repeat (first | refine blk_drewN ?_ _ | refine blk_drew ?_ | refine blk_alloc ?_ _)); exact BK264.out) hb); have n5_ := Aside0.mk (blk_below (g := gb270) (o := .cells #[.int .i64 t267, .int .i64 t268] 25 (0, 0)) (by (with_reducible repeat (first | refine blk_drewN ?_ _ | refine blk_drew ?_ | refine blk_alloc ?_ _)); exact BK270.out) hb); have n6_ := Aside0.mk (blk_below (g := gb277) (o := .cells #[.int .i64 t274, .int .i64 t275] 25 (0, 0)) (by (with_reducible repeat (first | refine blk_drewN ?_ _ | refine blk_drew ?_ | refine blk_alloc ?_ _)); exact BK277.out) hb); have n7_ := Aside0.mk (blk_below (g := gb284) (o := .cells #[.int .i64 t281, .int .i64 t282] 25 (0, 0)) (by (with_reducible repeat (first | refine blk_drewN ?_ _ | refine blk_drew ?_ | refine blk_alloc ?_ _)); exact BK284.out) hb); have n8_ := Aside0.mk (below_step (by repeat (first | (with_reducible first | exact HB.out | apply below_alloc | apply pw_below_drewN | apply below_drew1 | refine below_set ?_ GE249.out | refine below_set ?_ GE252.out | refine below_set ?_ GE256.out | refine below_set ?_ GE260.out | refine below_set ?_ GE264.out | refine below_set ?_ GE270.out | refine below_set ?_ GE277.out | refine below_set ?_ GE284.out) | exact HB.out)) hb); clear BK249; clear BK252; clear BK256; clear BK260; clear BK264; clear BK270; clear BK277; clear BK284; clear HB; have BK249 := n0_; have BK252 := n1_; have BK256 := n2_; have BK260 := n3_; have BK264 := n4_; have BK270 := n5_; have BK277 := n6_; have BK284 := n7_; have HB := n8_; clear n0_ n1_ n2_ n3_ n4_ n5_ n6_ n7_ n8_; (try clear hb); (try clear hb2); (try clear hk); (try clear hi)) | ((with_reducible refine gate_callee (f := 17) rfl ?_); refine goesL_ (some 183) rfl rfl Tryz.func17 (by kernel_rfl) rfl #[.int .i64 (wrap64 (1 + t285)), .int .i64 (wrap64 (1 + t286))] rfl (by (try simp only [List.map_toArray, List.map_cons, List.map_nil]); first | done | rfl | (simp only [List.length_drop, List.length_take]; rfl)) ?_; (with_reducible refine (impl_LcmOf.calls kj229 (wrap64 (1 + t285)) (wrap64 (1 + t286)) t289 true _ A297.out).mono ?_); rintro e w312 ⟨rfl, hb⟩; refine ⟨_, rfl, ?_⟩; have n0_ := Aside0.mk (blk_below (g := gb249) (o := .cells #[.int .i64 t247, .int .i64 t248] 25 (0, 0)) (by (with_reducible repeat (first | refine blk_drewN ?_ _ | refine blk_drew ?_ | refine blk_alloc ?_ _)); exact BK249.out) hb); have n1_ := Aside0.mk (blk_below (g := gb252) (o := .cells #[.int .i64 t250, .int .i64 t251] 25 (0, 0)) (by (with_reducible repeat (first | refine blk_drewN ?_ _ | refine blk_drew ?_ | refine blk_alloc ?_ _)); exact BK252.out) hb); have n2_ := Aside0.mk (blk_below (g := gb256) (o := .cells #[.int .i64 t253, .int .i64 t254] 25 (0, 0)) (by (with_reducible repeat (first | refine blk_drewN ?_ _ | refine blk_drew ?_ | refine blk_alloc ?_ _)); exact BK256.out) hb); have n3_ := Aside0.mk (blk_below (g := gb260) (o := .cells #[.int .i64 t257, .int .i64 t258] 25 (0, 0)) (by (with_reducible repeat (first | refine blk_drewN ?_ _ | refine blk_drew ?_ | refine blk_alloc ?_ _)); exact BK260.out) hb); have n4_ := Aside0.mk (blk_below (g := gb264) (o := .cells #[.int .i64 t261, .int .i64 t262] 25 (0, 0)) (by (with_reducible repeat (first | refine blk_drewN ?_ _ | refine blk_drew ?_ | refine blk_alloc ?_ _)); exact BK264.out) hb); have n5_ := Aside0.mk (blk_below (g := gb270) (o := .cells #[.int .i64 t267, .int .i64 t268] 25 (0, 0)) (by (with_reducible repeat (first | refine blk_drewN ?_ _ | refine blk_drew ?_ | refine blk_alloc ?_ _)); exact BK270.out) hb); have n6_ := Aside0.mk (blk_below (g := gb277) (o := .cells #[.int .i64 t274, .int .i64 t275] 25 (0, 0)) (by (with_reducible repeat (first | refine blk_drewN ?_ _ | refine blk_drew ?_ | refine blk_alloc ?_ _)); exact BK277.out) hb); have n7_ := Aside0.mk (blk_below (g := gb284) (o := .cells #[.int .i64 t281, .int .i64 t282] 25 (0, 0)) (by (with_reducible repeat (first | refine blk_drewN ?_ _ | refine blk_drew ?_ | refine blk_alloc ?_ _)); exact BK284.out) hb); have n8_ := Aside0.mk (below_step (by repeat (first | (with_reducible first | exact HB.out | apply below_alloc | apply pw_below_drewN | apply below_drew1 | refine below_set ?_ GE249.out | refine below_set ?_ GE252.out | refine below_set ?_ GE256.out | refine below_set ?_ GE260.out | refine below_set ?_ GE264.out | refine below_set ?_ GE270.out | refine below_set ?_ GE277.out | refine below_set ?_ GE284.out) | exact HB.out)) hb); clear BK249; clear BK252; clear BK256; clear BK260; clear BK264; clear BK270; clear BK277; clear BK284; clear HB; have BK249 := n0_; have BK252 := n1_; have BK256 := n2_; have BK260 := n3_; have BK264 := n4_; have BK270 := n5_; have BK277 := n6_; have BK284 := n7_; have HB := n8_; clear n0_ n1_ n2_ n3_ n4_ n5_ n6_ n7_ n8_; (try clear hb); (try clear hb2); (try clear hk); (try clear hi); have hnb313 := NB249_252.out; have hnc313 := NB252_249.out; have hnb314 := NB249_256.out; have hnc314 := NB256_249.out; have hnb315 := NB249_260.out; have hnc315 := NB260_249.out; have hnb316 := NB249_264.out; have hnc316 := NB264_249.out; have hnb317 := NB249_270.out; have hnc317 := NB270_249.out; have hnb318 := NB249_277.out; have hnc318 := NB277_249.out; have hnb319 := NB249_284.out; have hnc319 := NB284_249.out; have hcz320_0 : w312.cell? ⟨gb249, 0, none⟩ = some (.int .i64 t247) := (blk_cell BK249.out 0).trans rfl; have hcz320_1 : w312.cell? ⟨gb249, 1, none⟩ = some (.int .i64 t248) := (blk_cell BK249.out 1).trans rfl; have hfz320_0 := blk_frozen BK249.out 0; have hfz320_1 := blk_frozen BK249.out 1) | ((with_reducible refine gate_callee (f := 18) rfl ?_); refine goesL_ (some 193) rfl rfl Tryz.func18 (by kernel_rfl) rfl #[.int .i64 (wrap64 ((-6) * t247)), .int .i64 (wrap64 ((-6) * t248))] rfl (by (try simp only [List.map_toArray, List.map_cons, List.map_nil]); first | done | rfl | (simp only [List.length_drop, List.length_take]; rfl)) ?_; (with_reducible refine (impl_MakeFraction.calls (wrap64 ((-6) * t247)) (wrap64 ((-6) * t248)) t291 t292 true _ A298.out).mono ?_); rintro e w321 ⟨rfl, hb⟩; refine ⟨_, rfl, ?_⟩; have n0_ := Aside0.mk (blk_below (g := gb249) (o := .cells #[.int .i64 t247, .int .i64 t248] 25 (0, 0)) (by (with_reducible repeat (first | refine blk_drewN ?_ _ | refine blk_drew ?_ | refine blk_alloc ?_ _)); exact BK249.out) hb); have n1_ := Aside0.mk (blk_below (g := gb252) (o := .cells #[.int .i64 t250, .int .i64 t251] 25 (0, 0)) (by (with_reducible repeat (first | refine blk_drewN ?_ _ | refine blk_drew ?_ | refine blk_alloc ?_ _)); exact BK252.out) hb); have n2_ := Aside0.mk (blk_below (g := gb256) (o := .cells #[.int .i64 t253, .int .i64 t254] 25 (0, 0)) (by (with_reducible repeat (first | refine blk_drewN ?_ _ | refine blk_drew ?_ | refine blk_alloc ?_ _)); exact BK256.out) hb); have n3_ := Aside0.mk (blk_below (g := gb260) (o := .cells #[.int .i64 t257, .int .i64 t258] 25 (0, 0)) (by (with_reducible repeat (first | refine blk_drewN ?_ _ | refine blk_drew ?_ | refine blk_alloc ?_ _)); exact BK260.out) hb); have n4_ := Aside0.mk (blk_below (g := gb264) (o := .cells #[.int .i64 t261, .int .i64 t262] 25 (0, 0)) (by (with_reducible repeat (first | refine blk_drewN ?_ _ | refine blk_drew ?_ | refine blk_alloc ?_ _)); exact BK264.out) hb); have n5_ := Aside0.mk (blk_below (g := gb270) (o := .cells #[.int .i64 t267, .int .i64 t268] 25 (0, 0)) (by (with_reducible repeat (first | refine blk_drewN ?_ _ | refine blk_drew ?_ | refine blk_alloc ?_ _)); exact BK270.out) hb); have n6_ := Aside0.mk (blk_below (g := gb277) (o := .cells #[.int .i64 t274, .int .i64 t275] 25 (0, 0)) (by (with_reducible repeat (first | refine blk_drewN ?_ _ | refine blk_drew ?_ | refine blk_alloc ?_ _)); exact BK277.out) hb); have n7_ := Aside0.mk (blk_below (g := gb284) (o := .cells #[.int .i64 t281, .int .i64 t282] 25 (0, 0)) (by (with_reducible repeat (first | refine blk_drewN ?_ _ | refine blk_drew ?_ | refine blk_alloc ?_ _)); exact BK284.out) hb); have n8_ := Aside0.mk (below_step (by repeat (first | (with_reducible first | exact HB.out | apply below_alloc | apply pw_below_drewN | apply below_drew1 | refine below_set ?_ GE249.out | refine below_set ?_ GE252.out | refine below_set ?_ GE256.out | refine below_set ?_ GE260.out | refine below_set ?_ GE264.out | refine below_set ?_ GE270.out | refine below_set ?_ GE277.out | refine below_set ?_ GE284.out) | exact HB.out)) hb); clear BK249; clear BK252; clear BK256; clear BK260; clear BK264; clear BK270; clear BK277; clear BK284; clear HB; have BK249 := n0_; have BK252 := n1_; have BK256 := n2_; have BK260 := n3_; have BK264 := n4_; have BK270 := n5_; have BK277 := n6_; have BK284 := n7_; have HB := n8_; clear n0_ n1_ n2_ n3_ n4_ n5_ n6_ n7_ n8_; (try clear hb); (try clear hb2); (try clear hk); (try clear hi)) | ((with_reducible refine gate_dst (N := 29) rfl ?_); refine box_event ?hg (N := 29) ?hd (cs := #[.int .i64 0, .int .i64 0]) (t := 25) ?hr ?_; (case hd => rfl); (case hg => rfl); (case hr => first | (go_simp; done) | (go_simp; rfl)); intro gb294 hg w322 hbox hb; have n0_ := Aside0.mk (blk_below (g := gb249) (o := .cells #[.int .i64 t247, .int .i64 t248] 25 (0, 0)) (by (with_reducible repeat (first | refine blk_drewN ?_ _ | refine blk_drew ?_ | refine blk_alloc ?_ _)); exact BK249.out) hb); have n1_ := Aside0.mk (blk_below (g := gb252) (o := .cells #[.int .i64 t250, .int .i64 t251] 25 (0, 0)) (by (with_reducible repeat (first | refine blk_drewN ?_ _ | refine blk_drew ?_ | refine blk_alloc ?_ _)); exact BK252.out) hb); have n2_ := Aside0.mk (blk_below (g := gb256) (o := .cells #[.int .i64 t253, .int .i64 t254] 25 (0, 0)) (by (with_reducible repeat (first | refine blk_drewN ?_ _ | refine blk_drew ?_ | refine blk_alloc ?_ _)); exact BK256.out) hb); have n3_ := Aside0.mk (blk_below (g := gb260) (o := .cells #[.int .i64 t257, .int .i64 t258] 25 (0, 0)) (by (with_reducible repeat (first | refine blk_drewN ?_ _ | refine blk_drew ?_ | refine blk_alloc ?_ _)); exact BK260.out) hb); have n4_ := Aside0.mk (blk_below (g := gb264) (o := .cells #[.int .i64 t261, .int .i64 t262] 25 (0, 0)) (by (with_reducible repeat (first | refine blk_drewN ?_ _ | refine blk_drew ?_ | refine blk_alloc ?_ _)); exact BK264.out) hb); have n5_ := Aside0.mk (blk_below (g := gb270) (o := .cells #[.int .i64 t267, .int .i64 t268] 25 (0, 0)) (by (with_reducible repeat (first | refine blk_drewN ?_ _ | refine blk_drew ?_ | refine blk_alloc ?_ _)); exact BK270.out) hb); have n6_ := Aside0.mk (blk_below (g := gb277) (o := .cells #[.int .i64 t274, .int .i64 t275] 25 (0, 0)) (by (with_reducible repeat (first | refine blk_drewN ?_ _ | refine blk_drew ?_ | refine blk_alloc ?_ _)); exact BK277.out) hb); have n7_ := Aside0.mk (blk_below (g := gb284) (o := .cells #[.int .i64 t281, .int .i64 t282] 25 (0, 0)) (by (with_reducible repeat (first | refine blk_drewN ?_ _ | refine blk_drew ?_ | refine blk_alloc ?_ _)); exact BK284.out) hb); have n8_ := Aside0.mk (below_step (by repeat (first | (with_reducible first | exact HB.out | apply below_alloc | apply pw_below_drewN | apply below_drew1 | refine below_set ?_ GE249.out | refine below_set ?_ GE252.out | refine below_set ?_ GE256.out | refine below_set ?_ GE260.out | refine below_set ?_ GE264.out | refine below_set ?_ GE270.out | refine below_set ?_ GE277.out | refine below_set ?_ GE284.out) | exact HB.out)) hb); have n9_ := Aside0.mk (hbox); have n10_ := Aside0.mk ((by rw [hg]; exact (below_size (by repeat (first | (with_reducible first | exact HB.out | apply below_alloc | apply pw_below_drewN | apply below_drew1 | refine below_set ?_ GE249.out | refine below_set ?_ GE252.out | refine below_set ?_ GE256.out | refine below_set ?_ GE260.out | refine below_set ?_ GE264.out | refine below_set ?_ GE270.out | refine below_set ?_ GE277.out | refine below_set ?_ GE284.out) | exact HB.out))) : w.heap.size ≤ gb294)); have n11_ := Aside0.mk ((by rw [hg]; exact (below_size (by repeat (first | (with_reducible first | exact HB.out | apply below_alloc | apply pw_below_drewN | apply below_drew1 | refine below_set ?_ GE249.out | refine below_set ?_ GE252.out | refine below_set ?_ GE256.out | refine below_set ?_ GE260.out | refine below_set ?_ GE264.out | refine below_set ?_ GE270.out | refine below_set ?_ GE277.out | refine below_set ?_ GE284.out) | exact HB.out))) : w.heap.size ≤ gb294)); have n12_ := Aside0.mk ((by rw [hg]; exact Nat.ne_of_lt (blk_lt (g := gb249) (o := .cells #[.int .i64 t247, .int .i64 t248] 25 (0, 0)) (by (with_reducible repeat (first | refine blk_drewN ?_ _ | refine blk_drew ?_ | refine blk_alloc ?_ _)); exact BK249.out)) : gb249 ≠ gb294)); have n13_ := Aside0.mk ((by rw [hg]; exact Nat.ne_of_gt (blk_lt (g := gb249) (o := .cells #[.int .i64 t247, .int .i64 t248] 25 (0, 0)) (by (with_reducible repeat (first | refine blk_drewN ?_ _ | refine blk_drew ?_ | refine blk_alloc ?_ _)); exact BK249.out)) : gb294 ≠ gb249)); have n14_ := Aside0.mk ((by rw [hg]; exact Nat.ne_of_lt (blk_lt (g := gb252) (o := .cells #[.int .i64 t250, .int .i64 t251] 25 (0, 0)) (by (with_reducible repeat (first | refine blk_drewN ?_ _ | refine blk_drew ?_ | refine blk_alloc ?_ _)); exact BK252.out)) : gb252 ≠ gb294)); have n15_ := Aside0.mk ((by rw [hg]; exact Nat.ne_of_gt (blk_lt (g := gb252) (o := .cells #[.int .i64 t250, .int .i64 t251] 25 (0, 0)) (by (with_reducible repeat (first | refine blk_drewN ?_ _ | refine blk_drew ?_ | refine blk_alloc ?_ _)); exact BK252.out)) : gb294 ≠ gb252)); have n16_ := Aside0.mk ((by rw [hg]; exact Nat.ne_of_lt (blk_lt (g := gb256) (o := .cells #[.int .i64 t253, .int .i64 t254] 25 (0, 0)) (by (with_reducible repeat (first | refine blk_drewN ?_ _ | refine blk_drew ?_ | refine blk_alloc ?_ _)); exact BK256.out)) : gb256 ≠ gb294)); have n17_ := Aside0.mk ((by rw [hg]; exact Nat.ne_of_gt (blk_lt (g := gb256) (o := .cells #[.int .i64 t253, .int .i64 t254] 25 (0, 0)) (by (with_reducible repeat (first | refine blk_drewN ?_ _ | refine blk_drew ?_ | refine blk_alloc ?_ _)); exact BK256.out)) : gb294 ≠ gb256)); have n18_ := Aside0.mk ((by rw [hg]; exact Nat.ne_of_lt (blk_lt (g := gb260) (o := .cells #[.int .i64 t257, .int .i64 t258] 25 (0, 0)) (by (with_reducible repeat (first | refine blk_drewN ?_ _ | refine blk_drew ?_ | refine blk_alloc ?_ _)); exact BK260.out)) : gb260 ≠ gb294)); have n19_ := Aside0.mk ((by rw [hg]; exact Nat.ne_of_gt (blk_lt (g := gb260) (o := .cells #[.int .i64 t257, .int .i64 t258] 25 (0, 0)) (by (with_reducible repeat (first | refine blk_drewN ?_ _ | refine blk_drew ?_ | refine blk_alloc ?_ _)); exact BK260.out)) : gb294 ≠ gb260)); have n20_ := Aside0.mk ((by rw [hg]; exact Nat.ne_of_lt (blk_lt (g := gb264) (o := .cells #[.int .i64 t261, .int .i64 t262] 25 (0, 0)) (by (with_reducible repeat (first | refine blk_drewN ?_ _ | refine blk_drew ?_ | refine blk_alloc ?_ _)); exact BK264.out)) : gb264 ≠ gb294)); have n21_ := Aside0.mk ((by rw [hg]; exact Nat.ne_of_gt (blk_lt (g := gb264) (o := .cells #[.int .i64 t261, .int .i64 t262] 25 (0, 0)) (by (with_reducible repeat (first | refine blk_drewN ?_ _ | refine blk_drew ?_ | refine blk_alloc ?_ _)); exact BK264.out)) : gb294 ≠ gb264)); have n22_ := Aside0.mk ((by rw [hg]; exact Nat.ne_of_lt (blk_lt (g := gb270) (o := .cells #[.int .i64 t267, .int .i64 t268] 25 (0, 0)) (by (with_reducible repeat (first | refine blk_drewN ?_ _ | refine blk_drew ?_ | refine blk_alloc ?_ _)); exact BK270.out)) : gb270 ≠ gb294)); have n23_ := Aside0.mk ((by rw [hg]; exact Nat.ne_of_gt (blk_lt (g := gb270) (o := .cells #[.int .i64 t267, .int .i64 t268] 25 (0, 0)) (by (with_reducible repeat (first | refine blk_drewN ?_ _ | refine blk_drew ?_ | refine blk_alloc ?_ _)); exact BK270.out)) : gb294 ≠ gb270)); have n24_ := Aside0.mk ((by rw [hg]; exact Nat.ne_of_lt (blk_lt (g := gb277) (o := .cells #[.int .i64 t274, .int .i64 t275] 25 (0, 0)) (by (with_reducible repeat (first | refine blk_drewN ?_ _ | refine blk_drew ?_ | refine blk_alloc ?_ _)); exact BK277.out)) : gb277 ≠ gb294)); have n25_ := Aside0.mk ((by rw [hg]; exact Nat.ne_of_gt (blk_lt (g := gb277) (o := .cells #[.int .i64 t274, .int .i64 t275] 25 (0, 0)) (by (with_reducible repeat (first | refine blk_drewN ?_ _ | refine blk_drew ?_ | refine blk_alloc ?_ _)); exact BK277.out)) : gb294 ≠ gb277)); have n26_ := Aside0.mk ((by rw [hg]; exact Nat.ne_of_lt (blk_lt (g := gb284) (o := .cells #[.int .i64 t281, .int .i64 t282] 25 (0, 0)) (by (with_reducible repeat (first | refine blk_drewN ?_ _ | refine blk_drew ?_ | refine blk_alloc ?_ _)); exact BK284.out)) : gb284 ≠ gb294)); have n27_ := Aside0.mk ((by rw [hg]; exact Nat.ne_of_gt (blk_lt (g := gb284) (o := .cells #[.int .i64 t281, .int .i64 t282] 25 (0, 0)) (by (with_reducible repeat (first | refine blk_drewN ?_ _ | refine blk_drew ?_ | refine blk_alloc ?_ _)); exact BK284.out)) : gb294 ≠ gb284)); clear BK249; clear BK252; clear BK256; clear BK260; clear BK264; clear BK270; clear BK277; clear BK284; clear HB; have BK249 := n0_; have BK252 := n1_; have BK256 := n2_; have BK260 := n3_; have BK264 := n4_; have BK270 := n5_; have BK277 := n6_; have BK284 := n7_; have HB := n8_; have BK294 := n9_; have GW294 := n10_; have GE294 := n11_; have NB249_294 := n12_; have NB294_249 := n13_; have NB252_294 := n14_; have NB294_252 := n15_; have NB256_294 := n16_; have NB294_256 := n17_; have NB260_294 := n18_; have NB294_260 := n19_; have NB264_294 := n20_; have NB294_264 := n21_; have NB270_294 := n22_; have NB294_270 := n23_; have NB277_294 := n24_; have NB294_277 := n25_; have NB284_294 := n26_; have NB294_284 := n27_; clear n0_ n1_ n2_ n3_ n4_ n5_ n6_ n7_ n8_ n9_ n10_ n11_ n12_ n13_ n14_ n15_ n16_ n17_ n18_ n19_ n20_ n21_ n22_ n23_ n24_ n25_ n26_ n27_; clear hb hbox hg; have hnb323 := NB294_249.out; have hnc323 := NB249_294.out; have hnb324 := NB294_252.out; have hnc324 := NB252_294.out; have hnb325 := NB294_256.out; have hnc325 := NB256_294.out; have hnb326 := NB294_260.out; have hnc326 := NB260_294.out; have hnb327 := NB294_264.out; have hnc327 := NB264_294.out; have hnb328 := NB294_270.out; have hnc328 := NB270_294.out; have hnb329 := NB294_277.out; have hnc329 := NB277_294.out; have hnb330 := NB294_284.out; have hnc330 := NB284_294.out; have hcz331_0 : w322.cell? ⟨gb294, 0, none⟩ = some (.int .i64 0) := (blk_cell BK294.out 0).trans rfl; have hcz331_1 : w322.cell? ⟨gb294, 1, none⟩ = some (.int .i64 0) := (blk_cell BK294.out 1).trans rfl; have hfz331_0 := blk_frozen BK294.out 0; have hfz331_1 := blk_frozen BK294.out 1; have hcz332_0 : w322.cell? ⟨gb249, 0, none⟩ = some (.int .i64 t247) := (blk_cell BK249.out 0).trans rfl; have hcz332_1 : w322.cell? ⟨gb249, 1, none⟩ = some (.int .i64 t248) := (blk_cell BK249.out 1).trans rfl; have hfz332_0 := blk_frozen BK249.out 0; have hfz332_1 := blk_frozen BK249.out 1))
                     go_ret
                     exact ⟨by first | rfl | (simp [errW_none, errW_some] <;> rfl) | (simp [*, errW_none, errW_some] <;> rfl), by repeat (first | (with_reducible first | exact HB.out | apply below_alloc | apply pw_below_drewN | apply below_drew1 | refine below_set ?_ GE249.out | refine below_set ?_ GE252.out | refine below_set ?_ GE256.out | refine below_set ?_ GE260.out | refine below_set ?_ GE264.out | refine below_set ?_ GE270.out | refine below_set ?_ GE277.out | refine below_set ?_ GE284.out | refine below_set ?_ GE294.out) | exact HB.out)⟩
                   ·rw [if_neg c310] at H
                    exact absurd H (by simp)
                  ·rw [if_neg c309] at H
                   exact absurd H (by simp)
                ·rw [if_neg c307] at H
                 exact absurd H (by simp)
              ·rw [if_neg c305] at H
               exact absurd H (by simp)
             ·rw [if_neg c304] at H
              exact absurd H (by simp)
           ·rw [if_neg c302] at H
            exact absurd H (by simp)
          ·replace c301 := Bool.eq_false_iff.mpr c301
           subst c301
           have H1 : (none) = some r := by rw [if_neg (show ¬ (false = true) by decide)] at H; exact H
           clear H
           have H := H1
           clear H1
           exact absurd H (by simp)
         ·replace c300 := Bool.eq_false_iff.mpr c300
          subst c300
          have H1 : (none) = some r := by rw [if_neg (show ¬ (false = true) by decide)] at H; exact H
          clear H
          have H := H1
          clear H1
          exact absurd H (by simp)
        ·replace c299 := Bool.eq_false_iff.mpr c299
         subst c299
         have H1 : (none) = some r := by rw [if_neg (show ¬ (false = true) by decide)] at H; exact H
         clear H
         have H := H1
         clear H1
         exact absurd H (by simp)

end Go.Proofs.YtbemhcdklmcbcaaGreatDoor.A
