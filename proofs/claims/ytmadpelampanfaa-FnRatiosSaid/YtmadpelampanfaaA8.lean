-- Printed by this session's oprint.py through the kit's printer.
import Derived.Test.YtmadpelampanfaaA0
import Derived.Test.YtmadpelampanfaaA7
import Derived.Test.YtmadpelampanfaaA17
import Derived.Test.YtmadpelampanfaaA20
import Derived.Test.YtmadpelampanfaaRats8
namespace Go.Proofs.Ytmadpelampanfaa.A
open Go.RowKit Go.Proofs.YtmadpelampanfaaW.PrintWords Go.Proofs.YtmadpelampanfaaW.PrintLast Go.Proofs.YtmadpelampanfaaW.PrintMore
attribute [local go_sem] max2_int min2_int max_two min_two max_three min_three max_four min_four   -- for this text's walks alone
set_option linter.unusedVariables false
set_option linter.unusedSimpArgs false

/-! ### impl_BestRatio: function 8 -/
-- given: proved by hand (bestratio.tpl)
/-- How far n / d is from the goal gn / gd, times d and gd. -/
def missI (gn gd n d : Int) : Int := if n * gd - gn * d < gn * d - n * gd then gn * d - n * gd else n * gd - gn * d
def brStep (gn gd : Int) (b f : Int × Int) : Int × Int := if b.2 = 0 ∨ missI gn gd f.1 f.2 * b.2 < missI gn gd b.1 b.2 * f.2 then f else b
/-- The candidate j (0 or 1) at the number d below. -/
def brCand (gn gd : Int) (d j : Int) : Int × Int := (gn * d / gd + j, d)
def brIn (gn gd d : Int) (b : Int × Int) : Nat → Int × Int
  | 0 => b
  | j + 1 => brStep gn gd (brIn gn gd d b j) (brCand gn gd d (j : Int))
def brTo (gn gd : Int) : Nat → Int × Int
  | 0 => (0, 0)
  | k + 1 => brIn gn gd ((k : Int) + 1) (brTo gn gd k) 2
def goalB (n d : Int) : Bool := okF n d && decide (d ≤ 1000000 ∧ 0 ≤ n ∧ n ≤ 1000 * d)
def impl_BestRatio.f (n d m : Int) : Option (Int × Int × Bool) := some (if goalB n d = true ∧ (1 ≤ m ∧ m ≤ 10000) then mkF (brTo n d m.toNat).1 (brTo n d m.toNat).2 else (0, 0, false))
theorem isGoal_is (n d : Int) : ∃ k, impl_isGoal.f k n d = some (goalB n d) := by
  obtain ⟨m, hm⟩ := valid_is n d
  refine ⟨0 + m, ?_⟩
  unfold impl_isGoal.f goalB
  rw [hm 0, Option.bind_some]
  cases h : okF n d
  · rfl
  · have h1 := (okF_iff.1 h).1
    have hw : wrap64 (1000 * d) = wrap64 (1000 * d) := rfl
    by_cases c : d ≤ 1000000
    · have hw : wrap64 (1000 * d) = 1000 * d := by unfold wrap64; omega
      by_cases c2 : 0 ≤ n <;> by_cases c3 : n ≤ 1000 * d <;> simp [c, c2, c3, hw]
    · simp [c]
theorem goalB_parts {n d : Int} (h : goalB n d = true) : 1 ≤ d ∧ d ≤ 1000000 ∧ 0 ≤ n ∧ n ≤ 1000 * d := by
  unfold goalB at h
  rw [Bool.and_eq_true] at h
  have h2 := of_decide_eq_true h.2
  have h1 := (okF_iff.1 h.1).1
  omega
theorem br_mul {x y a b : Int} (h0 : 0 ≤ x) (h1 : x ≤ a) (h2 : 0 ≤ y) (h3 : y ≤ b) : 0 ≤ x * y ∧ x * y ≤ a * b :=
  ⟨Int.mul_nonneg h0 h2, Int.mul_le_mul h1 h3 h2 (by omega)⟩
/-- What is known of the best fraction so far. -/
def BrOk (b : Int × Int) : Prop := (0 ≤ b.1 ∧ b.1 ≤ 10000001) ∧ (0 ≤ b.2 ∧ b.2 ≤ 10000)
theorem brCand_ok {gn gd d j : Int} (h : goalB gn gd = true) (hd : 1 ≤ d ∧ d ≤ 10000) (hj : 0 ≤ j ∧ j ≤ 1) : BrOk (brCand gn gd d j) := by
  obtain ⟨g1, g2, g3, g4⟩ := goalB_parts h
  have hm : 0 ≤ gn * d := Int.mul_nonneg g3 (by omega)
  have hq0 : 0 ≤ gn * d / gd := Int.ediv_nonneg hm (by omega)
  have hq1 : gn * d / gd ≤ 10000000 := by
    have : gn * d ≤ 10000000 * gd := by
      have h1 : gn * d ≤ (1000 * gd) * 10000 := Int.mul_le_mul g4 hd.2 (by omega) (by omega)
      omega
    have h2 := Int.ediv_le_ediv (c := gd) (by omega) this
    rwa [Int.mul_ediv_cancel _ (by omega)] at h2
  unfold BrOk brCand
  dsimp only
  omega
theorem brStep_ok {gn gd : Int} {b f : Int × Int} (hb : BrOk b) (hf : BrOk f) : BrOk (brStep gn gd b f) := by
  unfold brStep; split <;> assumption
theorem brIn_ok {gn gd d : Int} {b : Int × Int} (h : goalB gn gd = true) (hd : 1 ≤ d ∧ d ≤ 10000) (hb : BrOk b) : ∀ j, j ≤ 2 → BrOk (brIn gn gd d b j)
  | 0, _ => hb
  | j + 1, hj => brStep_ok (brIn_ok h hd hb j (by omega)) (brCand_ok h hd (by omega))
theorem brTo_ok {gn gd : Int} (h : goalB gn gd = true) : ∀ k : Nat, k ≤ 10000 → BrOk (brTo gn gd k)
  | 0, _ => by unfold BrOk brTo; decide
  | k + 1, hk => brIn_ok h (by omega) (brTo_ok h k (by omega)) 2 (Nat.le_refl _)
theorem brStep_pos {gn gd : Int} {b f : Int × Int} (hb : 0 ≤ b.2) (hf : 1 ≤ f.2) : 1 ≤ (brStep gn gd b f).2 := by
  unfold brStep
  by_cases h0 : b.2 = 0
  · rw [if_pos (Or.inl h0)]; exact hf
  · split
    · exact hf
    · omega
theorem brTo_pos {gn gd : Int} (h : goalB gn gd = true) (k : Nat) (hk : k + 1 ≤ 10000) : 1 ≤ (brTo gn gd (k + 1)).2 :=
  brStep_pos (brIn_ok h (show 1 ≤ (k : Int) + 1 ∧ (k : Int) + 1 ≤ 10000 by omega) (brTo_ok h k (by omega)) 1 (by decide)).2.1 (show 1 ≤ (k : Int) + 1 by omega)
theorem brMake {gn gd : Int} (h : goalB gn gd = true) (k : Nat) (h0 : 1 ≤ k) (hk : k ≤ 10000) : impl_MakeFraction.f (brTo gn gd k).1 (brTo gn gd k).2 = some (mkF (brTo gn gd k).1 (brTo gn gd k).2) := by
  obtain ⟨k, rfl⟩ : ∃ m, k = m + 1 := ⟨k - 1, by omega⟩
  have h1 := brTo_pos h k hk
  obtain ⟨⟨a0, a1⟩, ⟨b0, b1⟩⟩ := brTo_ok h (k + 1) hk
  unfold impl_MakeFraction.f
  rw [if_pos ⟨by omega, by unfold isPart; exact decide_eq_true (by omega), by unfold isPart; exact decide_eq_true (by omega)⟩]
theorem missI_le {gn gd n d : Int} (h : goalB gn gd = true) (hn : 0 ≤ n ∧ n ≤ 10000001) (hd : 0 ≤ d ∧ d ≤ 10000) :
    (0 ≤ n * gd ∧ n * gd ≤ 10000001000000) ∧ (0 ≤ gn * d ∧ gn * d ≤ 10000000000000) ∧ 0 ≤ missI gn gd n d ∧ missI gn gd n d ≤ 10000001000000 := by
  obtain ⟨g1, g2, g3, g4⟩ := goalB_parts h
  have h1 := br_mul hn.1 hn.2 (show 0 ≤ gd by omega) g2
  have h2 := br_mul g3 (show gn ≤ 1000000000 by omega) hd.1 hd.2
  have e1 : (10000001 : Int) * 1000000 = 10000001000000 := by decide
  have e2 : (1000000000 : Int) * 10000 = 10000000000000 := by decide
  rw [e1] at h1
  rw [e2] at h2
  unfold missI
  generalize n * gd = p at *
  generalize gn * d = q at *
  refine ⟨h1, h2, ?_⟩
  split <;> omega
set_option maxHeartbeats 1600000 in
set_option maxRecDepth 100000 in
theorem impl_BestRatio.miss (g : Nat) (gn gd n d : Int) (w : World) (hg : w.heap[g]? = some (boxF gn gd)) (h : goalB gn gd = true) (hn : 0 ≤ n ∧ n ≤ 10000001) (hd : 0 ≤ d ∧ d ≤ 10000) :
    Calls Try.prog 21 #[.agg #[.int .i64 n, .int .i64 d], .pointer (some ⟨g, 0, none⟩)] w fun e w' => e = .returned (.int .i64 (missI gn gd n d)) ∧ Below w.heap.size w w' := by
  obtain ⟨⟨a0, a1⟩, ⟨b0, b1⟩, -, -⟩ := missI_le h hn hd
  have HM := Aside0.mk (show missI gn gd n d = if n * gd - gn * d < gn * d - n * gd then gn * d - n * gd else n * gd - gn * d from rfl)
  obtain ⟨p, hp⟩ : ∃ p, n * gd = p := ⟨_, rfl⟩
  obtain ⟨q, hq⟩ : ∃ q, gn * d = q := ⟨_, rfl⟩
  rw [hp, hq] at HM
  rw [hp] at a0 a1
  rw [hq] at b0 b1
  have hw1 : IntKind.i64.wrap (n * gd) = p := by rw [hp]; simp only [IntKind.wrap_i64]; omega
  have hw2 : IntKind.i64.wrap (gn * d) = q := by rw [hq]; simp only [IntKind.wrap_i64]; omega
  have hw3 : IntKind.i64.wrap (p - q) = p - q := by simp only [IntKind.wrap_i64]; omega
  have hw4 : IntKind.i64.wrap (q - p) = q - p := by simp only [IntKind.wrap_i64]; omega
  have CB := Aside0.mk (below_alloc (Below.refl w.heap.size w) (boxF n d))
  obtain ⟨z0, z1, -, -⟩ := two_cells (blk_alloc hg (boxF n d))
  obtain ⟨y0, y1, -, -⟩ := two_cells (blk_new w (boxF n d))
  clear hg h hn hd hp hq a0 a1 b0 b1
  by_cases hc : p - q < q - p
  · rw [if_pos hc] at HM
    go_enter Try.func21, Try.ntmps21
    go_wp2
    go_ret
    exact ⟨by rw [HM.out]; rfl, CB.out⟩
  · rw [if_neg hc] at HM
    go_enter Try.func21, Try.ntmps21
    go_wp2
    go_ret
    exact ⟨by rw [HM.out]; rfl, CB.out⟩
set_option maxHeartbeats 3200000 in
set_option maxRecDepth 100000 in
theorem impl_BestRatio.no1 (n d m : Int) (w : World) (c1 : goalB n d = false) :
    Calls Try.prog 8 #[.agg #[.int .i64 n, .int .i64 d], .int .i64 m] w fun e w' => e = .returned (.tuple #[.agg #[.int .i64 0, .int .i64 0], .bool false]) ∧ Below w.heap.size w w' := by
  have hu23 := Try.underlying26
  have CA := Aside0.mk (below_alloc (below_alloc (Below.refl w.heap.size w) (boxF n d)) zeroF)
  have BX := Aside0.mk (blk_alloc (blk_new w (boxF n d)) zeroF)
  have BK := Aside0.mk (blk_new (w.alloc (boxF n d)) zeroF)
  rw [size_alloc'] at BK
  obtain ⟨kg, hkg⟩ := isGoal_is n d
  rw [c1] at hkg
  have HG := Aside0.mk hkg
  obtain ⟨x0, x1, -, -⟩ := two_cells BX.out
  clear hkg
  go_enter Try.func8, Try.ntmps8
  go_wp2_with (first
    | (go_at_call 20; refine (impl_isGoal.calls kg n d false _ HG.out).mono ?_; rintro e w1 ⟨rfl, hB⟩; have C1 := Aside0.mk (below_step CA.out hB); have BK1 := Aside0.mk (blk_below BK.out hB); obtain ⟨z0, z1, z2, z3⟩ := two_cells BK1.out; clear hB))
  refine bodyPost_ret (results_ct rfl _ _ (w.heap.size + 1) 26 #[.int .i64 0, .int .i64 0] (0, 0) _ rfl (by (repeat (first | refine blk_drewN ?_ _ | refine blk_drew ?_)); refine blk_put (cs := #[.int .i64 0, .int .i64 0]) ?_ 1 _ rfl; refine blk_put (cs := #[.int .i64 0, .int .i64 0]) ?_ 0 _ rfl; exact BK1.out) Try.underlying26 rfl (by kernel_rfl)) rfl ?_
  exact ⟨rfl, by first | exact below_set2 C1.out (by omega) _ _ | exact below_drew (below_set2 C1.out (by omega) _ _)⟩
set_option maxHeartbeats 3200000 in
set_option maxRecDepth 100000 in
theorem impl_BestRatio.no2 (n d m : Int) (w : World) (c1 : goalB n d = true) (c2 : ¬ (1 ≤ m ∧ m ≤ 10000)) :
    Calls Try.prog 8 #[.agg #[.int .i64 n, .int .i64 d], .int .i64 m] w fun e w' => e = .returned (.tuple #[.agg #[.int .i64 0, .int .i64 0], .bool false]) ∧ Below w.heap.size w w' := by
  have hu23 := Try.underlying26
  have CA := Aside0.mk (below_alloc (below_alloc (Below.refl w.heap.size w) (boxF n d)) zeroF)
  have BX := Aside0.mk (blk_alloc (blk_new w (boxF n d)) zeroF)
  have BK := Aside0.mk (blk_new (w.alloc (boxF n d)) zeroF)
  rw [size_alloc'] at BK
  obtain ⟨kg, hkg⟩ := isGoal_is n d
  rw [c1] at hkg
  have HG := Aside0.mk hkg
  have HW := Aside0.mk ((within_is m 1 10000).trans (by rw [decide_eq_false c2] : _ = some false))
  obtain ⟨x0, x1, -, -⟩ := two_cells BX.out
  clear hkg c2
  go_enter Try.func8, Try.ntmps8
  go_wp2_with (first
    | (go_at_call 20; refine (impl_isGoal.calls kg n d true _ HG.out).mono ?_; rintro e w1 ⟨rfl, hB⟩; have C1 := Aside0.mk (below_step CA.out hB); have BK1 := Aside0.mk (blk_below BK.out hB); clear hB)
    | (go_at_call 17; refine (impl_within.calls m 1 10000 false _ HW.out).mono ?_; rintro e w2 ⟨rfl, n2, h2⟩; have C2 := Aside0.mk (show Below w.heap.size w w2 by rw [h2]; exact pw_below_drewN C1.out n2); have BK2 := Aside0.mk (show w2.heap[w.heap.size + 1]? = some zeroF by rw [h2]; exact BK1.out); obtain ⟨z0, z1, z2, z3⟩ := two_cells BK2.out; clear h2))
  refine bodyPost_ret (results_ct rfl _ _ (w.heap.size + 1) 26 #[.int .i64 0, .int .i64 0] (0, 0) _ rfl (by (repeat (first | refine blk_drewN ?_ _ | refine blk_drew ?_)); refine blk_put (cs := #[.int .i64 0, .int .i64 0]) ?_ 1 _ rfl; refine blk_put (cs := #[.int .i64 0, .int .i64 0]) ?_ 0 _ rfl; exact BK2.out) Try.underlying26 rfl (by kernel_rfl)) rfl ?_
  exact ⟨rfl, by first | exact below_set2 C2.out (by omega) _ _ | exact below_drew (below_set2 C2.out (by omega) _ _)⟩
theorem brRow {w : World} {g : Nat} {a b c d : Value} {T : TypeId} (h : w.heap[g]? = some (.cells #[a, b, c, d] T (0, 0))) : w.cell? ⟨g, 0, none⟩ = some a ∧ w.cell? ⟨g, 1, none⟩ = some b ∧ w.cell? ⟨g, 2, none⟩ = some c ∧ w.cell? ⟨g, 3, none⟩ = some d :=
  ⟨(blk_cell h 0).trans rfl, (blk_cell h 1).trans rfl, (blk_cell h 2).trans rfl, (blk_cell h 3).trans rfl⟩
set_option maxHeartbeats 6400000 in
set_option maxRecDepth 100000 in
theorem impl_BestRatio.yes (gn gd m : Int) (w : World) (c1 : goalB gn gd = true) (c2 : 1 ≤ m ∧ m ≤ 10000) :
    Calls Try.prog 8 #[.agg #[.int .i64 gn, .int .i64 gd], .int .i64 m] w fun e w' => e = .returned (.tuple #[.agg #[.int .i64 (mkF (brTo gn gd m.toNat).1 (brTo gn gd m.toNat).2).1, .int .i64 (mkF (brTo gn gd m.toNat).1 (brTo gn gd m.toNat).2).2.1], .bool (mkF (brTo gn gd m.toNat).1 (brTo gn gd m.toNat).2).2.2]) ∧ Below w.heap.size w w' := by
  have hu23 := Try.underlying26
  obtain ⟨N, rfl⟩ := Int.eq_ofNat_of_zero_le (show 0 ≤ m by omega)
  rw [Int.toNat_natCast]
  have hN1 : 1 ≤ N := by omega
  have hN2 : N ≤ 10000 := by omega
  have CA := Aside0.mk (below_alloc (below_alloc (Below.refl w.heap.size w) (boxF gn gd)) zeroF)
  have BX := Aside0.mk (blk_alloc (blk_new w (boxF gn gd)) zeroF)
  have BK := Aside0.mk (blk_new (w.alloc (boxF gn gd)) zeroF)
  rw [size_alloc'] at BK
  obtain ⟨kg, hkg⟩ := isGoal_is gn gd
  rw [c1] at hkg
  have HG := Aside0.mk hkg
  have HW := Aside0.mk ((within_is (N : Int) 1 10000).trans (by rw [decide_eq_true (by omega)] : _ = some true))
  have C1G := Aside0.mk c1
  have HGP := Aside0.mk (goalB_parts c1)
  have HBT := Aside0.mk (fun k hk => brTo_ok c1 k hk)
  have hMK := brMake c1 N hN1 hN2
  obtain ⟨R, hR⟩ : ∃ R, mkF (brTo gn gd N).1 (brTo gn gd N).2 = R := ⟨_, rfl⟩
  rw [hR] at hMK ⊢
  have HMK := Aside0.mk hMK
  clear hR hMK
  obtain ⟨x0, x1, -, -⟩ := two_cells BX.out
  clear hkg c2 c1
  go_enter Try.func8, Try.ntmps8
  go_wp2_with (first
    | (go_at_call 20; refine (impl_isGoal.calls kg gn gd true _ HG.out).mono ?_; rintro e w1 ⟨rfl, hB⟩; have C1 := Aside0.mk (below_step CA.out hB); have BK1 := Aside0.mk (blk_below BK.out hB); have BX1 := Aside0.mk (blk_below BX.out hB); clear hB)
    | (go_at_call 17; refine (impl_within.calls (N : Int) 1 10000 true _ HW.out).mono ?_; rintro e w2 ⟨rfl, n2, h2⟩; have C2 := Aside0.mk (show Below w.heap.size w w2 by rw [h2]; exact pw_below_drewN C1.out n2); have BK2 := Aside0.mk (show w2.heap[w.heap.size + 1]? = some zeroF by rw [h2]; exact BK1.out); have BX2 := Aside0.mk (show w2.heap[w.heap.size]? = some (boxF gn gd) by rw [h2]; exact BX1.out); clear h2))
  go_loopw [8] (fun v8 wr => ∃ k : Nat, k ≤ N ∧ v8 = .int .i64 ((k : Int) + 1) ∧ Aside0 (Below w.heap.size w wr) ∧ Aside0 (wr.heap[w.heap.size]? = some (boxF gn gd)) ∧ Aside0 (wr.heap[w.heap.size + 1]? = some zeroF) ∧ Aside0 (wr.heap[w2.heap.size]? = some (boxF (brTo gn gd k).1 (brTo gn gd k).2))) (fun v8 _ => N + 1 - (intOf v8).toNat)
  case atStart => exact ⟨0, Nat.zero_le _, rfl, ⟨below_alloc C2.out _⟩, ⟨blk_alloc BX2.out _⟩, ⟨blk_alloc BK2.out _⟩, ⟨blk_new w2 _⟩⟩
  case round =>
    obtain ⟨k, hk, rfl, HB, HX, HK, HF⟩ := hrel
    obtain ⟨wo, rfl⟩ : ∃ wo : World, wo = wr := ⟨_, rfl⟩
    by_cases hlt : k < N
    · obtain ⟨x0, x1, -, -⟩ := two_cells HX.out
      obtain ⟨D, hD⟩ : ∃ D : Int, (k : Int) + 1 = D := ⟨_, rfl⟩
      have hD1 : 1 ≤ D := by omega
      have hD2 : D ≤ 10000 := by omega
      have hle : decide (D ≤ (N : Int)) = true := decide_eq_true (by omega)
      have hHD := Aside0.mk hD
      rw [hD]
      clear hD
      have hmul := br_mul HGP.out.2.2.1 (show gn ≤ 1000000000 by have := HGP.out; omega) (show 0 ≤ D by omega) hD2
      have hm1 : 0 ≤ gn * D := hmul.1
      have hm2 : gn * D ≤ 10000000000000 := by have h_ := hmul.2; have e_ : (1000000000 : Int) * 10000 = 10000000000000 := (by decide); rw [e_] at h_; exact h_
      have hcand := brCand_ok C1G.out (show 1 ≤ D ∧ D ≤ 10000 from ⟨hD1, hD2⟩) (show (0 : Int) ≤ 0 ∧ (0 : Int) ≤ 1 by decide)
      obtain ⟨Q, hQ⟩ : ∃ Q, gn * D / gd = Q := ⟨_, rfl⟩
      have hQ0 : 0 ≤ Q := by have h_ := hcand.1.1; dsimp only [brCand] at h_; rw [hQ] at h_; omega
      have hQ1 : Q ≤ 10000001 := by have h_ := hcand.1.2; dsimp only [brCand] at h_; rw [hQ] at h_; omega
      have hgd : ¬ gd = 0 := by have := HGP.out; omega
      have hgd' : (gd == 0) = false := beq_eq_false_iff_ne.2 hgd
      have ht : Int.tdiv (gn * D) gd = Q := by rw [← hQ]; exact Int.tdiv_eq_ediv_of_nonneg hm1
      have HQQ := Aside0.mk hQ
      clear hmul hcand hQ
      go_wp2
      go_loopw [44] (fun v44 wi => ∃ j : Nat, j ≤ 2 ∧ v44 = .int .i64 (j : Int) ∧ Aside0 (Below w.heap.size w wi) ∧ Aside0 (wi.heap[w.heap.size]? = some (boxF gn gd)) ∧ Aside0 (wi.heap[w.heap.size + 1]? = some zeroF) ∧ Aside0 (wi.heap[w2.heap.size]? = some (boxF (brIn gn gd D (brTo gn gd k) j).1 (brIn gn gd D (brTo gn gd k) j).2)) ∧ Aside0 (wi.heap[wo.heap.size]? = some (.cells #[.int .i64 Q, .int .i64 D, .int .i64 (Q + 1), .int .i64 D] 26 (0, 0)))) (fun v44 _ => 2 - (intOf v44).toNat)
      case atStart => exact ⟨0, Nat.zero_le _, rfl, ⟨below_alloc HB.out _⟩, ⟨blk_alloc HX.out _⟩, ⟨blk_alloc HK.out _⟩, ⟨blk_alloc HF.out _⟩, ⟨blk_new wo _⟩⟩
      case round =>
        obtain ⟨j, hj, rfl, HB, HX, HK, HF, HR⟩ := hrel
        by_cases hj2 : j < 2
        · have hrow := brRow HR.out
          obtain ⟨FN, hFN⟩ : ∃ FN : Int, Q + (j : Int) = FN := ⟨_, rfl⟩
          have r0 : wr.cell? ⟨wo.heap.size, j * 2, none⟩ = some (.int .i64 FN) := by
            subst hFN
            rcases (show j = 0 ∨ j = 1 by omega) with rfl | rfl
            · have h_ := hrow.1; simpa using h_
            · exact hrow.2.2.1
          have r1 : wr.cell? ⟨wo.heap.size, j * 2 + 1, none⟩ = some (.int .i64 D) := by
            rcases (show j = 0 ∨ j = 1 by omega) with rfl | rfl
            · exact hrow.2.1
            · exact hrow.2.2.2
          have hFN0 : 0 ≤ FN := by omega
          have hbest := brIn_ok C1G.out (show 1 ≤ D ∧ D ≤ 10000 from ⟨hD1, hD2⟩) (HBT.out k (by omega)) j (by omega)
          have hcand := brCand_ok C1G.out (show 1 ≤ D ∧ D ≤ 10000 from ⟨hD1, hD2⟩) (show (0 : Int) ≤ (j : Int) ∧ (j : Int) ≤ 1 by omega)
          have hstep : brIn gn gd D (brTo gn gd k) (j + 1) = brStep gn gd (brIn gn gd D (brTo gn gd k) j) (FN, D) := by
            show brStep gn gd _ (brCand gn gd D (j : Int)) = _
            unfold brCand; rw [HQQ.out, hFN]
          have hFN1 : FN ≤ 10000001 := by have h_ := hcand.1.2; dsimp only [brCand] at h_; rw [HQQ.out, hFN] at h_; exact h_
          obtain ⟨bb, hbb⟩ : ∃ bb, brIn gn gd D (brTo gn gd k) j = bb := ⟨_, rfl⟩
          rw [hbb] at hstep hbest HF
          obtain ⟨bn, bd⟩ := bb
          obtain ⟨⟨bn0, bn1⟩, ⟨bd0, bd1⟩⟩ := hbest
          dsimp only at bn0 bn1 bd0 bd1 HF
          have HST := Aside0.mk hstep
          have XA := Aside0.mk (blk_alloc HX.out (boxF FN D))
          have KA := Aside0.mk (blk_alloc HK.out (boxF FN D))
          have FA := Aside0.mk (blk_alloc HF.out (boxF FN D))
          have RA := Aside0.mk (blk_alloc HR.out (boxF FN D))
          have NA := Aside0.mk (blk_new wr (boxF FN D))
          have BA := Aside0.mk (below_alloc HB.out (boxF FN D))
          have hne1 := Aside0.mk (show w.heap.size < w2.heap.size from blk_lt BX2.out)
          have hne1' := Aside0.mk (show w.heap.size + 1 < w2.heap.size from blk_lt BK2.out)
          have hne2 := Aside0.mk (show w2.heap.size < wr.heap.size from blk_lt HF.out)
          have hne3 := Aside0.mk (show w2.heap.size ≠ wo.heap.size by intro h_; have h1_ := HF.out; have h2_ := HR.out; rw [h_, h2_] at h1_; simp at h1_)
          have p1 : 0 ≤ FN * gd := Int.mul_nonneg hFN0 (by have := HGP.out; omega)
          clear hcand hFN hrow hbb hstep
          by_cases hz : bd = 0
          · have hz' : (bd == 0) = true := beq_iff_eq.2 hz
            have HN := Aside0.mk (show brStep gn gd (bn, bd) (FN, D) = (FN, D) by unfold brStep; rw [if_pos (Or.inl hz)])
            obtain ⟨f0, f1, f2, f3⟩ := two_cells FA.out
            obtain ⟨y0, y1, y2, y3⟩ := two_cells NA.out
            clear hz
            go_wp2
            try go_quiet (fail)
            try go_wp2
            refine ⟨⟨j + 1, by omega, by go_num, ⟨below_set2 (pw_below_drewN BA.out _) (by have := hne1.out; omega) _ _⟩, ⟨blk_put_ne (blk_put_ne XA.out (by have := hne1.out; omega)) (by have := hne1.out; omega)⟩, ⟨blk_put_ne (blk_put_ne KA.out (by have := hne1'.out; omega)) (by have := hne1'.out; omega)⟩, ⟨by rw [HST.out, HN.out]; exact blk_put (cs := #[.int .i64 FN, .int .i64 bd]) (blk_put (cs := #[.int .i64 bn, .int .i64 bd]) FA.out 0 _ rfl) 1 _ rfl⟩, ⟨blk_put_ne (blk_put_ne RA.out (Ne.symm hne3.out)) (Ne.symm hne3.out)⟩⟩, by simp [intOf]; omega⟩
          · have hz' : (bd == 0) = false := beq_eq_false_iff_ne.2 hz
            obtain ⟨-, -, m0, m1⟩ := missI_le C1G.out (show 0 ≤ FN ∧ FN ≤ 10000001 from ⟨hFN0, hFN1⟩) (show 0 ≤ D ∧ D ≤ 10000 by omega)
            obtain ⟨-, -, m2, m3⟩ := missI_le C1G.out (show 0 ≤ bn ∧ bn ≤ 10000001 from ⟨bn0, bn1⟩) (show 0 ≤ bd ∧ bd ≤ 10000 from ⟨bd0, bd1⟩)
            have hc1 : ∀ W, W.heap[w.heap.size]? = some (boxF gn gd) → Calls Try.prog 21 #[.agg #[.int .i64 FN, .int .i64 D], .pointer (some ⟨w.heap.size, 0, none⟩)] W fun e w' => e = .returned (.int .i64 (missI gn gd FN D)) ∧ Below W.heap.size W w' := fun W hW => impl_BestRatio.miss w.heap.size gn gd FN D W hW C1G.out ⟨hFN0, hFN1⟩ ⟨by omega, hD2⟩
            have hc2 : ∀ W, W.heap[w.heap.size]? = some (boxF gn gd) → Calls Try.prog 21 #[.agg #[.int .i64 bn, .int .i64 bd], .pointer (some ⟨w.heap.size, 0, none⟩)] W fun e w' => e = .returned (.int .i64 (missI gn gd bn bd)) ∧ Below W.heap.size W w' := fun W hW => impl_BestRatio.miss w.heap.size gn gd bn bd W hW C1G.out ⟨bn0, bn1⟩ ⟨bd0, bd1⟩
            have hbr : brStep gn gd (bn, bd) (FN, D) = if missI gn gd FN D * bd < missI gn gd bn bd * D then (FN, D) else (bn, bd) := by
              unfold brStep; dsimp only
              by_cases c_ : missI gn gd FN D * bd < missI gn gd bn bd * D
              · rw [if_pos (Or.inr c_), if_pos c_]
              · rw [if_neg (fun h_ => h_.elim hz c_), if_neg c_]
            obtain ⟨M1, hM1⟩ : ∃ M, missI gn gd FN D = M := ⟨_, rfl⟩
            obtain ⟨M2, hM2⟩ : ∃ M, missI gn gd bn bd = M := ⟨_, rfl⟩
            rw [hM1] at m0 m1 hbr hc1
            rw [hM2] at m2 m3 hbr hc2
            have q1 := br_mul m0 m1 bd0 bd1
            have q2 := br_mul m2 m3 (show 0 ≤ D by omega) hD2
            have e_ : (10000001000000 : Int) * 10000 = 100000010000000000 := by decide
            rw [e_] at q1 q2
            obtain ⟨P1, hP1⟩ : ∃ P, M1 * bd = P := ⟨_, rfl⟩
            obtain ⟨P2, hP2⟩ : ∃ P, M2 * D = P := ⟨_, rfl⟩
            rw [hP1] at q1 hbr
            rw [hP2] at q2 hbr
            have hw1 : IntKind.i64.wrap (M1 * bd) = P1 := by rw [hP1]; simp only [IntKind.wrap_i64]; omega
            have hw2 : IntKind.i64.wrap (M2 * D) = P2 := by rw [hP2]; simp only [IntKind.wrap_i64]; omega
            have HC1 := Aside0.mk hc1
            have HC2 := Aside0.mk hc2
            have HBR := Aside0.mk hbr
            clear hM1 hM2 hP1 hP2 e_ q1 q2 m0 m1 m2 m3 hc1 hc2 hbr hz p1
            by_cases hc : P1 < P2
            · have hcb : decide (P1 < P2) = true := decide_eq_true hc
              have HN := Aside0.mk (HBR.out.trans (if_pos hc))
              clear HBR hc
              go_wp2
              go_region_held3 (fun w' => w'.cell? ⟨w2.heap.size, 0, none⟩ = some (.int .i64 bn) ∧ w'.cell? ⟨w2.heap.size, 1, none⟩ = some (.int .i64 bd) ∧ w'.cell? ⟨wr.heap.size, 0, none⟩ = some (.int .i64 FN) ∧ w'.cell? ⟨wr.heap.size, 1, none⟩ = some (.int .i64 D))
                (first
                  | exact four_cells F2.out N2.out
                  | exact four_cells F1.out N1.out
                  | exact four_cells FA.out NA.out
                  | go_keep)
                (first
                  | (go_at_call 21; (with_reducible refine (HC1.out _ ?_).mono ?_); (exact XA.out); rintro e v1 ⟨rfl, hB⟩; have B1 := Aside0.mk (below_step (below_drew BA.out) hB); have X1 := Aside0.mk (blk_below (w := (wr.alloc (boxF FN D)).drew) XA.out hB); have K1 := Aside0.mk (blk_below (w := (wr.alloc (boxF FN D)).drew) KA.out hB); have F1 := Aside0.mk (blk_below (w := (wr.alloc (boxF FN D)).drew) FA.out hB); have R1 := Aside0.mk (blk_below (w := (wr.alloc (boxF FN D)).drew) RA.out hB); have N1 := Aside0.mk (blk_below (w := (wr.alloc (boxF FN D)).drew) NA.out hB); clear hB)
                  | (go_at_call 21; (with_reducible refine (HC2.out _ ?_).mono ?_); (exact X1.out); rintro e v2 ⟨rfl, hB⟩; have B2 := Aside0.mk (below_step B1.out hB); have X2 := Aside0.mk (blk_below X1.out hB); have K2 := Aside0.mk (blk_below K1.out hB); have F2 := Aside0.mk (blk_below F1.out hB); have R2 := Aside0.mk (blk_below R1.out hB); have N2 := Aside0.mk (blk_below N1.out hB); clear hB))
              obtain ⟨f0, f1, f2, f3⟩ := two_cells F2.out
              obtain ⟨y0, y1, y2, y3⟩ := two_cells N2.out
              go_wp2
              refine ⟨⟨j + 1, by omega, by go_num, ⟨below_set2 B2.out (by have := hne1.out; omega) _ _⟩, ⟨blk_put_ne (blk_put_ne X2.out (by have := hne1.out; omega)) (by have := hne1.out; omega)⟩, ⟨blk_put_ne (blk_put_ne K2.out (by have := hne1'.out; omega)) (by have := hne1'.out; omega)⟩, ⟨by rw [HST.out, HN.out]; exact blk_put (cs := #[.int .i64 FN, .int .i64 bd]) (blk_put (cs := #[.int .i64 bn, .int .i64 bd]) F2.out 0 _ rfl) 1 _ rfl⟩, ⟨blk_put_ne (blk_put_ne R2.out (Ne.symm hne3.out)) (Ne.symm hne3.out)⟩⟩, by simp [intOf]; omega⟩
            · have hcb : decide (P1 < P2) = false := decide_eq_false hc
              have HN := Aside0.mk (HBR.out.trans (if_neg hc))
              clear HBR hc
              go_wp2
              go_region_held3 (fun w' => w'.cell? ⟨w2.heap.size, 0, none⟩ = some (.int .i64 bn) ∧ w'.cell? ⟨w2.heap.size, 1, none⟩ = some (.int .i64 bd) ∧ w'.cell? ⟨wr.heap.size, 0, none⟩ = some (.int .i64 FN) ∧ w'.cell? ⟨wr.heap.size, 1, none⟩ = some (.int .i64 D))
                (first
                  | exact four_cells F2.out N2.out
                  | exact four_cells F1.out N1.out
                  | exact four_cells FA.out NA.out
                  | go_keep)
                (first
                  | (go_at_call 21; (with_reducible refine (HC1.out _ ?_).mono ?_); (exact XA.out); rintro e v1 ⟨rfl, hB⟩; have B1 := Aside0.mk (below_step (below_drew BA.out) hB); have X1 := Aside0.mk (blk_below (w := (wr.alloc (boxF FN D)).drew) XA.out hB); have K1 := Aside0.mk (blk_below (w := (wr.alloc (boxF FN D)).drew) KA.out hB); have F1 := Aside0.mk (blk_below (w := (wr.alloc (boxF FN D)).drew) FA.out hB); have R1 := Aside0.mk (blk_below (w := (wr.alloc (boxF FN D)).drew) RA.out hB); have N1 := Aside0.mk (blk_below (w := (wr.alloc (boxF FN D)).drew) NA.out hB); clear hB)
                  | (go_at_call 21; (with_reducible refine (HC2.out _ ?_).mono ?_); (exact X1.out); rintro e v2 ⟨rfl, hB⟩; have B2 := Aside0.mk (below_step B1.out hB); have X2 := Aside0.mk (blk_below X1.out hB); have K2 := Aside0.mk (blk_below K1.out hB); have F2 := Aside0.mk (blk_below F1.out hB); have R2 := Aside0.mk (blk_below R1.out hB); have N2 := Aside0.mk (blk_below N1.out hB); clear hB))
              go_wp2
              refine ⟨⟨j + 1, by omega, by go_num, ⟨by first | exact B2.out | exact below_drew B2.out⟩, ⟨X2.out⟩, ⟨K2.out⟩, ⟨by rw [HST.out, HN.out]; exact F2.out⟩, ⟨R2.out⟩⟩, by simp [intOf]; omega⟩
        · have : j = 2 := by omega
          subst this
          go_wp2
          refine ⟨⟨k + 1, by omega, congrArg (Value.int .i64) (by have := hHD.out; omega), ⟨HB.out⟩, ⟨HX.out⟩, ⟨HK.out⟩, ⟨by have h_ := HF.out; rw [← hHD.out] at h_; exact h_⟩⟩, by simp [intOf]; have := hHD.out; omega⟩
    · obtain rfl : k = N := by omega
      have hle : decide ((k : Int) + 1 ≤ (k : Int)) = false := decide_eq_false (by omega)
      obtain ⟨F, hF⟩ : ∃ F, brTo gn gd k = F := ⟨_, rfl⟩
      rw [hF] at HMK HF
      obtain ⟨bn, bd⟩ := F
      dsimp only at HMK HF
      obtain ⟨f0, f1, f2, f3⟩ := two_cells HF.out
      clear hF
      go_wp2_with (first
        | (go_at_call 7; refine (impl_MakeFraction.calls bn bd R.1 R.2.1 R.2.2 _ HMK.out).mono ?_; rintro e w3 ⟨rfl, hB⟩; have B3 := Aside0.mk (below_step HB.out hB); have K3 := Aside0.mk (blk_below HK.out hB); obtain ⟨z0, z1, z2, z3⟩ := two_cells K3.out; clear hB))
      refine bodyPost_ret (results_ct rfl _ _ (w.heap.size + 1) 26 #[.int .i64 R.1, .int .i64 R.2.1] (0, 0) _ rfl (by (repeat (first | refine blk_drewN ?_ _ | refine blk_drew ?_)); refine blk_put (cs := #[.int .i64 R.1, .int .i64 0]) ?_ 1 _ rfl; refine blk_put (cs := #[.int .i64 0, .int .i64 0]) ?_ 0 _ rfl; exact K3.out) Try.underlying26 rfl (by kernel_rfl)) rfl ?_
      exact ⟨rfl, by first | exact below_set2 B3.out (by omega) _ _ | exact below_drew (below_set2 B3.out (by omega) _ _)⟩
theorem impl_BestRatio.calls (n : Int) (d : Int) (m : Int) (r1 : Int) (r2 : Int) (r3 : Bool) (w : World) (h : impl_BestRatio.f n d m = some (r1, r2, r3)) :
    Calls Try.prog 8 #[.agg #[.int .i64 n, .int .i64 d], .int .i64 m] w fun e w' => e = .returned (.tuple #[.agg #[.int .i64 r1, .int .i64 r2], .bool r3]) ∧ Below w.heap.size w w' := by
  have h := Option.some.inj h
  by_cases c1 : goalB n d = true
  · by_cases c2 : 1 ≤ m ∧ m ≤ 10000
    · rw [if_pos ⟨c1, c2⟩] at h
      have := impl_BestRatio.yes n d m w c1 c2
      rw [h] at this
      exact this
    · rw [if_neg (fun z => c2 z.2)] at h
      have := impl_BestRatio.no2 n d m w c1 c2
      injection h with h1 h2
      injection h2 with h2 h3
      subst h1; subst h2; subst h3
      exact this
  · rw [if_neg (fun z => c1 z.1)] at h
    have := impl_BestRatio.no1 n d m w (by simpa using c1)
    injection h with h1 h2
    injection h2 with h2 h3
    subst h1; subst h2; subst h3
    exact this

end Go.Proofs.Ytmadpelampanfaa.A
