/- Texts of this claim, put together by this session's pack2.py: each part is introduced by its own comment. No conditions. -/
import Derived.Test.YtjpjlobpglmoiaaDoorQ23
import Derived.Test.YtjpjlobpglmoiaaDoorOpen
-- Printed by this session's oprint.py through the kit's printer.
namespace Go.Proofs.YtjpjlobpglmoiaaDoor.A
open Go.RowKit Go.Proofs.YtjpjlobpglmoiaaDoorW.PrintWords Go.Proofs.YtjpjlobpglmoiaaDoorW.PrintLast Go.Proofs.YtjpjlobpglmoiaaDoorW.PrintMore
attribute [local go_sem] max2_int min2_int max_two min_two max_three min_three max_four min_four   -- for this text's walks alone
set_option linter.unusedVariables false
set_option linter.unusedSimpArgs false

/-! ### spec_l01DrawGood: function 60 -/
def spec_l01DrawGood.l0 : Nat → List Int → Int → Int → Int → List Int → Int → Int → Option (ByteArray × Int × Int)
  | 0, _, _, _, _, _, _, _ => none
  | k + 1, x5, x6, x7, x8, x1000, x1001, x1002 => if x8 > 0 then ((spec_l00Src_one.f x1000 x1001 x1002 x7).bind fun bt299 => (if bt299.1 = true then ((spec_l00Src_pick.f x1000 bt299.2.1 bt299.2.2 2).bind fun bt302 => (if x5.length < 140737488355328 then (spec_l01DrawGood.l0 k (x5 ++ [(wrap64 (48 + bt302.1)) % 256]) ((wrap64 (48 + bt302.1)) % 256) x7 (wrap64 (x8 - 1)) x1000 bt302.2.1 bt302.2.2) else (none))) else (if x5.length < 140737488355328 then (spec_l01DrawGood.l0 k (x5 ++ [x6]) x6 x7 (wrap64 (x8 - 1)) x1000 bt299.2.1 bt299.2.2) else (none)))) else (some (strOfNums x5, x1001, x1002))
def spec_l01DrawGood.f (k : Nat) (s0_0 : List Int) (s0_1 : Int) (s0_2 : Int) (a1 : Int) : Option (ByteArray × Int × Int) := (spec_l00Src_pick.f s0_0 s0_1 s0_2 2).bind fun bt290 => ((spec_l00Src_pick.f s0_0 bt290.2.1 bt290.2.2 5).bind fun bt293 => ((spec_l00Src_pick.f s0_0 bt293.2.1 bt293.2.2 (wrap64 (a1 + 1))).bind fun bt296 => (spec_l01DrawGood.l0 k (([] : List Int)) ((wrap64 (48 + bt290.1)) % 256) (wrap64 (1 + bt293.1)) bt296.1 s0_0 bt296.2.1 bt296.2.2)))
theorem spec_l01DrawGood.mono_l : ∀ k, (∀ y0 y1 y2 y3 y4 y5 y6, LeO (spec_l01DrawGood.l0 k y0 y1 y2 y3 y4 y5 y6) (spec_l01DrawGood.l0 (k + 1) y0 y1 y2 y3 y4 y5 y6))
  | 0 => fun _ _ _ _ _ _ _ r h => by simp [spec_l01DrawGood.l0] at h
  | k + 1 => by
    have ih0 := spec_l01DrawGood.mono_l k
    · intro y0 y1 y2 y3 y4 y5 y6
      unfold spec_l01DrawGood.l0
      repeat' first
      | (with_reducible exact ih0 _ _ _ _ _ _ _)
      | (with_reducible exact LeO.refl _)
      | (with_reducible exact LeO.none _)
      | (with_reducible refine LeO.ite ?_ ?_)
      | (with_reducible refine LeO.bind ?_ (fun _ => ?_))
      | exact ih0 _ _ _ _ _ _ _
      | exact LeO.none _
      | refine LeO.ite ?_ ?_
      | refine LeO.bind ?_ (fun _ => ?_)
theorem spec_l01DrawGood.mono : ∀ a0 a1 a2 a3 k, LeO (spec_l01DrawGood.f k a0 a1 a2 a3) (spec_l01DrawGood.f (k + 1) a0 a1 a2 a3) := by
  intro a0 a1 a2 a3 k
  have ih0 := spec_l01DrawGood.mono_l k
  unfold spec_l01DrawGood.f
  repeat' first
      | (with_reducible exact ih0 _ _ _ _ _ _ _)
      | (with_reducible exact LeO.refl _)
      | (with_reducible exact LeO.none _)
      | (with_reducible refine LeO.ite ?_ ?_)
      | (with_reducible refine LeO.bind ?_ (fun _ => ?_))
      | exact ih0 _ _ _ _ _ _ _
      | exact LeO.none _
      | refine LeO.ite ?_ ?_
      | refine LeO.bind ?_ (fun _ => ?_)
set_option maxHeartbeats 8000000 in
set_option maxRecDepth 100000 in
theorem spec_l01DrawGood.calls (k : Nat) (g : Nat) (s0_0 : List Int) (s0_1 : Int) (s0_2 : Int) (a1 : Int) (r1 : ByteArray) (r2 : Int) (r3 : Int) (w0 w : World) (hI : IsS75 w0 w g s0_0 s0_1 s0_2) (hB : Below w0.heap.size w0 w) (h : spec_l01DrawGood.f k s0_0 s0_1 s0_2 a1 = some (r1, r2, r3)) :
    Calls Tryd.prog 60 #[.pointer (some ⟨g, 0, none⟩), .int .i64 a1] w fun e w' => e = .returned (.string r1) ∧ IsS75 w0 w' g s0_0 r2 r3 ∧ Below w0.heap.size w0 w' ∧ KeepBut w w' g none := by
  have HI0 := Aside0.mk hI
  have HK := Aside0.mk (KeepBut.refl w g none)
  have HL := Aside0.mk hB.size
  clear hI
  have HW0 := Aside0.mk hB.size
  have HB := Aside0.mk hB
  clear hB
  have H : ((spec_l00Src_pick.f s0_0 s0_1 s0_2 2).bind fun bt290 => ((spec_l00Src_pick.f s0_0 bt290.2.1 bt290.2.2 5).bind fun bt293 => ((spec_l00Src_pick.f s0_0 bt293.2.1 bt293.2.2 (wrap64 (a1 + 1))).bind fun bt296 => (spec_l01DrawGood.l0 k (([] : List Int)) ((wrap64 (48 + bt290.1)) % 256) (wrap64 (1 + bt293.1)) bt296.1 s0_0 bt296.2.1 bt296.2.2)))) = some (r1, r2, r3) := h
  clear h
  obtain ⟨y287, hy287⟩ : ∃ y_ : List Int, y_ = (([] : List Int)) := ⟨_, rfl⟩
  replace H : ((spec_l00Src_pick.f s0_0 s0_1 s0_2 2).bind fun bt290 => ((spec_l00Src_pick.f s0_0 bt290.2.1 bt290.2.2 5).bind fun bt293 => ((spec_l00Src_pick.f s0_0 bt293.2.1 bt293.2.2 (wrap64 (a1 + 1))).bind fun bt296 => (spec_l01DrawGood.l0 k y287 ((wrap64 (48 + bt290.1)) % 256) (wrap64 (1 + bt293.1)) bt296.1 s0_0 bt296.2.1 bt296.2.2)))) = some (r1, r2, r3) := by first | (rw [hy287]; with_reducible exact H) | (have H2_ := (Option.bind_some _ _).symm.trans H; rw [hy287]; with_reducible exact H2_) | (have H2_ := (Option.bind_some _ _).symm.trans H; with_reducible exact H2_) | with_reducible exact H | (rw [hy287]; exact H) | exact H
  have Ny287 := Aside0.mk hy287
  clear hy287
  replace H := Option.bind_eq_some_iff.mp H
  obtain ⟨⟨t290, t291, t292⟩, A30, H⟩ := H
  replace H : ((spec_l00Src_pick.f s0_0 t291 t292 5).bind fun bt293 => ((spec_l00Src_pick.f s0_0 bt293.2.1 bt293.2.2 (wrap64 (a1 + 1))).bind fun bt296 => (spec_l01DrawGood.l0 k y287 ((wrap64 (48 + t290)) % 256) (wrap64 (1 + bt293.1)) bt296.1 s0_0 bt296.2.1 bt296.2.2))) = some (r1, r2, r3) := H
  have A3 := Aside0.mk A30
  clear A30
  replace H := Option.bind_eq_some_iff.mp H
  obtain ⟨⟨t293, t294, t295⟩, A40, H⟩ := H
  replace H : ((spec_l00Src_pick.f s0_0 t294 t295 (wrap64 (a1 + 1))).bind fun bt296 => (spec_l01DrawGood.l0 k y287 ((wrap64 (48 + t290)) % 256) (wrap64 (1 + t293)) bt296.1 s0_0 bt296.2.1 bt296.2.2)) = some (r1, r2, r3) := H
  have A4 := Aside0.mk A40
  clear A40
  replace H := Option.bind_eq_some_iff.mp H
  obtain ⟨⟨t296, t297, t298⟩, A50, H⟩ := H
  replace H : (spec_l01DrawGood.l0 k y287 ((wrap64 (48 + t290)) % 256) (wrap64 (1 + t293)) t296 s0_0 t297 t298) = some (r1, r2, r3) := H
  have A5 := Aside0.mk A50
  clear A50
  have H' := Aside0.mk H
  clear H
  go_enter Tryd.func60, Tryd.ntmps60
  go_wp2_with (first | ((with_reducible refine gate_dst (N := 9) rfl ?_); refine Kd.R_lit (Kd.int .u8) _ 5 ?hg (N := 9) ?hd (xs := ([] : List Int)) (inner := []) (ok := fun _ => True) (okp := fun _ => True) ?hr ?hp (fun _ hk => hk) trivial (Below.refl _ _) (Nat.le_refl _) (by simp) ?_; (case hd => rfl); (case hg => rfl); (case hr => first | (go_simp; done) | (go_simp; rfl)); (case hp => exact (Reps.none _ _)); intro v288 w6 ho7 hb hg_ hnew_; clear hg_ hnew_; (first | rw [← Ny287.out] at ho7 | (simp only [Int.reduceToNat] at ho7; rw [← Ny287.out] at ho7)); have n0_ := Aside0.mk (Kd.R_lower ho7 (keep_size (w := w) (g := g) (row := none) (by repeat (first | (with_reducible first | exact HK.out | apply KeepBut.set_ | apply keep_drewN | apply keep_drew | apply keep_alloc) | exact HK.out)))); have n1_ := Aside0.mk (IsS75.below (by repeat (first | (with_reducible first | exact HI0.out | apply IsS75.alloc | apply IsS75.drewN | apply IsS75.drew | apply IsS75.set_1 | apply IsS75.set_2) | exact HI0.out)) hb); have n2_ := Aside0.mk (KeepBut.trans (by repeat (first | (with_reducible first | exact HK.out | apply KeepBut.set_ | apply keep_drewN | apply keep_drew | apply keep_alloc) | exact HK.out)) (KeepBut.of_below hb g none) (.inl rfl)); have n3_ := Aside0.mk (below_step (by repeat (first | (with_reducible first | exact HB.out | apply below_alloc | apply pw_below_drewN | apply below_drew1 | refine below_set ?_ (IsS75.ge HI0.out)) | exact HB.out)) hb); clear HI0; clear HK; clear HB; have HO289 := n0_; have HI0 := n1_; have HK := n2_; have HB := n3_; clear n0_ n1_ n2_ n3_; clear hb ho7) | ((with_reducible refine gate_callee (f := 41) rfl ?_); refine goesL_ (some 11) rfl rfl Tryd.func41 (by kernel_rfl) rfl #[.pointer (some ⟨g, 0, none⟩), .int .i64 2] rfl (by (try simp only [List.map_toArray, List.map_cons, List.map_nil]); first | done | rfl | (simp only [List.length_drop, List.length_take]; rfl)) ?_; (with_reducible refine (spec_l00Src_pick.calls g s0_0 s0_1 s0_2 2 t290 t291 t292 w0 _ ?side1 ?side2 A3.out).mono ?_); (case side1 => repeat (first | (with_reducible first | exact HI0.out | apply IsS75.alloc | apply IsS75.drewN | apply IsS75.drew | apply IsS75.set_1 | apply IsS75.set_2) | exact HI0.out)); (case side2 => repeat (first | (with_reducible first | exact HB.out | apply below_alloc | apply pw_below_drewN | apply below_drew1 | refine below_set ?_ (IsS75.ge HI0.out)) | exact HB.out)); rintro e w8 ⟨rfl, hi, hb, hk⟩; refine ⟨_, rfl, ?_⟩; have n0_ := Aside0.mk (Kd.R_mono (Kd.R_keep (IsS75.apart (show IsS75 w0 _ g s0_0 s0_1 s0_2 from by repeat (first | (with_reducible first | exact HI0.out | apply IsS75.alloc | apply IsS75.drewN | apply IsS75.drew | apply IsS75.set_1 | apply IsS75.set_2) | exact HI0.out)) (by (with_reducible repeat (first | apply Kd.R_alloc | apply Kd.R_drewN | apply Kd.R_drew)); exact HO289.out) (by decide)) hk (fun _ h => h.2)) (fun _ h => h.1)); have n1_ := Aside0.mk (KeepBut.trans (by repeat (first | (with_reducible first | exact HK.out | apply KeepBut.set_ | apply keep_drewN | apply keep_drew | apply keep_alloc) | exact HK.out)) hk (.inl rfl)); have n2_ := Aside0.mk (hb); have n3_ := Aside0.mk (hi); clear HO289; clear HK; clear HB; clear HI0; have HO289 := n0_; have HK := n1_; have HB := n2_; have HI0 := n3_; clear n0_ n1_ n2_ n3_; (try clear hb); (try clear hb2); (try clear hk); (try clear hi)) | ((with_reducible refine gate_callee (f := 41) rfl ?_); refine goesL_ (some 15) rfl rfl Tryd.func41 (by kernel_rfl) rfl #[.pointer (some ⟨g, 0, none⟩), .int .i64 5] rfl (by (try simp only [List.map_toArray, List.map_cons, List.map_nil]); first | done | rfl | (simp only [List.length_drop, List.length_take]; rfl)) ?_; (with_reducible refine (spec_l00Src_pick.calls g s0_0 t291 t292 5 t293 t294 t295 w0 _ ?side1 ?side2 A4.out).mono ?_); (case side1 => repeat (first | (with_reducible first | exact HI0.out | apply IsS75.alloc | apply IsS75.drewN | apply IsS75.drew | apply IsS75.set_1 | apply IsS75.set_2) | exact HI0.out)); (case side2 => repeat (first | (with_reducible first | exact HB.out | apply below_alloc | apply pw_below_drewN | apply below_drew1 | refine below_set ?_ (IsS75.ge HI0.out)) | exact HB.out)); rintro e w9 ⟨rfl, hi, hb, hk⟩; refine ⟨_, rfl, ?_⟩; have n0_ := Aside0.mk (Kd.R_mono (Kd.R_keep (IsS75.apart (show IsS75 w0 _ g s0_0 t291 t292 from by repeat (first | (with_reducible first | exact HI0.out | apply IsS75.alloc | apply IsS75.drewN | apply IsS75.drew | apply IsS75.set_1 | apply IsS75.set_2) | exact HI0.out)) (by (with_reducible repeat (first | apply Kd.R_alloc | apply Kd.R_drewN | apply Kd.R_drew)); exact HO289.out) (by decide)) hk (fun _ h => h.2)) (fun _ h => h.1)); have n1_ := Aside0.mk (KeepBut.trans (by repeat (first | (with_reducible first | exact HK.out | apply KeepBut.set_ | apply keep_drewN | apply keep_drew | apply keep_alloc) | exact HK.out)) hk (.inl rfl)); have n2_ := Aside0.mk (hb); have n3_ := Aside0.mk (hi); clear HO289; clear HK; clear HB; clear HI0; have HO289 := n0_; have HK := n1_; have HB := n2_; have HI0 := n3_; clear n0_ n1_ n2_ n3_; (try clear hb); (try clear hb2); (try clear hk); (try clear hi)) | ((with_reducible refine gate_callee (f := 41) rfl ?_); refine goesL_ (some 20) rfl rfl Tryd.func41 (by kernel_rfl) rfl #[.pointer (some ⟨g, 0, none⟩), .int .i64 (wrap64 (a1 + 1))] rfl (by (try simp only [List.map_toArray, List.map_cons, List.map_nil]); first | done | rfl | (simp only [List.length_drop, List.length_take]; rfl)) ?_; (with_reducible refine (spec_l00Src_pick.calls g s0_0 t294 t295 (wrap64 (a1 + 1)) t296 t297 t298 w0 _ ?side1 ?side2 A5.out).mono ?_); (case side1 => repeat (first | (with_reducible first | exact HI0.out | apply IsS75.alloc | apply IsS75.drewN | apply IsS75.drew | apply IsS75.set_1 | apply IsS75.set_2) | exact HI0.out)); (case side2 => repeat (first | (with_reducible first | exact HB.out | apply below_alloc | apply pw_below_drewN | apply below_drew1 | refine below_set ?_ (IsS75.ge HI0.out)) | exact HB.out)); rintro e w10 ⟨rfl, hi, hb, hk⟩; refine ⟨_, rfl, ?_⟩; have n0_ := Aside0.mk (Kd.R_mono (Kd.R_keep (IsS75.apart (show IsS75 w0 _ g s0_0 t294 t295 from by repeat (first | (with_reducible first | exact HI0.out | apply IsS75.alloc | apply IsS75.drewN | apply IsS75.drew | apply IsS75.set_1 | apply IsS75.set_2) | exact HI0.out)) (by (with_reducible repeat (first | apply Kd.R_alloc | apply Kd.R_drewN | apply Kd.R_drew)); exact HO289.out) (by decide)) hk (fun _ h => h.2)) (fun _ h => h.1)); have n1_ := Aside0.mk (KeepBut.trans (by repeat (first | (with_reducible first | exact HK.out | apply KeepBut.set_ | apply keep_drewN | apply keep_drew | apply keep_alloc) | exact HK.out)) hk (.inl rfl)); have n2_ := Aside0.mk (hb); have n3_ := Aside0.mk (hi); clear HO289; clear HK; clear HB; clear HI0; have HO289 := n0_; have HK := n1_; have HB := n2_; have HI0 := n3_; clear n0_ n1_ n2_ n3_; (try clear hb); (try clear hb2); (try clear hk); (try clear hi)))
  go_loopg [5, 6, 8] k (fun kq v5 v6 v8 w' => ∃ (x5_1 : List Int) (x6_1 : Int) (x8_1 : Int) (x1001_1 : Int) (x1002_1 : Int), v6 = .int .u8 x6_1 ∧ v8 = .int .i64 x8_1 ∧ Aside0 (spec_l01DrawGood.l0 kq x5_1 x6_1 (wrap64 (1 + t293)) x8_1 s0_0 x1001_1 x1002_1 = some (r1, r2, r3)) ∧ Aside0 (kq ≤ k) ∧ Aside0 (Kd.R (Kd.int .u8) 5 w' w.heap.size (fun _ => True) v5 x5_1) ∧ Aside0 (IsS75 w0 w' g s0_0 x1001_1 x1002_1) ∧ Aside0 (KeepBut w w' g none) ∧ Aside0 (Below w0.heap.size w0 w'))
  case atStart => exact ⟨(y287), ((wrap64 (48 + t290)) % 256), (t296), (t297), (t298), (by first | rfl | (simp; done) | (simp [*]; done)), (by first | rfl | (simp; done) | (simp [*]; done)), H', ⟨Nat.le_refl _⟩, ⟨by (with_reducible repeat (first | apply Kd.R_alloc | apply Kd.R_drewN | apply Kd.R_drew)); exact HO289.out⟩, ⟨by repeat (first | (with_reducible first | exact HI0.out | apply IsS75.alloc | apply IsS75.drewN | apply IsS75.drew | apply IsS75.set_1 | apply IsS75.set_2) | exact HI0.out)⟩, ⟨by repeat (first | (with_reducible first | exact HK.out | apply KeepBut.set_ | apply keep_drewN | apply keep_drew | apply keep_alloc) | exact HK.out)⟩, ⟨by repeat (first | (with_reducible first | exact HB.out | apply below_alloc | apply pw_below_drewN | apply below_drew1 | refine below_set ?_ (IsS75.ge HI0.out)) | exact HB.out)⟩⟩
  case round =>
    clear H'
    try clear p2
    try clear c4
    try clear c6
    try clear p6
    obtain ⟨x5_1, x6_1, x8_1, x1001_1, x1002_1, rfl, rfl, HA, HK1, HO_5, HI0, HK, HB⟩ := hrel
    cases gk with
    | zero => exact absurd HA.out (by simp [spec_l01DrawGood.l0])
    | succ k1 =>
      have H := HA.out
      clear HA
      simp only [spec_l01DrawGood.l0] at H
      by_cases c11 : x8_1 > 0
      · rw [if_pos c11] at H
        have c11b0 : decide (0 < x8_1) = true := decide_eq_true c11
        clear c11
        replace H := Option.bind_eq_some_iff.mp H
        obtain ⟨⟨t299, t300, t301⟩, A120, H⟩ := H
        replace H : (if t299 = true then ((spec_l00Src_pick.f s0_0 t300 t301 2).bind fun bt302 => (if x5_1.length < 140737488355328 then (spec_l01DrawGood.l0 k1 (x5_1 ++ [(wrap64 (48 + bt302.1)) % 256]) ((wrap64 (48 + bt302.1)) % 256) (wrap64 (1 + t293)) (wrap64 (x8_1 - 1)) s0_0 bt302.2.1 bt302.2.2) else (none))) else (if x5_1.length < 140737488355328 then (spec_l01DrawGood.l0 k1 (x5_1 ++ [x6_1]) x6_1 (wrap64 (1 + t293)) (wrap64 (x8_1 - 1)) s0_0 t300 t301) else (none))) = some (r1, r2, r3) := H
        have A12 := Aside0.mk A120
        clear A120
        by_cases c13 : t299 = true
        · subst c13
          have H1 : ((spec_l00Src_pick.f s0_0 t300 t301 2).bind fun bt302 => (if x5_1.length < 140737488355328 then (spec_l01DrawGood.l0 k1 (x5_1 ++ [(wrap64 (48 + bt302.1)) % 256]) ((wrap64 (48 + bt302.1)) % 256) (wrap64 (1 + t293)) (wrap64 (x8_1 - 1)) s0_0 bt302.2.1 bt302.2.2) else (none))) = some (r1, r2, r3) := by rw [if_pos rfl] at H; exact H
          clear H
          have H := H1
          clear H1
          replace H := Option.bind_eq_some_iff.mp H
          obtain ⟨⟨t302, t303, t304⟩, A140, H⟩ := H
          replace H : (if x5_1.length < 140737488355328 then (spec_l01DrawGood.l0 k1 (x5_1 ++ [(wrap64 (48 + t302)) % 256]) ((wrap64 (48 + t302)) % 256) (wrap64 (1 + t293)) (wrap64 (x8_1 - 1)) s0_0 t303 t304) else (none)) = some (r1, r2, r3) := H
          have A14 := Aside0.mk A140
          clear A140
          by_cases c15 : x5_1.length < 140737488355328
          · rw [if_pos c15] at H
            have LMc15 := Aside0.mk c15
            clear c15
            obtain ⟨y305, hy305⟩ : ∃ y_ : List Int, y_ = (x5_1 ++ [(wrap64 (48 + t302)) % 256]) := ⟨_, rfl⟩
            replace H : (spec_l01DrawGood.l0 k1 y305 ((wrap64 (48 + t302)) % 256) (wrap64 (1 + t293)) (wrap64 (x8_1 - 1)) s0_0 t303 t304) = some (r1, r2, r3) := by first | (rw [hy305]; with_reducible exact H) | (have H2_ := (Option.bind_some _ _).symm.trans H; rw [hy305]; with_reducible exact H2_) | (have H2_ := (Option.bind_some _ _).symm.trans H; with_reducible exact H2_) | with_reducible exact H | (rw [hy305]; exact H) | exact H
            have Ny305 := Aside0.mk hy305
            clear hy305
            have H' := Aside0.mk H
            clear H
            go_wp2_with (first | ((with_reducible refine gate_callee (f := 61) rfl ?_); refine goesL_ (some 27) rfl rfl Tryd.func61 (by kernel_rfl) rfl #[.pointer (some ⟨g, 0, none⟩), .int .i64 (wrap64 (1 + t293))] rfl (by (try simp only [List.map_toArray, List.map_cons, List.map_nil]); first | done | rfl | (simp only [List.length_drop, List.length_take]; rfl)) ?_; (with_reducible refine (spec_l00Src_one.calls g s0_0 x1001_1 x1002_1 (wrap64 (1 + t293)) true t300 t301 w0 _ ?side1 ?side2 A12.out).mono ?_); (case side1 => repeat (first | (with_reducible first | exact HI0.out | apply IsS75.alloc | apply IsS75.drewN | apply IsS75.drew | apply IsS75.set_1 | apply IsS75.set_2) | exact HI0.out)); (case side2 => repeat (first | (with_reducible first | exact HB.out | apply below_alloc | apply pw_below_drewN | apply below_drew1 | refine below_set ?_ (IsS75.ge HI0.out)) | exact HB.out)); rintro e w16 ⟨rfl, hi, hb, hk⟩; refine ⟨_, rfl, ?_⟩; have n0_ := Aside0.mk (Kd.R_mono (Kd.R_keep (IsS75.apart (show IsS75 w0 _ g s0_0 x1001_1 x1002_1 from by repeat (first | (with_reducible first | exact HI0.out | apply IsS75.alloc | apply IsS75.drewN | apply IsS75.drew | apply IsS75.set_1 | apply IsS75.set_2) | exact HI0.out)) (by (with_reducible repeat (first | apply Kd.R_alloc | apply Kd.R_drewN | apply Kd.R_drew)); exact HO_5.out) (by decide)) hk (fun _ h => h.2)) (fun _ h => h.1)); have n1_ := Aside0.mk (KeepBut.trans (by repeat (first | (with_reducible first | exact HK.out | apply KeepBut.set_ | apply keep_drewN | apply keep_drew | apply keep_alloc) | exact HK.out)) hk (.inl rfl)); have n2_ := Aside0.mk (hb); have n3_ := Aside0.mk (hi); clear HO_5; clear HK; clear HB; clear HI0; have HO_5 := n0_; have HK := n1_; have HB := n2_; have HI0 := n3_; clear n0_ n1_ n2_ n3_; (try clear hb); (try clear hb2); (try clear hk); (try clear hi)) | ((with_reducible refine gate_callee (f := 41) rfl ?_); refine goesL_ (some 29) rfl rfl Tryd.func41 (by kernel_rfl) rfl #[.pointer (some ⟨g, 0, none⟩), .int .i64 2] rfl (by (try simp only [List.map_toArray, List.map_cons, List.map_nil]); first | done | rfl | (simp only [List.length_drop, List.length_take]; rfl)) ?_; (with_reducible refine (spec_l00Src_pick.calls g s0_0 t300 t301 2 t302 t303 t304 w0 _ ?side1 ?side2 A14.out).mono ?_); (case side1 => repeat (first | (with_reducible first | exact HI0.out | apply IsS75.alloc | apply IsS75.drewN | apply IsS75.drew | apply IsS75.set_1 | apply IsS75.set_2) | exact HI0.out)); (case side2 => repeat (first | (with_reducible first | exact HB.out | apply below_alloc | apply pw_below_drewN | apply below_drew1 | refine below_set ?_ (IsS75.ge HI0.out)) | exact HB.out)); rintro e w17 ⟨rfl, hi, hb, hk⟩; refine ⟨_, rfl, ?_⟩; have n0_ := Aside0.mk (Kd.R_mono (Kd.R_keep (IsS75.apart (show IsS75 w0 _ g s0_0 t300 t301 from by repeat (first | (with_reducible first | exact HI0.out | apply IsS75.alloc | apply IsS75.drewN | apply IsS75.drew | apply IsS75.set_1 | apply IsS75.set_2) | exact HI0.out)) (by (with_reducible repeat (first | apply Kd.R_alloc | apply Kd.R_drewN | apply Kd.R_drew)); exact HO_5.out) (by decide)) hk (fun _ h => h.2)) (fun _ h => h.1)); have n1_ := Aside0.mk (KeepBut.trans (by repeat (first | (with_reducible first | exact HK.out | apply KeepBut.set_ | apply keep_drewN | apply keep_drew | apply keep_alloc) | exact HK.out)) hk (.inl rfl)); have n2_ := Aside0.mk (hb); have n3_ := Aside0.mk (hi); clear HO_5; clear HK; clear HB; clear HI0; have HO_5 := n0_; have HK := n1_; have HB := n2_; have HI0 := n3_; clear n0_ n1_ n2_ n3_; (try clear hb); (try clear hb2); (try clear hk); (try clear hi)) | ((with_reducible refine gate_builtin (b := .append) (xs := #[.tmp 32, .tmp 34]) rfl ?_); at_builtin; refine Kd.R_append (Kd.int .u8) w.heap.size rfl (.tmp 32) (.tmp 34) 40 5 (.int .u8 0) 1 rfl Tryd.underlying40 info5 rfl (by decide) (by omega) u5 x5_1 ((wrap64 (48 + t302)) % 256) [.int .u8 ((wrap64 (48 + t302)) % 256)] (fun _ => True) (fun _ => False) rfl rfl ?aP (fun _ hk => hk.elim) ?aF ?aO (Below.refl _ _) ?aS ?aL ?_; (case aP => exact rfl); (case aF => exact (fun _ _ => trivial)); (case aO => exact (by (with_reducible repeat (first | apply Kd.R_alloc | apply Kd.R_drewN | apply Kd.R_drew)); exact HO_5.out)); (case aS => exact (keep_size (w := w) (g := g) (row := none) (by repeat (first | (with_reducible first | exact HK.out | apply KeepBut.set_ | apply keep_drewN | apply keep_drew | apply keep_alloc) | exact HK.out)))); (case aL => have := LMc15.out; omega); intro v306 w18 ho hb hg hat; rw [← Ny305.out] at ho; have n0_ := Aside0.mk (IsS75.grown (by repeat (first | (with_reducible first | exact HI0.out | apply IsS75.alloc | apply IsS75.drewN | apply IsS75.drew | apply IsS75.set_1 | apply IsS75.set_2) | exact HI0.out)) hg (IsS75.own_ne HI0.out HO_5.out (by decide))); have n1_ := Aside0.mk (below_weaken (by repeat (first | (with_reducible first | exact HB.out | apply below_alloc | apply pw_below_drewN | apply below_drew1 | refine below_set ?_ (IsS75.ge HI0.out)) | exact HB.out)) HL.out hb); have n2_ := Aside0.mk (KeepBut.trans (by repeat (first | (with_reducible first | exact HK.out | apply KeepBut.set_ | apply keep_drewN | apply keep_drew | apply keep_alloc) | exact HK.out)) (KeepBut.of_grown hg g) (Kd.R_base2 HO_5.out)); have n3_ := Aside0.mk (ho); clear HI0; clear HB; clear HK; clear HO_5; have HI0 := n0_; have HB := n1_; have HK := n2_; have HO307 := n3_; clear n0_ n1_ n2_ n3_; clear ho hb hg hat))
            go_roundg k1
            case measure => have := HK1.out; omega
            case rel => exact ⟨(y305), ((wrap64 (48 + t302)) % 256), (wrap64 (x8_1 - 1)), (t303), (t304), (by first | rfl | (simp; done) | (simp [*]; done)), (by first | rfl | (simp; done) | (simp [*]; done)), H', ⟨by have := HK1.out; omega⟩, ⟨by (with_reducible repeat (first | apply Kd.R_alloc | apply Kd.R_drewN | apply Kd.R_drew)); exact HO307.out⟩, ⟨by repeat (first | (with_reducible first | exact HI0.out | apply IsS75.alloc | apply IsS75.drewN | apply IsS75.drew | apply IsS75.set_1 | apply IsS75.set_2) | exact HI0.out)⟩, ⟨by repeat (first | (with_reducible first | exact HK.out | apply KeepBut.set_ | apply keep_drewN | apply keep_drew | apply keep_alloc) | exact HK.out)⟩, ⟨by repeat (first | (with_reducible first | exact HB.out | apply below_alloc | apply pw_below_drewN | apply below_drew1 | refine below_set ?_ (IsS75.ge HI0.out)) | exact HB.out)⟩⟩
          · rw [if_neg c15] at H
            exact absurd H (by simp)
        · replace c13 := Bool.eq_false_iff.mpr c13
          subst c13
          have H1 : (if x5_1.length < 140737488355328 then (spec_l01DrawGood.l0 k1 (x5_1 ++ [x6_1]) x6_1 (wrap64 (1 + t293)) (wrap64 (x8_1 - 1)) s0_0 t300 t301) else (none)) = some (r1, r2, r3) := by rw [if_neg (show ¬ (false = true) by decide)] at H; exact H
          clear H
          have H := H1
          clear H1
          by_cases c19 : x5_1.length < 140737488355328
          · rw [if_pos c19] at H
            have LMc19 := Aside0.mk c19
            clear c19
            obtain ⟨y308, hy308⟩ : ∃ y_ : List Int, y_ = (x5_1 ++ [x6_1]) := ⟨_, rfl⟩
            replace H : (spec_l01DrawGood.l0 k1 y308 x6_1 (wrap64 (1 + t293)) (wrap64 (x8_1 - 1)) s0_0 t300 t301) = some (r1, r2, r3) := by first | (rw [hy308]; with_reducible exact H) | (have H2_ := (Option.bind_some _ _).symm.trans H; rw [hy308]; with_reducible exact H2_) | (have H2_ := (Option.bind_some _ _).symm.trans H; with_reducible exact H2_) | with_reducible exact H | (rw [hy308]; exact H) | exact H
            have Ny308 := Aside0.mk hy308
            clear hy308
            have H' := Aside0.mk H
            clear H
            go_wp2_with (first | ((with_reducible refine gate_callee (f := 61) rfl ?_); refine goesL_ (some 27) rfl rfl Tryd.func61 (by kernel_rfl) rfl #[.pointer (some ⟨g, 0, none⟩), .int .i64 (wrap64 (1 + t293))] rfl (by (try simp only [List.map_toArray, List.map_cons, List.map_nil]); first | done | rfl | (simp only [List.length_drop, List.length_take]; rfl)) ?_; (with_reducible refine (spec_l00Src_one.calls g s0_0 x1001_1 x1002_1 (wrap64 (1 + t293)) false t300 t301 w0 _ ?side1 ?side2 A12.out).mono ?_); (case side1 => repeat (first | (with_reducible first | exact HI0.out | apply IsS75.alloc | apply IsS75.drewN | apply IsS75.drew | apply IsS75.set_1 | apply IsS75.set_2) | exact HI0.out)); (case side2 => repeat (first | (with_reducible first | exact HB.out | apply below_alloc | apply pw_below_drewN | apply below_drew1 | refine below_set ?_ (IsS75.ge HI0.out)) | exact HB.out)); rintro e w20 ⟨rfl, hi, hb, hk⟩; refine ⟨_, rfl, ?_⟩; have n0_ := Aside0.mk (Kd.R_mono (Kd.R_keep (IsS75.apart (show IsS75 w0 _ g s0_0 x1001_1 x1002_1 from by repeat (first | (with_reducible first | exact HI0.out | apply IsS75.alloc | apply IsS75.drewN | apply IsS75.drew | apply IsS75.set_1 | apply IsS75.set_2) | exact HI0.out)) (by (with_reducible repeat (first | apply Kd.R_alloc | apply Kd.R_drewN | apply Kd.R_drew)); exact HO_5.out) (by decide)) hk (fun _ h => h.2)) (fun _ h => h.1)); have n1_ := Aside0.mk (KeepBut.trans (by repeat (first | (with_reducible first | exact HK.out | apply KeepBut.set_ | apply keep_drewN | apply keep_drew | apply keep_alloc) | exact HK.out)) hk (.inl rfl)); have n2_ := Aside0.mk (hb); have n3_ := Aside0.mk (hi); clear HO_5; clear HK; clear HB; clear HI0; have HO_5 := n0_; have HK := n1_; have HB := n2_; have HI0 := n3_; clear n0_ n1_ n2_ n3_; (try clear hb); (try clear hb2); (try clear hk); (try clear hi)) | ((with_reducible refine gate_builtin (b := .append) (xs := #[.tmp 32, .tmp 34]) rfl ?_); at_builtin; refine Kd.R_append (Kd.int .u8) w.heap.size rfl (.tmp 32) (.tmp 34) 40 5 (.int .u8 0) 1 rfl Tryd.underlying40 info5 rfl (by decide) (by omega) u5 x5_1 x6_1 [.int .u8 x6_1] (fun _ => True) (fun _ => False) rfl rfl ?aP (fun _ hk => hk.elim) ?aF ?aO (Below.refl _ _) ?aS ?aL ?_; (case aP => exact rfl); (case aF => exact (fun _ _ => trivial)); (case aO => exact (by (with_reducible repeat (first | apply Kd.R_alloc | apply Kd.R_drewN | apply Kd.R_drew)); exact HO_5.out)); (case aS => exact (keep_size (w := w) (g := g) (row := none) (by repeat (first | (with_reducible first | exact HK.out | apply KeepBut.set_ | apply keep_drewN | apply keep_drew | apply keep_alloc) | exact HK.out)))); (case aL => have := LMc19.out; omega); intro v309 w21 ho hb hg hat; rw [← Ny308.out] at ho; have n0_ := Aside0.mk (IsS75.grown (by repeat (first | (with_reducible first | exact HI0.out | apply IsS75.alloc | apply IsS75.drewN | apply IsS75.drew | apply IsS75.set_1 | apply IsS75.set_2) | exact HI0.out)) hg (IsS75.own_ne HI0.out HO_5.out (by decide))); have n1_ := Aside0.mk (below_weaken (by repeat (first | (with_reducible first | exact HB.out | apply below_alloc | apply pw_below_drewN | apply below_drew1 | refine below_set ?_ (IsS75.ge HI0.out)) | exact HB.out)) HL.out hb); have n2_ := Aside0.mk (KeepBut.trans (by repeat (first | (with_reducible first | exact HK.out | apply KeepBut.set_ | apply keep_drewN | apply keep_drew | apply keep_alloc) | exact HK.out)) (KeepBut.of_grown hg g) (Kd.R_base2 HO_5.out)); have n3_ := Aside0.mk (ho); clear HI0; clear HB; clear HK; clear HO_5; have HI0 := n0_; have HB := n1_; have HK := n2_; have HO310 := n3_; clear n0_ n1_ n2_ n3_; clear ho hb hg hat))
            go_roundg k1
            case measure => have := HK1.out; omega
            case rel => exact ⟨(y308), (x6_1), (wrap64 (x8_1 - 1)), (t300), (t301), (by first | rfl | (simp; done) | (simp [*]; done)), (by first | rfl | (simp; done) | (simp [*]; done)), H', ⟨by have := HK1.out; omega⟩, ⟨by (with_reducible repeat (first | apply Kd.R_alloc | apply Kd.R_drewN | apply Kd.R_drew)); exact HO310.out⟩, ⟨by repeat (first | (with_reducible first | exact HI0.out | apply IsS75.alloc | apply IsS75.drewN | apply IsS75.drew | apply IsS75.set_1 | apply IsS75.set_2) | exact HI0.out)⟩, ⟨by repeat (first | (with_reducible first | exact HK.out | apply KeepBut.set_ | apply keep_drewN | apply keep_drew | apply keep_alloc) | exact HK.out)⟩, ⟨by repeat (first | (with_reducible first | exact HB.out | apply below_alloc | apply pw_below_drewN | apply below_drew1 | refine below_set ?_ (IsS75.ge HI0.out)) | exact HB.out)⟩⟩
          · rw [if_neg c19] at H
            exact absurd H (by simp)
      · rw [if_neg c11] at H
        have c11b0 : decide (0 < x8_1) = false := decide_eq_false c11
        clear c11
        simp only [Option.some.injEq, Prod.mk.injEq] at H
        obtain ⟨rfl, rfl, rfl⟩ := H
        have hcv22 := own_string (P := Tryd.prog) Tryd.underlying40 Tryd.underlying5 Tryd.underlying9 (Kd.own_of_R HO_5.out)
        go_wp2
        go_ret
        exact ⟨by first | rfl | (simp [errW_none, errW_some] <;> rfl) | (simp [*, errW_none, errW_some] <;> rfl), by repeat (first | (with_reducible first | exact HI0.out | apply IsS75.alloc | apply IsS75.drewN | apply IsS75.drew | apply IsS75.set_1 | apply IsS75.set_2) | exact HI0.out), by repeat (first | (with_reducible first | exact HB.out | apply below_alloc | apply pw_below_drewN | apply below_drew1 | refine below_set ?_ (IsS75.ge HI0.out)) | exact HB.out), by repeat (first | (with_reducible first | exact HK.out | apply KeepBut.set_ | apply keep_drewN | apply keep_drew | apply keep_alloc) | exact HK.out)⟩

end Go.Proofs.YtjpjlobpglmoiaaDoor.A
-- Printed by this session's oprint.py through the kit's printer.
namespace Go.Proofs.YtjpjlobpglmoiaaDoor.A
open Go.RowKit Go.Proofs.YtjpjlobpglmoiaaDoorW.PrintWords Go.Proofs.YtjpjlobpglmoiaaDoorW.PrintLast Go.Proofs.YtjpjlobpglmoiaaDoorW.PrintMore
attribute [local go_sem] max2_int min2_int max_two min_two max_three min_three max_four min_four   -- for this text's walks alone
set_option linter.unusedVariables false
set_option linter.unusedSimpArgs false

/-! ### spec_l07DrawLevels: function 62 -/
def spec_l07DrawLevels.l0 : Nat → Int → List Int → Int → List Int → Int → Int → Option (ByteArray × Int × Int)
  | 0, _, _, _, _, _, _ => none
  | k + 1, x1, x5, x6, x1000, x1001, x1002 => if x1 > 0 then ((spec_l00Src_one.f x1000 x1001 x1002 6).bind fun bt328 => (if bt328.1 = true then (if x5.length < 140737488355328 then (spec_l07DrawLevels.l0 k (wrap64 (x1 - 1)) (x5 ++ [(97 - x6) % 256]) ((97 - x6) % 256) x1000 bt328.2.1 bt328.2.2) else (none)) else (if x5.length < 140737488355328 then (spec_l07DrawLevels.l0 k (wrap64 (x1 - 1)) (x5 ++ [x6]) x6 x1000 bt328.2.1 bt328.2.2) else (none)))) else (some (strOfNums x5, x1001, x1002))
def spec_l07DrawLevels.f (k : Nat) (s0_0 : List Int) (s0_1 : Int) (s0_2 : Int) (a1 : Int) : Option (ByteArray × Int × Int) := (spec_l00Src_pick.f s0_0 s0_1 s0_2 2).bind fun bt325 => (spec_l07DrawLevels.l0 k a1 (([] : List Int)) ((wrap64 (48 + bt325.1)) % 256) s0_0 bt325.2.1 bt325.2.2)
theorem spec_l07DrawLevels.mono_l : ∀ k, (∀ y0 y1 y2 y3 y4 y5, LeO (spec_l07DrawLevels.l0 k y0 y1 y2 y3 y4 y5) (spec_l07DrawLevels.l0 (k + 1) y0 y1 y2 y3 y4 y5))
  | 0 => fun _ _ _ _ _ _ r h => by simp [spec_l07DrawLevels.l0] at h
  | k + 1 => by
    have ih0 := spec_l07DrawLevels.mono_l k
    · intro y0 y1 y2 y3 y4 y5
      unfold spec_l07DrawLevels.l0
      repeat' first
      | (with_reducible exact ih0 _ _ _ _ _ _)
      | (with_reducible exact LeO.refl _)
      | (with_reducible exact LeO.none _)
      | (with_reducible refine LeO.ite ?_ ?_)
      | (with_reducible refine LeO.bind ?_ (fun _ => ?_))
      | exact ih0 _ _ _ _ _ _
      | exact LeO.none _
      | refine LeO.ite ?_ ?_
      | refine LeO.bind ?_ (fun _ => ?_)
theorem spec_l07DrawLevels.mono : ∀ a0 a1 a2 a3 k, LeO (spec_l07DrawLevels.f k a0 a1 a2 a3) (spec_l07DrawLevels.f (k + 1) a0 a1 a2 a3) := by
  intro a0 a1 a2 a3 k
  have ih0 := spec_l07DrawLevels.mono_l k
  unfold spec_l07DrawLevels.f
  repeat' first
      | (with_reducible exact ih0 _ _ _ _ _ _)
      | (with_reducible exact LeO.refl _)
      | (with_reducible exact LeO.none _)
      | (with_reducible refine LeO.ite ?_ ?_)
      | (with_reducible refine LeO.bind ?_ (fun _ => ?_))
      | exact ih0 _ _ _ _ _ _
      | exact LeO.none _
      | refine LeO.ite ?_ ?_
      | refine LeO.bind ?_ (fun _ => ?_)
set_option maxHeartbeats 8000000 in
set_option maxRecDepth 100000 in
theorem spec_l07DrawLevels.calls (k : Nat) (g : Nat) (s0_0 : List Int) (s0_1 : Int) (s0_2 : Int) (a1 : Int) (r1 : ByteArray) (r2 : Int) (r3 : Int) (w0 w : World) (hI : IsS75 w0 w g s0_0 s0_1 s0_2) (hB : Below w0.heap.size w0 w) (h : spec_l07DrawLevels.f k s0_0 s0_1 s0_2 a1 = some (r1, r2, r3)) :
    Calls Tryd.prog 62 #[.pointer (some ⟨g, 0, none⟩), .int .i64 a1] w fun e w' => e = .returned (.string r1) ∧ IsS75 w0 w' g s0_0 r2 r3 ∧ Below w0.heap.size w0 w' ∧ KeepBut w w' g none := by
  have HI0 := Aside0.mk hI
  have HK := Aside0.mk (KeepBut.refl w g none)
  have HL := Aside0.mk hB.size
  clear hI
  have HW0 := Aside0.mk hB.size
  have HB := Aside0.mk hB
  clear hB
  have H : ((spec_l00Src_pick.f s0_0 s0_1 s0_2 2).bind fun bt325 => (spec_l07DrawLevels.l0 k a1 (([] : List Int)) ((wrap64 (48 + bt325.1)) % 256) s0_0 bt325.2.1 bt325.2.2)) = some (r1, r2, r3) := h
  clear h
  obtain ⟨y322, hy322⟩ : ∃ y_ : List Int, y_ = (([] : List Int)) := ⟨_, rfl⟩
  replace H : ((spec_l00Src_pick.f s0_0 s0_1 s0_2 2).bind fun bt325 => (spec_l07DrawLevels.l0 k a1 y322 ((wrap64 (48 + bt325.1)) % 256) s0_0 bt325.2.1 bt325.2.2)) = some (r1, r2, r3) := by first | (rw [hy322]; with_reducible exact H) | (have H2_ := (Option.bind_some _ _).symm.trans H; rw [hy322]; with_reducible exact H2_) | (have H2_ := (Option.bind_some _ _).symm.trans H; with_reducible exact H2_) | with_reducible exact H | (rw [hy322]; exact H) | exact H
  have Ny322 := Aside0.mk hy322
  clear hy322
  replace H := Option.bind_eq_some_iff.mp H
  obtain ⟨⟨t325, t326, t327⟩, A30, H⟩ := H
  replace H : (spec_l07DrawLevels.l0 k a1 y322 ((wrap64 (48 + t325)) % 256) s0_0 t326 t327) = some (r1, r2, r3) := H
  have A3 := Aside0.mk A30
  clear A30
  have H' := Aside0.mk H
  clear H
  go_enter Tryd.func62, Tryd.ntmps62
  go_wp2_with (first | ((with_reducible refine gate_dst (N := 7) rfl ?_); refine Kd.R_lit (Kd.int .u8) _ 5 ?hg (N := 7) ?hd (xs := ([] : List Int)) (inner := []) (ok := fun _ => True) (okp := fun _ => True) ?hr ?hp (fun _ hk => hk) trivial (Below.refl _ _) (Nat.le_refl _) (by simp) ?_; (case hd => rfl); (case hg => rfl); (case hr => first | (go_simp; done) | (go_simp; rfl)); (case hp => exact (Reps.none _ _)); intro v323 w4 ho5 hb hg_ hnew_; clear hg_ hnew_; (first | rw [← Ny322.out] at ho5 | (simp only [Int.reduceToNat] at ho5; rw [← Ny322.out] at ho5)); have n0_ := Aside0.mk (Kd.R_lower ho5 (keep_size (w := w) (g := g) (row := none) (by repeat (first | (with_reducible first | exact HK.out | apply KeepBut.set_ | apply keep_drewN | apply keep_drew | apply keep_alloc) | exact HK.out)))); have n1_ := Aside0.mk (IsS75.below (by repeat (first | (with_reducible first | exact HI0.out | apply IsS75.alloc | apply IsS75.drewN | apply IsS75.drew | apply IsS75.set_1 | apply IsS75.set_2) | exact HI0.out)) hb); have n2_ := Aside0.mk (KeepBut.trans (by repeat (first | (with_reducible first | exact HK.out | apply KeepBut.set_ | apply keep_drewN | apply keep_drew | apply keep_alloc) | exact HK.out)) (KeepBut.of_below hb g none) (.inl rfl)); have n3_ := Aside0.mk (below_step (by repeat (first | (with_reducible first | exact HB.out | apply below_alloc | apply pw_below_drewN | apply below_drew1 | refine below_set ?_ (IsS75.ge HI0.out)) | exact HB.out)) hb); clear HI0; clear HK; clear HB; have HO324 := n0_; have HI0 := n1_; have HK := n2_; have HB := n3_; clear n0_ n1_ n2_ n3_; clear hb ho5) | ((with_reducible refine gate_callee (f := 41) rfl ?_); refine goesL_ (some 9) rfl rfl Tryd.func41 (by kernel_rfl) rfl #[.pointer (some ⟨g, 0, none⟩), .int .i64 2] rfl (by (try simp only [List.map_toArray, List.map_cons, List.map_nil]); first | done | rfl | (simp only [List.length_drop, List.length_take]; rfl)) ?_; (with_reducible refine (spec_l00Src_pick.calls g s0_0 s0_1 s0_2 2 t325 t326 t327 w0 _ ?side1 ?side2 A3.out).mono ?_); (case side1 => repeat (first | (with_reducible first | exact HI0.out | apply IsS75.alloc | apply IsS75.drewN | apply IsS75.drew | apply IsS75.set_1 | apply IsS75.set_2) | exact HI0.out)); (case side2 => repeat (first | (with_reducible first | exact HB.out | apply below_alloc | apply pw_below_drewN | apply below_drew1 | refine below_set ?_ (IsS75.ge HI0.out)) | exact HB.out)); rintro e w6 ⟨rfl, hi, hb, hk⟩; refine ⟨_, rfl, ?_⟩; have n0_ := Aside0.mk (Kd.R_mono (Kd.R_keep (IsS75.apart (show IsS75 w0 _ g s0_0 s0_1 s0_2 from by repeat (first | (with_reducible first | exact HI0.out | apply IsS75.alloc | apply IsS75.drewN | apply IsS75.drew | apply IsS75.set_1 | apply IsS75.set_2) | exact HI0.out)) (by (with_reducible repeat (first | apply Kd.R_alloc | apply Kd.R_drewN | apply Kd.R_drew)); exact HO324.out) (by decide)) hk (fun _ h => h.2)) (fun _ h => h.1)); have n1_ := Aside0.mk (KeepBut.trans (by repeat (first | (with_reducible first | exact HK.out | apply KeepBut.set_ | apply keep_drewN | apply keep_drew | apply keep_alloc) | exact HK.out)) hk (.inl rfl)); have n2_ := Aside0.mk (hb); have n3_ := Aside0.mk (hi); clear HO324; clear HK; clear HB; clear HI0; have HO324 := n0_; have HK := n1_; have HB := n2_; have HI0 := n3_; clear n0_ n1_ n2_ n3_; (try clear hb); (try clear hb2); (try clear hk); (try clear hi)))
  go_loopg [1, 5, 6] k (fun kq v1 v5 v6 w' => ∃ (x1_1 : Int) (x5_1 : List Int) (x6_1 : Int) (x1001_1 : Int) (x1002_1 : Int), v1 = .int .i64 x1_1 ∧ v6 = .int .u8 x6_1 ∧ Aside0 (spec_l07DrawLevels.l0 kq x1_1 x5_1 x6_1 s0_0 x1001_1 x1002_1 = some (r1, r2, r3)) ∧ Aside0 (kq ≤ k) ∧ Aside0 (Kd.R (Kd.int .u8) 5 w' w.heap.size (fun _ => True) v5 x5_1) ∧ Aside0 (IsS75 w0 w' g s0_0 x1001_1 x1002_1) ∧ Aside0 (KeepBut w w' g none) ∧ Aside0 (Below w0.heap.size w0 w'))
  case atStart => exact ⟨(a1), (y322), ((wrap64 (48 + t325)) % 256), (t326), (t327), (by first | rfl | (simp; done) | (simp [*]; done)), (by first | rfl | (simp; done) | (simp [*]; done)), H', ⟨Nat.le_refl _⟩, ⟨by (with_reducible repeat (first | apply Kd.R_alloc | apply Kd.R_drewN | apply Kd.R_drew)); exact HO324.out⟩, ⟨by repeat (first | (with_reducible first | exact HI0.out | apply IsS75.alloc | apply IsS75.drewN | apply IsS75.drew | apply IsS75.set_1 | apply IsS75.set_2) | exact HI0.out)⟩, ⟨by repeat (first | (with_reducible first | exact HK.out | apply KeepBut.set_ | apply keep_drewN | apply keep_drew | apply keep_alloc) | exact HK.out)⟩, ⟨by repeat (first | (with_reducible first | exact HB.out | apply below_alloc | apply pw_below_drewN | apply below_drew1 | refine below_set ?_ (IsS75.ge HI0.out)) | exact HB.out)⟩⟩
  case round =>
    clear H'
    try clear p2
    try clear c4
    try clear c6
    try clear p6
    obtain ⟨x1_1, x5_1, x6_1, x1001_1, x1002_1, rfl, rfl, HA, HK1, HO_5, HI0, HK, HB⟩ := hrel
    cases gk with
    | zero => exact absurd HA.out (by simp [spec_l07DrawLevels.l0])
    | succ k1 =>
      have H := HA.out
      clear HA
      simp only [spec_l07DrawLevels.l0] at H
      by_cases c7 : x1_1 > 0
      · rw [if_pos c7] at H
        have c7b0 : decide (0 < x1_1) = true := decide_eq_true c7
        clear c7
        replace H := Option.bind_eq_some_iff.mp H
        obtain ⟨⟨t328, t329, t330⟩, A80, H⟩ := H
        replace H : (if t328 = true then (if x5_1.length < 140737488355328 then (spec_l07DrawLevels.l0 k1 (wrap64 (x1_1 - 1)) (x5_1 ++ [(97 - x6_1) % 256]) ((97 - x6_1) % 256) s0_0 t329 t330) else (none)) else (if x5_1.length < 140737488355328 then (spec_l07DrawLevels.l0 k1 (wrap64 (x1_1 - 1)) (x5_1 ++ [x6_1]) x6_1 s0_0 t329 t330) else (none))) = some (r1, r2, r3) := H
        have A8 := Aside0.mk A80
        clear A80
        by_cases c9 : t328 = true
        · subst c9
          have H1 : (if x5_1.length < 140737488355328 then (spec_l07DrawLevels.l0 k1 (wrap64 (x1_1 - 1)) (x5_1 ++ [(97 - x6_1) % 256]) ((97 - x6_1) % 256) s0_0 t329 t330) else (none)) = some (r1, r2, r3) := by rw [if_pos rfl] at H; exact H
          clear H
          have H := H1
          clear H1
          by_cases c10 : x5_1.length < 140737488355328
          · rw [if_pos c10] at H
            have LMc10 := Aside0.mk c10
            clear c10
            obtain ⟨y331, hy331⟩ : ∃ y_ : List Int, y_ = (x5_1 ++ [(97 - x6_1) % 256]) := ⟨_, rfl⟩
            replace H : (spec_l07DrawLevels.l0 k1 (wrap64 (x1_1 - 1)) y331 ((97 - x6_1) % 256) s0_0 t329 t330) = some (r1, r2, r3) := by first | (rw [hy331]; with_reducible exact H) | (have H2_ := (Option.bind_some _ _).symm.trans H; rw [hy331]; with_reducible exact H2_) | (have H2_ := (Option.bind_some _ _).symm.trans H; with_reducible exact H2_) | with_reducible exact H | (rw [hy331]; exact H) | exact H
            have Ny331 := Aside0.mk hy331
            clear hy331
            have H' := Aside0.mk H
            clear H
            go_wp2_with (first | ((with_reducible refine gate_callee (f := 61) rfl ?_); refine goesL_ (some 17) rfl rfl Tryd.func61 (by kernel_rfl) rfl #[.pointer (some ⟨g, 0, none⟩), .int .i64 6] rfl (by (try simp only [List.map_toArray, List.map_cons, List.map_nil]); first | done | rfl | (simp only [List.length_drop, List.length_take]; rfl)) ?_; (with_reducible refine (spec_l00Src_one.calls g s0_0 x1001_1 x1002_1 6 true t329 t330 w0 _ ?side1 ?side2 A8.out).mono ?_); (case side1 => repeat (first | (with_reducible first | exact HI0.out | apply IsS75.alloc | apply IsS75.drewN | apply IsS75.drew | apply IsS75.set_1 | apply IsS75.set_2) | exact HI0.out)); (case side2 => repeat (first | (with_reducible first | exact HB.out | apply below_alloc | apply pw_below_drewN | apply below_drew1 | refine below_set ?_ (IsS75.ge HI0.out)) | exact HB.out)); rintro e w11 ⟨rfl, hi, hb, hk⟩; refine ⟨_, rfl, ?_⟩; have n0_ := Aside0.mk (Kd.R_mono (Kd.R_keep (IsS75.apart (show IsS75 w0 _ g s0_0 x1001_1 x1002_1 from by repeat (first | (with_reducible first | exact HI0.out | apply IsS75.alloc | apply IsS75.drewN | apply IsS75.drew | apply IsS75.set_1 | apply IsS75.set_2) | exact HI0.out)) (by (with_reducible repeat (first | apply Kd.R_alloc | apply Kd.R_drewN | apply Kd.R_drew)); exact HO_5.out) (by decide)) hk (fun _ h => h.2)) (fun _ h => h.1)); have n1_ := Aside0.mk (KeepBut.trans (by repeat (first | (with_reducible first | exact HK.out | apply KeepBut.set_ | apply keep_drewN | apply keep_drew | apply keep_alloc) | exact HK.out)) hk (.inl rfl)); have n2_ := Aside0.mk (hb); have n3_ := Aside0.mk (hi); clear HO_5; clear HK; clear HB; clear HI0; have HO_5 := n0_; have HK := n1_; have HB := n2_; have HI0 := n3_; clear n0_ n1_ n2_ n3_; (try clear hb); (try clear hb2); (try clear hk); (try clear hi)) | ((with_reducible refine gate_builtin (b := .append) (xs := #[.tmp 20, .tmp 22]) rfl ?_); at_builtin; refine Kd.R_append (Kd.int .u8) w.heap.size rfl (.tmp 20) (.tmp 22) 40 5 (.int .u8 0) 1 rfl Tryd.underlying40 info5 rfl (by decide) (by omega) u5 x5_1 ((97 - x6_1) % 256) [.int .u8 ((97 - x6_1) % 256)] (fun _ => True) (fun _ => False) rfl rfl ?aP (fun _ hk => hk.elim) ?aF ?aO (Below.refl _ _) ?aS ?aL ?_; (case aP => exact rfl); (case aF => exact (fun _ _ => trivial)); (case aO => exact (by (with_reducible repeat (first | apply Kd.R_alloc | apply Kd.R_drewN | apply Kd.R_drew)); exact HO_5.out)); (case aS => exact (keep_size (w := w) (g := g) (row := none) (by repeat (first | (with_reducible first | exact HK.out | apply KeepBut.set_ | apply keep_drewN | apply keep_drew | apply keep_alloc) | exact HK.out)))); (case aL => have := LMc10.out; omega); intro v332 w12 ho hb hg hat; rw [← Ny331.out] at ho; have n0_ := Aside0.mk (IsS75.grown (by repeat (first | (with_reducible first | exact HI0.out | apply IsS75.alloc | apply IsS75.drewN | apply IsS75.drew | apply IsS75.set_1 | apply IsS75.set_2) | exact HI0.out)) hg (IsS75.own_ne HI0.out HO_5.out (by decide))); have n1_ := Aside0.mk (below_weaken (by repeat (first | (with_reducible first | exact HB.out | apply below_alloc | apply pw_below_drewN | apply below_drew1 | refine below_set ?_ (IsS75.ge HI0.out)) | exact HB.out)) HL.out hb); have n2_ := Aside0.mk (KeepBut.trans (by repeat (first | (with_reducible first | exact HK.out | apply KeepBut.set_ | apply keep_drewN | apply keep_drew | apply keep_alloc) | exact HK.out)) (KeepBut.of_grown hg g) (Kd.R_base2 HO_5.out)); have n3_ := Aside0.mk (ho); clear HI0; clear HB; clear HK; clear HO_5; have HI0 := n0_; have HB := n1_; have HK := n2_; have HO333 := n3_; clear n0_ n1_ n2_ n3_; clear ho hb hg hat))
            go_roundg k1
            case measure => have := HK1.out; omega
            case rel => exact ⟨(wrap64 (x1_1 - 1)), (y331), ((97 - x6_1) % 256), (t329), (t330), (by first | rfl | (simp; done) | (simp [*]; done)), (by first | rfl | (simp; done) | (simp [*]; done)), H', ⟨by have := HK1.out; omega⟩, ⟨by (with_reducible repeat (first | apply Kd.R_alloc | apply Kd.R_drewN | apply Kd.R_drew)); exact HO333.out⟩, ⟨by repeat (first | (with_reducible first | exact HI0.out | apply IsS75.alloc | apply IsS75.drewN | apply IsS75.drew | apply IsS75.set_1 | apply IsS75.set_2) | exact HI0.out)⟩, ⟨by repeat (first | (with_reducible first | exact HK.out | apply KeepBut.set_ | apply keep_drewN | apply keep_drew | apply keep_alloc) | exact HK.out)⟩, ⟨by repeat (first | (with_reducible first | exact HB.out | apply below_alloc | apply pw_below_drewN | apply below_drew1 | refine below_set ?_ (IsS75.ge HI0.out)) | exact HB.out)⟩⟩
          · rw [if_neg c10] at H
            exact absurd H (by simp)
        · replace c9 := Bool.eq_false_iff.mpr c9
          subst c9
          have H1 : (if x5_1.length < 140737488355328 then (spec_l07DrawLevels.l0 k1 (wrap64 (x1_1 - 1)) (x5_1 ++ [x6_1]) x6_1 s0_0 t329 t330) else (none)) = some (r1, r2, r3) := by rw [if_neg (show ¬ (false = true) by decide)] at H; exact H
          clear H
          have H := H1
          clear H1
          by_cases c13 : x5_1.length < 140737488355328
          · rw [if_pos c13] at H
            have LMc13 := Aside0.mk c13
            clear c13
            obtain ⟨y334, hy334⟩ : ∃ y_ : List Int, y_ = (x5_1 ++ [x6_1]) := ⟨_, rfl⟩
            replace H : (spec_l07DrawLevels.l0 k1 (wrap64 (x1_1 - 1)) y334 x6_1 s0_0 t329 t330) = some (r1, r2, r3) := by first | (rw [hy334]; with_reducible exact H) | (have H2_ := (Option.bind_some _ _).symm.trans H; rw [hy334]; with_reducible exact H2_) | (have H2_ := (Option.bind_some _ _).symm.trans H; with_reducible exact H2_) | with_reducible exact H | (rw [hy334]; exact H) | exact H
            have Ny334 := Aside0.mk hy334
            clear hy334
            have H' := Aside0.mk H
            clear H
            go_wp2_with (first | ((with_reducible refine gate_callee (f := 61) rfl ?_); refine goesL_ (some 17) rfl rfl Tryd.func61 (by kernel_rfl) rfl #[.pointer (some ⟨g, 0, none⟩), .int .i64 6] rfl (by (try simp only [List.map_toArray, List.map_cons, List.map_nil]); first | done | rfl | (simp only [List.length_drop, List.length_take]; rfl)) ?_; (with_reducible refine (spec_l00Src_one.calls g s0_0 x1001_1 x1002_1 6 false t329 t330 w0 _ ?side1 ?side2 A8.out).mono ?_); (case side1 => repeat (first | (with_reducible first | exact HI0.out | apply IsS75.alloc | apply IsS75.drewN | apply IsS75.drew | apply IsS75.set_1 | apply IsS75.set_2) | exact HI0.out)); (case side2 => repeat (first | (with_reducible first | exact HB.out | apply below_alloc | apply pw_below_drewN | apply below_drew1 | refine below_set ?_ (IsS75.ge HI0.out)) | exact HB.out)); rintro e w14 ⟨rfl, hi, hb, hk⟩; refine ⟨_, rfl, ?_⟩; have n0_ := Aside0.mk (Kd.R_mono (Kd.R_keep (IsS75.apart (show IsS75 w0 _ g s0_0 x1001_1 x1002_1 from by repeat (first | (with_reducible first | exact HI0.out | apply IsS75.alloc | apply IsS75.drewN | apply IsS75.drew | apply IsS75.set_1 | apply IsS75.set_2) | exact HI0.out)) (by (with_reducible repeat (first | apply Kd.R_alloc | apply Kd.R_drewN | apply Kd.R_drew)); exact HO_5.out) (by decide)) hk (fun _ h => h.2)) (fun _ h => h.1)); have n1_ := Aside0.mk (KeepBut.trans (by repeat (first | (with_reducible first | exact HK.out | apply KeepBut.set_ | apply keep_drewN | apply keep_drew | apply keep_alloc) | exact HK.out)) hk (.inl rfl)); have n2_ := Aside0.mk (hb); have n3_ := Aside0.mk (hi); clear HO_5; clear HK; clear HB; clear HI0; have HO_5 := n0_; have HK := n1_; have HB := n2_; have HI0 := n3_; clear n0_ n1_ n2_ n3_; (try clear hb); (try clear hb2); (try clear hk); (try clear hi)) | ((with_reducible refine gate_builtin (b := .append) (xs := #[.tmp 20, .tmp 22]) rfl ?_); at_builtin; refine Kd.R_append (Kd.int .u8) w.heap.size rfl (.tmp 20) (.tmp 22) 40 5 (.int .u8 0) 1 rfl Tryd.underlying40 info5 rfl (by decide) (by omega) u5 x5_1 x6_1 [.int .u8 x6_1] (fun _ => True) (fun _ => False) rfl rfl ?aP (fun _ hk => hk.elim) ?aF ?aO (Below.refl _ _) ?aS ?aL ?_; (case aP => exact rfl); (case aF => exact (fun _ _ => trivial)); (case aO => exact (by (with_reducible repeat (first | apply Kd.R_alloc | apply Kd.R_drewN | apply Kd.R_drew)); exact HO_5.out)); (case aS => exact (keep_size (w := w) (g := g) (row := none) (by repeat (first | (with_reducible first | exact HK.out | apply KeepBut.set_ | apply keep_drewN | apply keep_drew | apply keep_alloc) | exact HK.out)))); (case aL => have := LMc13.out; omega); intro v335 w15 ho hb hg hat; rw [← Ny334.out] at ho; have n0_ := Aside0.mk (IsS75.grown (by repeat (first | (with_reducible first | exact HI0.out | apply IsS75.alloc | apply IsS75.drewN | apply IsS75.drew | apply IsS75.set_1 | apply IsS75.set_2) | exact HI0.out)) hg (IsS75.own_ne HI0.out HO_5.out (by decide))); have n1_ := Aside0.mk (below_weaken (by repeat (first | (with_reducible first | exact HB.out | apply below_alloc | apply pw_below_drewN | apply below_drew1 | refine below_set ?_ (IsS75.ge HI0.out)) | exact HB.out)) HL.out hb); have n2_ := Aside0.mk (KeepBut.trans (by repeat (first | (with_reducible first | exact HK.out | apply KeepBut.set_ | apply keep_drewN | apply keep_drew | apply keep_alloc) | exact HK.out)) (KeepBut.of_grown hg g) (Kd.R_base2 HO_5.out)); have n3_ := Aside0.mk (ho); clear HI0; clear HB; clear HK; clear HO_5; have HI0 := n0_; have HB := n1_; have HK := n2_; have HO336 := n3_; clear n0_ n1_ n2_ n3_; clear ho hb hg hat))
            go_roundg k1
            case measure => have := HK1.out; omega
            case rel => exact ⟨(wrap64 (x1_1 - 1)), (y334), (x6_1), (t329), (t330), (by first | rfl | (simp; done) | (simp [*]; done)), (by first | rfl | (simp; done) | (simp [*]; done)), H', ⟨by have := HK1.out; omega⟩, ⟨by (with_reducible repeat (first | apply Kd.R_alloc | apply Kd.R_drewN | apply Kd.R_drew)); exact HO336.out⟩, ⟨by repeat (first | (with_reducible first | exact HI0.out | apply IsS75.alloc | apply IsS75.drewN | apply IsS75.drew | apply IsS75.set_1 | apply IsS75.set_2) | exact HI0.out)⟩, ⟨by repeat (first | (with_reducible first | exact HK.out | apply KeepBut.set_ | apply keep_drewN | apply keep_drew | apply keep_alloc) | exact HK.out)⟩, ⟨by repeat (first | (with_reducible first | exact HB.out | apply below_alloc | apply pw_below_drewN | apply below_drew1 | refine below_set ?_ (IsS75.ge HI0.out)) | exact HB.out)⟩⟩
          · rw [if_neg c13] at H
            exact absurd H (by simp)
      · rw [if_neg c7] at H
        have c7b0 : decide (0 < x1_1) = false := decide_eq_false c7
        clear c7
        simp only [Option.some.injEq, Prod.mk.injEq] at H
        obtain ⟨rfl, rfl, rfl⟩ := H
        have hcv16 := own_string (P := Tryd.prog) Tryd.underlying40 Tryd.underlying5 Tryd.underlying9 (Kd.own_of_R HO_5.out)
        go_wp2
        go_ret
        exact ⟨by first | rfl | (simp [errW_none, errW_some] <;> rfl) | (simp [*, errW_none, errW_some] <;> rfl), by repeat (first | (with_reducible first | exact HI0.out | apply IsS75.alloc | apply IsS75.drewN | apply IsS75.drew | apply IsS75.set_1 | apply IsS75.set_2) | exact HI0.out), by repeat (first | (with_reducible first | exact HB.out | apply below_alloc | apply pw_below_drewN | apply below_drew1 | refine below_set ?_ (IsS75.ge HI0.out)) | exact HB.out), by repeat (first | (with_reducible first | exact HK.out | apply KeepBut.set_ | apply keep_drewN | apply keep_drew | apply keep_alloc) | exact HK.out)⟩

end Go.Proofs.YtjpjlobpglmoiaaDoor.A
-- Printed by this session's oprint.py through the kit's printer.
namespace Go.Proofs.YtjpjlobpglmoiaaDoor.A
open Go.RowKit Go.Proofs.YtjpjlobpglmoiaaDoorW.PrintWords Go.Proofs.YtjpjlobpglmoiaaDoorW.PrintLast Go.Proofs.YtjpjlobpglmoiaaDoorW.PrintMore
attribute [local go_sem] max2_int min2_int max_two min_two max_three min_three max_four min_four   -- for this text's walks alone
set_option linter.unusedVariables false
set_option linter.unusedSimpArgs false

/-! ### laws_szScope: function 9 -/
def laws_szScope.f (k : Nat) (l0_0 : List ByteArray) (l0_1 : List ByteArray) (a1 : Int) : Option (Int) := (laws_szStringS.f k l0_0 a1).bind fun t103 => (if t103 < 0 then (some (-1)) else ((laws_szStringS.f k l0_1 t103).bind fun t104 => (if t104 < 0 then (some (-1)) else (some t104))))
theorem laws_szScope.mono : ∀ a0 a1 a2 k, LeO (laws_szScope.f k a0 a1 a2) (laws_szScope.f (k + 1) a0 a1 a2) := by
  intro a0 a1 a2 k
  unfold laws_szScope.f
  repeat' first
      | (with_reducible exact laws_szStringS.mono _ _ _)
      | (with_reducible exact LeO.refl _)
      | (with_reducible exact LeO.none _)
      | (with_reducible refine LeO.ite ?_ ?_)
      | (with_reducible refine LeO.bind ?_ (fun _ => ?_))
      | exact laws_szStringS.mono _ _ _
      | exact LeO.none _
      | refine LeO.ite ?_ ?_
      | refine LeO.bind ?_ (fun _ => ?_)
set_option maxHeartbeats 8000000 in
set_option maxRecDepth 100000 in
theorem laws_szScope.calls (k : Nat) (A0_0 : Option Addr) (c0_0 : Nat) (l0_0 : List ByteArray) (A0_1 : Option Addr) (c0_1 : Nat) (l0_1 : List ByteArray) (a1 : Int) (r : Int) (w : World) (hr0_0 : Kd.C Kd.string w A0_0 l0_0.length l0_0) (hc0_0 : l0_0.length ≤ c0_0) (hr0_1 : Kd.C Kd.string w A0_1 l0_1.length l0_1) (hc0_1 : l0_1.length ≤ c0_1) (h : laws_szScope.f k l0_0 l0_1 a1 = some r) :
    Calls Tryd.prog 9 #[.agg #[.slice A0_0 l0_0.length c0_0, .slice A0_1 l0_1.length c0_1], .int .i64 a1] w fun e w' => e = .returned (.int .i64 r) ∧ Below w.heap.size w w' := by
  have hu24 := Tryd.underlying24
  have HR0_0 := Aside0.mk hr0_0
  have HC0_0 := Aside0.mk hc0_0
  clear hr0_0 hc0_0
  have HR0_1 := Aside0.mk hr0_1
  have HC0_1 := Aside0.mk hc0_1
  clear hr0_1 hc0_1
  have HB := Aside0.mk (Below.refl w.heap.size w)
  have H : ((laws_szStringS.f k l0_0 a1).bind fun t103 => (if t103 < 0 then (some (-1)) else ((laws_szStringS.f k l0_1 t103).bind fun t104 => (if t104 < 0 then (some (-1)) else (some t104))))) = some r := h
  clear h
  replace H := Option.bind_eq_some_iff.mp H
  obtain ⟨t103, A30, H⟩ := H
  replace H : (if t103 < 0 then (some (-1)) else ((laws_szStringS.f k l0_1 t103).bind fun t104 => (if t104 < 0 then (some (-1)) else (some t104)))) = some r := H
  have A3 := Aside0.mk A30
  clear A30
  by_cases c4 : t103 < 0
  · rw [if_pos c4] at H
    have c4b0 : decide (t103 < 0) = true := decide_eq_true c4
    clear c4
    obtain rfl := Option.some.inj H
    go_enter Tryd.func9, Tryd.ntmps9
    go_wp2_with (first | ((with_reducible refine gate_dst (N := 2) rfl ?_); refine box_event ?hg (N := 2) ?hd (cs := #[.slice A0_0 l0_0.length c0_0, .slice A0_1 l0_1.length c0_1]) (t := 24) ?hr ?_; (case hd => rfl); (case hg => rfl); (case hr => first | (go_simp; done) | (go_simp; rfl)); intro gb102 hg w5 hbox hb; have n0_ := Aside0.mk (below_step (by repeat (first | (with_reducible first | exact HB.out | apply below_alloc | apply pw_below_drewN | apply below_drew1) | exact HB.out)) hb); have n1_ := Aside0.mk (hbox); have n2_ := Aside0.mk ((by rw [hg]; exact (below_size (by repeat (first | (with_reducible first | exact HB.out | apply below_alloc | apply pw_below_drewN | apply below_drew1) | exact HB.out))) : w.heap.size ≤ gb102)); have n3_ := Aside0.mk ((by rw [hg]; exact (below_size (by repeat (first | (with_reducible first | exact HB.out | apply below_alloc | apply pw_below_drewN | apply below_drew1) | exact HB.out))) : w.heap.size ≤ gb102)); clear HB; have HB := n0_; have BK102 := n1_; have GW102 := n2_; have GE102 := n3_; clear n0_ n1_ n2_ n3_; clear hb hbox hg; have hcz6_0 : w5.cell? ⟨gb102, 0, none⟩ = some (.slice A0_0 l0_0.length c0_0) := (blk_cell BK102.out 0).trans rfl; have hcz6_1 : w5.cell? ⟨gb102, 1, none⟩ = some (.slice A0_1 l0_1.length c0_1) := (blk_cell BK102.out 1).trans rfl; have hfz6_0 := blk_frozen BK102.out 0; have hfz6_1 := blk_frozen BK102.out 1) | ((with_reducible refine gate_callee (f := 14) rfl ?_); refine goesL_ (some 8) rfl rfl Tryd.func14 (by kernel_rfl) rfl #[.slice A0_0 l0_0.length c0_0, .int .i64 a1] rfl (by (try simp only [List.map_toArray, List.map_cons, List.map_nil]); first | done | rfl | (simp only [List.length_drop, List.length_take]; rfl)) ?_; (with_reducible refine (laws_szStringS.calls k _ _ l0_0 a1 t103 _ ?side1 ?side2 A3.out).mono ?_); (case side1 => repeat (first | exact (Kd.C_below HR0_0.out HB.out) | (with_reducible refine Kd.C_alloc ?_ _) | (with_reducible refine Kd.C_drewN ?_ _) | (with_reducible refine Kd.C_drew ?_))); (case side2 => exact HC0_0.out); rintro e w' ⟨rfl, ⟨nd, rfl⟩⟩; refine ⟨_, rfl, ?_⟩))
    go_ret
    exact ⟨by first | rfl | (simp [errW_none, errW_some] <;> rfl) | (simp [*, errW_none, errW_some] <;> rfl), by repeat (first | (with_reducible first | exact HB.out | apply below_alloc | apply pw_below_drewN | apply below_drew1 | refine below_set ?_ GE102.out) | exact HB.out)⟩
  · rw [if_neg c4] at H
    have c4b0 : decide (t103 < 0) = false := decide_eq_false c4
    clear c4
    replace H := Option.bind_eq_some_iff.mp H
    obtain ⟨t104, A70, H⟩ := H
    replace H : (if t104 < 0 then (some (-1)) else (some t104)) = some r := H
    have A7 := Aside0.mk A70
    clear A70
    by_cases c8 : t104 < 0
    · rw [if_pos c8] at H
      have c8b0 : decide (t104 < 0) = true := decide_eq_true c8
      clear c8
      obtain rfl := Option.some.inj H
      go_enter Tryd.func9, Tryd.ntmps9
      go_wp2_with (first | ((with_reducible refine gate_dst (N := 2) rfl ?_); refine box_event ?hg (N := 2) ?hd (cs := #[.slice A0_0 l0_0.length c0_0, .slice A0_1 l0_1.length c0_1]) (t := 24) ?hr ?_; (case hd => rfl); (case hg => rfl); (case hr => first | (go_simp; done) | (go_simp; rfl)); intro gb102 hg w9 hbox hb; have n0_ := Aside0.mk (below_step (by repeat (first | (with_reducible first | exact HB.out | apply below_alloc | apply pw_below_drewN | apply below_drew1) | exact HB.out)) hb); have n1_ := Aside0.mk (hbox); have n2_ := Aside0.mk ((by rw [hg]; exact (below_size (by repeat (first | (with_reducible first | exact HB.out | apply below_alloc | apply pw_below_drewN | apply below_drew1) | exact HB.out))) : w.heap.size ≤ gb102)); have n3_ := Aside0.mk ((by rw [hg]; exact (below_size (by repeat (first | (with_reducible first | exact HB.out | apply below_alloc | apply pw_below_drewN | apply below_drew1) | exact HB.out))) : w.heap.size ≤ gb102)); clear HB; have HB := n0_; have BK102 := n1_; have GW102 := n2_; have GE102 := n3_; clear n0_ n1_ n2_ n3_; clear hb hbox hg; have hcz10_0 : w9.cell? ⟨gb102, 0, none⟩ = some (.slice A0_0 l0_0.length c0_0) := (blk_cell BK102.out 0).trans rfl; have hcz10_1 : w9.cell? ⟨gb102, 1, none⟩ = some (.slice A0_1 l0_1.length c0_1) := (blk_cell BK102.out 1).trans rfl; have hfz10_0 := blk_frozen BK102.out 0; have hfz10_1 := blk_frozen BK102.out 1) | ((with_reducible refine gate_callee (f := 14) rfl ?_); refine goesL_ (some 8) rfl rfl Tryd.func14 (by kernel_rfl) rfl #[.slice A0_0 l0_0.length c0_0, .int .i64 a1] rfl (by (try simp only [List.map_toArray, List.map_cons, List.map_nil]); first | done | rfl | (simp only [List.length_drop, List.length_take]; rfl)) ?_; (with_reducible refine (laws_szStringS.calls k _ _ l0_0 a1 t103 _ ?side1 ?side2 A3.out).mono ?_); (case side1 => repeat (first | exact (Kd.C_below HR0_0.out HB.out) | (with_reducible refine Kd.C_alloc ?_ _) | (with_reducible refine Kd.C_drewN ?_ _) | (with_reducible refine Kd.C_drew ?_))); (case side2 => exact HC0_0.out); rintro e w' ⟨rfl, ⟨nd, rfl⟩⟩; refine ⟨_, rfl, ?_⟩) | ((with_reducible refine gate_callee (f := 14) rfl ?_); refine goesL_ (some 14) rfl rfl Tryd.func14 (by kernel_rfl) rfl #[.slice A0_1 l0_1.length c0_1, .int .i64 t103] rfl (by (try simp only [List.map_toArray, List.map_cons, List.map_nil]); first | done | rfl | (simp only [List.length_drop, List.length_take]; rfl)) ?_; (with_reducible refine (laws_szStringS.calls k _ _ l0_1 t103 t104 _ ?side1 ?side2 A7.out).mono ?_); (case side1 => repeat (first | exact (Kd.C_below HR0_1.out (by repeat (first | (with_reducible first | exact HB.out | apply below_alloc | apply pw_below_drewN | apply below_drew1 | refine below_set ?_ GE102.out) | exact HB.out))) | (with_reducible refine Kd.C_alloc ?_ _) | (with_reducible refine Kd.C_drewN ?_ _) | (with_reducible refine Kd.C_drew ?_))); (case side2 => exact HC0_1.out); rintro e w' ⟨rfl, ⟨nd, rfl⟩⟩; refine ⟨_, rfl, ?_⟩))
      go_ret
      exact ⟨by first | rfl | (simp [errW_none, errW_some] <;> rfl) | (simp [*, errW_none, errW_some] <;> rfl), by repeat (first | (with_reducible first | exact HB.out | apply below_alloc | apply pw_below_drewN | apply below_drew1 | refine below_set ?_ GE102.out) | exact HB.out)⟩
    · rw [if_neg c8] at H
      have c8b0 : decide (t104 < 0) = false := decide_eq_false c8
      clear c8
      obtain rfl := Option.some.inj H
      go_enter Tryd.func9, Tryd.ntmps9
      go_wp2_with (first | ((with_reducible refine gate_dst (N := 2) rfl ?_); refine box_event ?hg (N := 2) ?hd (cs := #[.slice A0_0 l0_0.length c0_0, .slice A0_1 l0_1.length c0_1]) (t := 24) ?hr ?_; (case hd => rfl); (case hg => rfl); (case hr => first | (go_simp; done) | (go_simp; rfl)); intro gb102 hg w11 hbox hb; have n0_ := Aside0.mk (below_step (by repeat (first | (with_reducible first | exact HB.out | apply below_alloc | apply pw_below_drewN | apply below_drew1) | exact HB.out)) hb); have n1_ := Aside0.mk (hbox); have n2_ := Aside0.mk ((by rw [hg]; exact (below_size (by repeat (first | (with_reducible first | exact HB.out | apply below_alloc | apply pw_below_drewN | apply below_drew1) | exact HB.out))) : w.heap.size ≤ gb102)); have n3_ := Aside0.mk ((by rw [hg]; exact (below_size (by repeat (first | (with_reducible first | exact HB.out | apply below_alloc | apply pw_below_drewN | apply below_drew1) | exact HB.out))) : w.heap.size ≤ gb102)); clear HB; have HB := n0_; have BK102 := n1_; have GW102 := n2_; have GE102 := n3_; clear n0_ n1_ n2_ n3_; clear hb hbox hg; have hcz12_0 : w11.cell? ⟨gb102, 0, none⟩ = some (.slice A0_0 l0_0.length c0_0) := (blk_cell BK102.out 0).trans rfl; have hcz12_1 : w11.cell? ⟨gb102, 1, none⟩ = some (.slice A0_1 l0_1.length c0_1) := (blk_cell BK102.out 1).trans rfl; have hfz12_0 := blk_frozen BK102.out 0; have hfz12_1 := blk_frozen BK102.out 1) | ((with_reducible refine gate_callee (f := 14) rfl ?_); refine goesL_ (some 8) rfl rfl Tryd.func14 (by kernel_rfl) rfl #[.slice A0_0 l0_0.length c0_0, .int .i64 a1] rfl (by (try simp only [List.map_toArray, List.map_cons, List.map_nil]); first | done | rfl | (simp only [List.length_drop, List.length_take]; rfl)) ?_; (with_reducible refine (laws_szStringS.calls k _ _ l0_0 a1 t103 _ ?side1 ?side2 A3.out).mono ?_); (case side1 => repeat (first | exact (Kd.C_below HR0_0.out HB.out) | (with_reducible refine Kd.C_alloc ?_ _) | (with_reducible refine Kd.C_drewN ?_ _) | (with_reducible refine Kd.C_drew ?_))); (case side2 => exact HC0_0.out); rintro e w' ⟨rfl, ⟨nd, rfl⟩⟩; refine ⟨_, rfl, ?_⟩) | ((with_reducible refine gate_callee (f := 14) rfl ?_); refine goesL_ (some 14) rfl rfl Tryd.func14 (by kernel_rfl) rfl #[.slice A0_1 l0_1.length c0_1, .int .i64 t103] rfl (by (try simp only [List.map_toArray, List.map_cons, List.map_nil]); first | done | rfl | (simp only [List.length_drop, List.length_take]; rfl)) ?_; (with_reducible refine (laws_szStringS.calls k _ _ l0_1 t103 t104 _ ?side1 ?side2 A7.out).mono ?_); (case side1 => repeat (first | exact (Kd.C_below HR0_1.out (by repeat (first | (with_reducible first | exact HB.out | apply below_alloc | apply pw_below_drewN | apply below_drew1 | refine below_set ?_ GE102.out) | exact HB.out))) | (with_reducible refine Kd.C_alloc ?_ _) | (with_reducible refine Kd.C_drewN ?_ _) | (with_reducible refine Kd.C_drew ?_))); (case side2 => exact HC0_1.out); rintro e w' ⟨rfl, ⟨nd, rfl⟩⟩; refine ⟨_, rfl, ?_⟩))
      go_ret
      exact ⟨by first | rfl | (simp [errW_none, errW_some] <;> rfl) | (simp [*, errW_none, errW_some] <;> rfl), by repeat (first | (with_reducible first | exact HB.out | apply below_alloc | apply pw_below_drewN | apply below_drew1 | refine below_set ?_ GE102.out) | exact HB.out)⟩

end Go.Proofs.YtjpjlobpglmoiaaDoor.A
/- The openings of the arguments' types, and what is left to prove of each law, about numbers and lists alone. Written by this session's row2.py. No conditions. -/
namespace Go.Proofs.YtjpjlobpglmoiaaDoor.A
open Go.RowKit Go.Proofs.YtjpjlobpglmoiaaDoorW.PrintWords Go.Proofs.YtjpjlobpglmoiaaDoorW.PrintLast Go.Proofs.YtjpjlobpglmoiaaDoor.O
set_option linter.unusedVariables false
def Wf_str (x : ByteArray) : Prop := x.size ≤ maxLen
def Wf_L9 (x : List ByteArray) : Prop := x.length ≤ maxLen ∧ ∀ y ∈ x, Wf_str y
def Wf_T24 (x : S24) : Prop := Wf_L9 x.f0 ∧ Wf_L9 x.f1
def Wf_i64 (x : Int) : Prop := (Lit.int .i64 x).wf = true
def Wf_u8 (x : Int) : Prop := (Lit.int .u8 x).wf = true
def Wf_L5 (x : List Int) : Prop := x.length ≤ maxLen ∧ ∀ y ∈ x, Wf_u8 y
theorem open_T24 (W : World) : Opens Tryd.prog W 24 k24 (fun x : S24 => Wf_T24 x) :=
  Opens.mono (Opens.struct (fun a => (⟨a.1, a.2⟩ : S24)) (fun _ => rfl) Tryd.underlying24 (by kernel_rfl) (OpensF.cons rfl (by kernel_rfl) (haveI : Inhabited (ByteArray) := ⟨(⟨#[]⟩ : ByteArray)⟩; Opens.slice Tryd.underlying22 (by kernel_rfl) (Opens.mono (Opens.string Tryd.underlying9) (fun _ h => h))) (OpensF.one rfl (by kernel_rfl) (haveI : Inhabited (ByteArray) := ⟨(⟨#[]⟩ : ByteArray)⟩; Opens.slice Tryd.underlying22 (by kernel_rfl) (Opens.mono (Opens.string Tryd.underlying9) (fun _ h => h)))))) (fun x h => h)
end Go.Proofs.YtjpjlobpglmoiaaDoor.A
/- The reference's search for a name in a scope. No conditions. -/
namespace Go.Proofs.YtjpjlobpglmoiaaDoor.A
open Go.RowKit Go.Proofs.YtjpjlobpglmoiaaDoorW.PrintWords Go.Proofs.YtjpjlobpglmoiaaDoorW.PrintLast Go.Proofs.YtjpjlobpglmoiaaDoorW.PrintMore
set_option linter.unusedVariables false
set_option linter.unusedSimpArgs false
/-- The index of a name from i on, or -1. -/
def findI : List ByteArray → ByteArray → Nat → Int
  | [], _, _ => -1
  | x :: l, s, i => if x.toList = s.toList then (i : Int) else findI l s (i + 1)
set_option maxHeartbeats 3200000 in
set_option maxRecDepth 100000 in
theorem findI.calls (g : Nat) (A0 A1 : Option Addr) (c0 c1 : Nat) (l0 l1 : List ByteArray) (s : ByteArray) (w : World) (hb : w.heap[g]? = some (.cells #[.slice A0 l0.length c0, .slice A1 l1.length c1] 27 (0, 0))) (hr0 : Kd.C Kd.string w A0 l0.length l0) :
    Calls Tryd.prog 79 #[.pointer (some ⟨g, 0, none⟩), .string s] w fun e w' => e = .returned (.int .i64 (findI l0 s 0)) ∧ Drawn0 w w' := by
  obtain ⟨R, hR⟩ : ∃ R, findI l0 s 0 = R := ⟨_, rfl⟩
  rw [hR]
  have HB := Aside0.mk hb
  have HR0 := Aside0.mk hr0
  have HF := Aside0.mk hR
  have hlen := Kd.C_max hr0
  clear hb hr0 hR
  go_enter Tryd.func79, Tryd.ntmps79
  go_wp2
  go_loopw [5] (fun v5 wr => ∃ k : Nat, k ≤ l0.length ∧ v5 = .int .i64 (k : Int) ∧ Aside0 (findI (l0.drop k) s k = R) ∧ Aside0 (Drawn0 w wr)) (fun v5 _ => l0.length - (intOf v5).toNat)
  case atStart => exact ⟨0, Nat.zero_le _, rfl, HF, ⟨⟨0, rfl⟩⟩⟩
  case round =>
    obtain ⟨k, hk, rfl, HA, HD⟩ := hrel
    have hbr := HB.out
    have z0 : wr.cell? ⟨g, 0, none⟩ = some (.slice A0 l0.length c0) := by obtain ⟨m, rfl⟩ := HD.out; exact (blk_cell hbr 0).trans rfl
    clear hbr
    by_cases hlt : k < l0.length
    · obtain ⟨ad, rfl, hx0⟩ := Kd.at_string HR0.out (k : Int) (by omega) (by omega)
      rw [Int.toNat_natCast] at hx0
      have hn : (rdOf ByteArray.empty l0 (k : Int)) = l0[k]'hlt := by simp [rdOf, hlt]
      obtain ⟨nm, hnm⟩ : ∃ nm, l0[k]'hlt = nm := ⟨_, rfl⟩
      rw [hn, hnm] at hx0
      have hD := HD.out
      replace hx0 : wr.cell? (ad.add k) = some (.string nm) := by obtain ⟨m, rfl⟩ := hD; exact hx0
      have i0 : (0 : Int) ≤ (k : Int) := by omega
      have i1 : (k : Int) < (l0.length : Int) := by omega
      have hA := HA.out
      rw [List.drop_eq_getElem_cons hlt, hnm] at hA
      simp only [findI] at hA
      clear hD hn hnm HA
      by_cases e : nm.toList = s.toList
      · rw [if_pos e] at hA
        have HA := Aside0.mk hA
        have eb : (nm.toList == s.toList) = true := beq_iff_eq.2 e
        clear hA e
        go_wp2
        go_ret
        exact ⟨by rw [← HA.out]; rfl, HD.out⟩
      · rw [if_neg e] at hA
        have HA := Aside0.mk hA
        have eb : (nm.toList == s.toList) = false := beq_eq_false_iff_ne.2 e
        clear hA e
        go_wp2
        exact ⟨⟨k + 1, by omega, by go_num, HA, HD⟩, by simp [intOf]; omega⟩
    · have hA := HA.out
      rw [List.drop_of_length_le (by omega)] at hA
      simp only [findI] at hA
      have HA := Aside0.mk hA
      clear hA
      go_wp2
      go_ret
      exact ⟨by rw [← HA.out]; rfl, HD.out⟩
end Go.Proofs.YtjpjlobpglmoiaaDoor.A
/- The reference's setting of a wave in a scope. No conditions. -/
namespace Go.Proofs.YtjpjlobpglmoiaaDoor.A
open Go.RowKit Go.Proofs.YtjpjlobpglmoiaaDoorW.PrintWords Go.Proofs.YtjpjlobpglmoiaaDoorW.PrintLast Go.Proofs.YtjpjlobpglmoiaaDoorW.PrintMore
set_option linter.unusedVariables false
set_option linter.unusedSimpArgs false
theorem drawn_trans {a b c : World} (h : Drawn0 a b) (k : Drawn0 b c) : Drawn0 a c := by obtain ⟨m, rfl⟩ := k; exact h.step m
/-- A scope in memory, with lists of its own. -/
structure SC (b g : Nat) (N V : List ByteArray) (w : World) : Prop where
  ex : ∃ v0 v1 : Value, w.heap[g]? = some (.cells #[v0, v1] 27 (0, 0)) ∧ Kd.R Kd.string 9 w b (fun k => some k = v0.ownBlock) v0 N ∧ Kd.R Kd.string 9 w b (fun k => some k = v1.ownBlock) v1 V ∧ (∀ k, v0.ownBlock = some k → v1.ownBlock ≠ some k)
  low : b ≤ g
/-- Blocks that are no texts' rows stay, but one. -/
structure KT (g : Nat) (w w' : World) : Prop where
  size : w.heap.size ≤ w'.heap.size
  block : ∀ i cells t, w.heap[i]? = some (.cells cells t (0, 0)) → t ≠ 9 → i ≠ g → w'.heap[i]? = w.heap[i]?
theorem KT.refl (g : Nat) (w : World) : KT g w w := ⟨Nat.le_refl _, fun _ _ _ _ _ _ => rfl⟩
theorem KT.trans {g : Nat} {a b c : World} (h : KT g a b) (k : KT g b c) : KT g a c := ⟨Nat.le_trans h.size k.size, fun i cells t hi ht hg => by
  have e := h.block i cells t hi ht hg
  exact (k.block i cells t (e.trans hi) ht hg).trans e⟩
theorem KT.below {g : Nat} {a b : World} (h : Below a.heap.size a b) : KT g a b := ⟨h.size, fun i cells t hi _ _ => h.block i (blk_lt hi)⟩
theorem KT.set {g : Nat} {a : World} (j : Nat) (u : Value) : KT g a (a.setCell ⟨g, j, none⟩ u) := ⟨by simp [World.setCell], fun i cells t hi ht hg => Below.heap_setCell a ⟨g, j, none⟩ u i hg⟩
theorem KT.grown {g : Nat} {a b : World} {v : Value} {base : Nat} {ok : Nat → Prop} {xs : List ByteArray} (hR : Kd.R Kd.string 9 a base ok v xs) (h : a.grownBy b v.ownBlock) : KT g a b := ⟨h.size, fun i cells t hi ht hg => h.block i (blk_lt hi) (fun e => by
  obtain ⟨c, hc⟩ := Kd.R_typed hR i e.symm
  rw [hi] at hc
  injection hc with hc
  injection hc with _ h2
  exact ht h2)⟩
theorem R_own_ne {w : World} {base : Nat} {ok : Nat → Prop} {v : Value} {xs : List ByteArray} {g : Nat} {cells : Array Value} {t : Nat} (hR : Kd.R Kd.string 9 w base ok v xs) (hg : w.heap[g]? = some (.cells cells t (0, 0))) (ht : t ≠ 9) : ∀ k, some k = v.ownBlock → k ≠ g := fun k e e2 => by
  subst e2
  obtain ⟨c, hc⟩ := Kd.R_typed hR k e.symm
  rw [hg] at hc
  injection hc with hc
  injection hc with _ h2
  exact ht h2
/-- Whatever keeps rows of texts and the scope's block keeps the scope. -/
theorem SC.keep {b g gs : Nat} {N V : List ByteArray} {w w' : World} {cells : Array Value} {t : Nat} (h : SC b g N V w) (hk : KeepBut w w' gs none) (hs : w.heap[gs]? = some (.cells cells t (0, 0))) (ht : t ≠ 9) (hg : g ≠ gs) : SC b g N V w' := by
  obtain ⟨v0, v1, hb, h0, h1, h2⟩ := h.ex
  exact ⟨⟨v0, v1, (hk.2 g (blk_lt hb) hg (by simp)).trans hb, Kd.R_step h0 (fun k e hlt => hk.2 k hlt (R_own_ne h0 hs ht k e) (by simp)), Kd.R_step h1 (fun k e hlt => hk.2 k hlt (R_own_ne h1 hs ht k e) (by simp)), h2⟩, h.low⟩
theorem SC.below {b g : Nat} {N V : List ByteArray} {w w' : World} (h : SC b g N V w) (hk : Below w.heap.size w w') : SC b g N V w' := by
  obtain ⟨v0, v1, hb, h0, h1, h2⟩ := h.ex
  exact ⟨⟨v0, v1, (hk.block g (blk_lt hb)).trans hb, Kd.R_below h0 hk, Kd.R_below h1 hk, h2⟩, h.low⟩
/-- The place of a name among those that are less. -/
def posI : List ByteArray → ByteArray → Nat
  | [], _ => 0
  | x :: l, s => if Op.bytesLess x.toList s.toList = true then posI l s + 1 else 0
def noB : ByteArray := ⟨#[110, 111]⟩
def okB : ByteArray := ⟨#[111, 107]⟩
def setF (N V : List ByteArray) (name wave : ByteArray) : List ByteArray × List ByteArray × ByteArray :=
  if waveB wave = false then (N, V, noB)
  else if 0 ≤ findI N name 0 then (N, V.set (findI N name 0).toNat wave, okB)
  else if nameB name = false ∨ 6 ≤ N.length then (N, V, noB)
  else (N.take (posI N name) ++ [name] ++ N.drop (posI N name), V.take (posI N name) ++ [wave] ++ V.drop (posI N name), okB)
theorem findI_lt : ∀ (l : List ByteArray) (s : ByteArray) (i : Nat), 0 ≤ findI l s i → findI l s i < i + l.length
  | [], s, i, h => by simp [findI] at h
  | x :: l, s, i, h => by
    simp only [findI] at h ⊢
    by_cases e : x.toList = s.toList
    · rw [if_pos e] at h ⊢; simp only [List.length_cons]; omega
    · rw [if_neg e] at h ⊢
      have := findI_lt l s (i + 1) h
      simp only [List.length_cons]; omega
theorem posI_le : ∀ (l : List ByteArray) (s : ByteArray), posI l s ≤ l.length
  | [], s => Nat.le_refl _
  | x :: l, s => by
    simp only [posI]
    have := posI_le l s
    split <;> simp only [List.length_cons] <;> omega
abbrev Rw := Value × List ByteArray
/-- Rows of texts of one's own, none of which is another one, beside a scope's block. -/
structure St (b : Nat) (w : World) (g : Nat) (cs : Array Value) (L : List Rw) (W : World) : Prop where
  bel : Below b w W
  lo : b ≤ w.heap.size ∧ KT g w W
  blk : W.heap[g]? = some (.cells cs 27 (0, 0))
  rows : ∀ p ∈ L, Kd.R Kd.string 9 W b (fun k => some k = p.1.ownBlock) p.1 p.2
  dis : L.Pairwise (fun p q => ∀ k, p.1.ownBlock = some k → q.1.ownBlock ≠ some k)
/-- Blocks that are none of these rows. -/
def okS (L : List Rw) (k : Nat) : Prop := ∀ p ∈ L, some k ≠ p.1.ownBlock
theorem St.base {b : Nat} {w : World} {g : Nat} {cs : Array Value} {L : List Rw} {W : World} (h : St b w g cs L W) : b ≤ W.heap.size := Nat.le_trans h.lo.1 h.bel.size
theorem St.perm {b : Nat} {w : World} {g : Nat} {cs : Array Value} {L L' : List Rw} {W : World} (h : St b w g cs L W) (hp : L.Perm L') : St b w g cs L' W :=
  ⟨h.bel, h.lo, h.blk, fun p hm => h.rows p (hp.mem_iff.2 hm), (hp.pairwise_iff (fun {x y} hxy k e1 e2 => hxy k e2 e1)).1 h.dis⟩
theorem St.fresh {b : Nat} {w : World} {g : Nat} {cs : Array Value} {L : List Rw} {W : World} (h : St b w g cs L W) : ∀ k, W.heap.size ≤ k → okS L k := fun k hk p hm e => by
  have := Kd.R_lt (h.rows p hm) k e.symm
  omega
theorem St.tail {b : Nat} {w : World} {g : Nat} {cs : Array Value} {p : Rw} {L : List Rw} {W : World} (h : St b w g cs (p :: L) W) : St b w g cs L W := ⟨h.bel, h.lo, h.blk, fun q hm => h.rows q (List.mem_cons_of_mem _ hm), (List.pairwise_cons.1 h.dis).2⟩
theorem St.head {b : Nat} {w : World} {g : Nat} {cs : Array Value} {v : Value} {xs : List ByteArray} {L : List Rw} {W : World} (h : St b w g cs ((v, xs) :: L) W) : Kd.R Kd.string 9 W b (okS L) v xs :=
  Kd.R_mono (h.rows _ (List.mem_cons_self ..)) (fun k e p hm e2 => (List.pairwise_cons.1 h.dis).1 p hm k e.symm e2.symm)
theorem St.below {b : Nat} {w : World} {g : Nat} {cs : Array Value} {L : List Rw} {W W' : World} (h : St b w g cs L W) (hb : Below W.heap.size W W') : St b w g cs L W' :=
  ⟨h.bel.trans (hb.mono (Nat.le_trans h.lo.1 h.bel.size)), ⟨h.lo.1, h.lo.2.trans (KT.below hb)⟩, (hb.block g (blk_lt h.blk)).trans h.blk, fun p hm => Kd.R_below (h.rows p hm) hb, h.dis⟩
theorem St.lit {b : Nat} {w : World} {g : Nat} {cs : Array Value} {L : List Rw} {W w1 : World} {v1 : Value} {ys : List ByteArray} (h : St b w g cs L W) (hR : Kd.R Kd.string 9 w1 b (okS L) v1 ys) (hB : Below b w w1) (hg : W.grownBy w1 none) : St b w g cs ((v1, ys) :: L) w1 :=
  ⟨hB, ⟨h.lo.1, h.lo.2.trans ⟨hg.size, fun i cells t hi _ _ => hg.block i (blk_lt hi) (by simp)⟩⟩, blk_grown h.blk hg (by simp), fun p hm => by
    rcases List.mem_cons.1 hm with rfl | hm
    · exact Kd.R_tight rfl hR
    · exact Kd.R_grown (h.rows p hm) hg (fun _ _ => by simp),
   List.pairwise_cons.2 ⟨fun p hm k e e2 => hR.1 k e p hm e2.symm, h.dis⟩⟩
theorem St.grow {b : Nat} {w : World} {g : Nat} {cs : Array Value} {L : List Rw} {W w1 : World} {v v1 : Value} {xs ys : List ByteArray} (h : St b w g cs ((v, xs) :: L) W) (hR : Kd.R Kd.string 9 w1 b (okS L) v1 ys) (hB : Below b w w1) (hg : W.grownBy w1 v.ownBlock) : St b w g cs ((v1, ys) :: L) w1 :=
  ⟨hB, ⟨h.lo.1, h.lo.2.trans (KT.grown (h.rows _ (List.mem_cons_self ..)) hg)⟩, blk_grown h.blk hg (fun e => R_own_ne (h.rows _ (List.mem_cons_self ..)) h.blk (by decide) g e rfl), fun p hm => by
    rcases List.mem_cons.1 hm with rfl | hm
    · exact Kd.R_tight rfl hR
    · exact Kd.R_grown (h.rows p (List.mem_cons_of_mem _ hm)) hg (fun k e e2 => (List.pairwise_cons.1 h.dis).1 p hm k e2.symm e.symm),
   List.pairwise_cons.2 ⟨fun p hm k e e2 => hR.1 k e p hm e2.symm, (List.pairwise_cons.1 h.dis).2⟩⟩
theorem St.two {b : Nat} {w : World} {g : Nat} {cs : Array Value} {v0 v1 : Value} {N V : List ByteArray} (hB : b ≤ w.heap.size) (hb : w.heap[g]? = some (.cells cs 27 (0, 0))) (h0 : Kd.R Kd.string 9 w b (fun k => some k = v0.ownBlock) v0 N) (h1 : Kd.R Kd.string 9 w b (fun k => some k = v1.ownBlock) v1 V) (hd : ∀ k, v0.ownBlock = some k → v1.ownBlock ≠ some k) : St b w g cs [(v0, N), (v1, V)] w :=
  ⟨⟨rfl, rfl, rfl, Nat.le_refl _, fun _ _ => rfl⟩, ⟨hB, KT.refl g w⟩, hb, fun p hm => by
    simp only [List.mem_cons, List.not_mem_nil, or_false] at hm
    rcases hm with rfl | rfl
    · exact h0
    · exact h1,
   List.pairwise_cons.2 ⟨fun p hm => by
    simp only [List.mem_cons, List.not_mem_nil, or_false] at hm
    subst hm
    exact hd, List.pairwise_cons.2 ⟨fun p hm => by simp at hm, List.Pairwise.nil⟩⟩⟩
theorem St.put {b : Nat} {w : World} {g : Nat} {cs : Array Value} {L : List Rw} {W : World} (h : St b w g cs L W) (hg : b ≤ g) (j : Nat) (u : Value) {cs' : Array Value} (hc : cs.setIfInBounds j u = cs') (hW : (W.setCell ⟨g, j, none⟩ u).heap[g]? = some (.cells cs' 27 (0, 0))) : St b w g cs' L (W.setCell ⟨g, j, none⟩ u) :=
  ⟨h.bel.setCell hg _, ⟨h.lo.1, h.lo.2.trans (KT.set j u)⟩, hW, fun p hm => Kd.R_step (h.rows p hm) (fun k e hk => Below.heap_setCell _ _ _ _ (R_own_ne (h.rows p hm) h.blk (by decide) k e)), h.dis⟩
set_option maxHeartbeats 3200000 in
set_option maxRecDepth 100000 in
theorem setF.calls (b g : Nat) (N V : List ByteArray) (name wave : ByteArray) (N' V' : List ByteArray) (r : ByteArray) (w : World) (hS : SC b g N V w) (hB : b ≤ w.heap.size) (hl : V.length = N.length) (hn : name.size ≤ 9223372036854775807) (hw : wave.size ≤ 9223372036854775807) (h : setF N V name wave = (N', V', r)) :
    Calls Tryd.prog 63 #[.pointer (some ⟨g, 0, none⟩), .string name, .string wave, .bool true] w fun e w' => e = .returned (.string r) ∧ SC b g N' V' w' ∧ Below b w w' ∧ KT g w w' := by
  obtain ⟨kn, hkn⟩ := name_is name hn
  obtain ⟨kw, hkw⟩ := wave_is wave hw
  have HS := Aside0.mk hS
  have HB := Aside0.mk hB
  clear hS hB hn hw
  obtain ⟨v0, v1, hb, h0, h1, h2⟩ := HS.out.ex
  obtain ⟨A0, c0, rfl, hc0, hC0⟩ := Kd.R_reads h0
  obtain ⟨A1, c1, rfl, hc1, hC1⟩ := Kd.R_reads h1
  have hlen := Kd.C_max hC0
  have HBK := Aside0.mk hb
  have HR0 := Aside0.mk h0
  have HR1 := Aside0.mk h1
  have HC0 := Aside0.mk hC0
  have HD := Aside0.mk h2
  clear hb h0 h1 h2 hC0 hC1
  unfold setF at h
  cases e1 : waveB wave with
  | false =>
    rw [if_pos e1] at h
    simp only [Prod.mk.injEq] at h
    obtain ⟨rfl, rfl, rfl⟩ := h
    rw [e1] at hkw
    have HW := Aside0.mk hkw
    clear e1 hkw hkn
    go_enter Tryd.func63, Tryd.ntmps63
    go_wp2_with (first
      | (go_at_call 49; refine (spec_l01Wave.calls kw wave false _ HW.out).mono ?_; rintro e wa ⟨rfl, hd⟩; have HDA := Aside0.mk (below_drawn (Below.refl w.heap.size w) hd); clear hd))
    go_ret
    exact ⟨rfl, HS.out.below HDA.out, HDA.out.mono HB.out, KT.below HDA.out⟩
  | true =>
    rw [e1] at h hkw
    simp only [Bool.true_eq_false, if_false] at h
    have HW := Aside0.mk hkw
    clear e1 hkw
    obtain ⟨K, hK⟩ : ∃ K, findI N name 0 = K := ⟨_, rfl⟩
    have hKlt := findI_lt N name 0
    rw [hK] at h hKlt
    have HK := Aside0.mk hK
    clear hK
    by_cases e2 : 0 ≤ K
    · rw [if_pos e2] at h
      simp only [Prod.mk.injEq] at h
      obtain ⟨rfl, rfl, rfl⟩ := h
      have hKl := hKlt e2
      have e2b : decide (0 ≤ K) = true := decide_eq_true e2
      have hKv : K < (V.length : Int) := by omega
      obtain ⟨g1, p1, ev1, -, -, -⟩ := Kd.R_form HR1.out (by omega)
      injection ev1 with ev1 ev2 ev3
      subst ev1
      subst ev3
      have HZ1 := Aside0.mk ((blk_cell HBK.out 1).trans rfl : w.cell? ⟨g, 1, none⟩ = some (.slice (some ⟨g1, 0, none⟩) V.length c1))
      have HF1 := Aside0.mk (Kd.R_celln ByteArray.empty HR1.out K e2 hKv)
      clear hkn ev2
      go_enter Tryd.func63, Tryd.ntmps63
      go_wp2_with (first
        | (go_at_call 49; refine (spec_l01Wave.calls kw wave true _ HW.out).mono ?_; rintro e wa ⟨rfl, hd⟩; have HDA := Aside0.mk hd; clear hd)
        | (go_at_call 79; go_loud ((with_reducible refine (findI.calls g A0 (some ⟨g1, 0, none⟩) c0 c1 N V name wa ?hb ?hr).mono ?_); (case hb => have h_ := HBK.out; obtain ⟨m_, rfl⟩ := HDA.out; exact h_); (case hr => obtain ⟨m_, rfl⟩ := HDA.out; exact Kd.C_drewN HC0.out m_); rintro e wb ⟨rfl, hd⟩; have HDB := Aside0.mk (drawn_trans HDA.out hd); clear hd; rw [HK.out]; have z1 : wb.cell? ⟨g, 1, none⟩ = some (.slice (some ⟨g1, 0, none⟩) V.length c1) := (by obtain ⟨m_, rfl⟩ := HDB.out; exact HZ1.out); have f1 : wb.frozen? ⟨g1, K.toNat, none⟩ = false := (by obtain ⟨m_, rfl⟩ := HDB.out; exact HF1.out.2); have f2 : wb.cell? ⟨g1, K.toNat, none⟩ = some (.string (rdOf ByteArray.empty V K)) := (by obtain ⟨m_, rfl⟩ := HDB.out; exact HF1.out.1))))
      go_ret
      have hg1 : g ≠ g1 := fun e => R_own_ne HR1.out HBK.out (by decide) g1 (by simp [Value.ownBlock]) e.symm
      have HBW := below_drawn (Below.refl w.heap.size w) HDB.out
      have hBb := HBW.mono HB.out
      have hs := (HS.out.below HBW)
      have hR1 := Kd.R_below HR1.out HBW
      have hR0 := Kd.R_below HR0.out HBW
      have hP := Kd.R_putg hR1 K wave
      refine ⟨rfl, ⟨⟨_, _, (blk_far ((HBW.block g (blk_lt HBK.out)).trans HBK.out) hg1 _), ?_, ?_, HD.out⟩, HS.out.low⟩, ?_, (KT.below HBW).trans (KT.grown (v := .slice (some ⟨g1, 0, none⟩) V.length c1) hR1 hP.2)⟩
      · exact Kd.R_step hR0 (fun k e hk => Below.heap_setCell _ _ _ _ (fun e2 => HD.out k e.symm (by rw [e2]; simp [Value.ownBlock])))
      · exact hP.1
      · exact hBb.setCell (Kd.R_base hR1 g1 (by simp [Value.ownBlock])) _
    · rw [if_neg e2] at h
      have e2b : decide (0 ≤ K) = false := decide_eq_false e2
      clear hKlt
      cases e3 : nameB name with
      | false =>
        rw [if_pos (.inl e3)] at h
        simp only [Prod.mk.injEq] at h
        obtain ⟨rfl, rfl, rfl⟩ := h
        rw [e3] at hkn
        have HN := Aside0.mk hkn
        clear hkn e3
        go_enter Tryd.func63, Tryd.ntmps63
        go_wp2_with (first
        | (go_at_call 49; refine (spec_l01Wave.calls kw wave true _ HW.out).mono ?_; rintro e wa ⟨rfl, hd⟩; have HDA := Aside0.mk hd; clear hd)
        | (go_at_call 79; (with_reducible refine (findI.calls g A0 A1 c0 c1 N V name wa ?hb ?hr).mono ?_); (case hb => have h_ := HBK.out; obtain ⟨m_, rfl⟩ := HDA.out; exact h_); (case hr => obtain ⟨m_, rfl⟩ := HDA.out; exact Kd.C_drewN HC0.out m_); rintro e wb ⟨rfl, hd⟩; have HDB := Aside0.mk (drawn_trans HDA.out hd); clear hd; rw [HK.out])
        | (go_at_call 48; refine (spec_IsName.calls kn name false _ HN.out).mono ?_; rintro e wc ⟨rfl, hd⟩; have HDC := Aside0.mk (drawn_trans HDB.out hd); clear hd; have z0 : wc.cell? ⟨g, 0, none⟩ = some (.slice A0 N.length c0) := (by have h_ := HBK.out; obtain ⟨m_, rfl⟩ := HDC.out; exact (blk_cell h_ 0).trans rfl)))
        go_ret
        have HBW := below_drawn (Below.refl w.heap.size w) HDC.out
        exact ⟨rfl, HS.out.below HBW, HBW.mono HB.out, KT.below HBW⟩
      | true =>
        rw [e3] at hkn h
        have HN := Aside0.mk hkn
        clear hkn e3
        by_cases e4 : 6 ≤ N.length
        · rw [if_pos (.inr e4)] at h
          simp only [Prod.mk.injEq] at h
          obtain ⟨rfl, rfl, rfl⟩ := h
          have e4b : decide ((6 : Int) ≤ (N.length : Int)) = true := decide_eq_true (by omega)
          have e4c : decide (6 ≤ N.length) = true := decide_eq_true e4
          go_enter Tryd.func63, Tryd.ntmps63
          go_wp2_with (first
        | (go_at_call 49; refine (spec_l01Wave.calls kw wave true _ HW.out).mono ?_; rintro e wa ⟨rfl, hd⟩; have HDA := Aside0.mk hd; clear hd)
        | (go_at_call 79; (with_reducible refine (findI.calls g A0 A1 c0 c1 N V name wa ?hb ?hr).mono ?_); (case hb => have h_ := HBK.out; obtain ⟨m_, rfl⟩ := HDA.out; exact h_); (case hr => obtain ⟨m_, rfl⟩ := HDA.out; exact Kd.C_drewN HC0.out m_); rintro e wb ⟨rfl, hd⟩; have HDB := Aside0.mk (drawn_trans HDA.out hd); clear hd; rw [HK.out])
        | (go_at_call 48; refine (spec_IsName.calls kn name true _ HN.out).mono ?_; rintro e wc ⟨rfl, hd⟩; have HDC := Aside0.mk (drawn_trans HDB.out hd); clear hd; have z0 : wc.cell? ⟨g, 0, none⟩ = some (.slice A0 N.length c0) := (by have h_ := HBK.out; obtain ⟨m_, rfl⟩ := HDC.out; exact (blk_cell h_ 0).trans rfl)))
          go_ret
          have HBW := below_drawn (Below.refl w.heap.size w) HDC.out
          exact ⟨rfl, HS.out.below HBW, HBW.mono HB.out, KT.below HBW⟩
        · rw [if_neg (fun z => z.elim (by simp) e4)] at h
          have e4b : decide ((6 : Int) ≤ (N.length : Int)) = false := decide_eq_false (by omega)
          have e4c : decide (6 ≤ N.length) = false := decide_eq_false e4
          obtain ⟨P, hP⟩ : ∃ P, posI N name = P := ⟨_, rfl⟩
          have hPl := posI_le N name
          rw [hP] at h hPl
          have HP := Aside0.mk hP
          have H := Aside0.mk h
          clear h hP
          go_enter Tryd.func63, Tryd.ntmps63
          go_wp2_with (first
        | (go_at_call 49; refine (spec_l01Wave.calls kw wave true _ HW.out).mono ?_; rintro e wa ⟨rfl, hd⟩; have HDA := Aside0.mk hd; clear hd)
        | (go_at_call 79; (with_reducible refine (findI.calls g A0 A1 c0 c1 N V name wa ?hb ?hr).mono ?_); (case hb => have h_ := HBK.out; obtain ⟨m_, rfl⟩ := HDA.out; exact h_); (case hr => obtain ⟨m_, rfl⟩ := HDA.out; exact Kd.C_drewN HC0.out m_); rintro e wb ⟨rfl, hd⟩; have HDB := Aside0.mk (drawn_trans HDA.out hd); clear hd; rw [HK.out])
        | (go_at_call 48; refine (spec_IsName.calls kn name true _ HN.out).mono ?_; rintro e wc ⟨rfl, hd⟩; have HDC := Aside0.mk (drawn_trans HDB.out hd); clear hd; have z0 : wc.cell? ⟨g, 0, none⟩ = some (.slice A0 N.length c0) := (by have h_ := HBK.out; obtain ⟨m_, rfl⟩ := HDC.out; exact (blk_cell h_ 0).trans rfl)))
          clear z0
          go_loopw [10] (fun v10 wr => ∃ k : Nat, k ≤ N.length ∧ v10 = .int .i64 (k : Int) ∧ Aside0 (k + posI (N.drop k) name = P) ∧ Aside0 (Drawn0 w wr)) (fun v10 _ => N.length - (intOf v10).toNat)
          case atStart => exact ⟨0, Nat.zero_le _, rfl, ⟨by rw [Nat.zero_add]; exact HP.out⟩, HDC⟩
          case round =>
            obtain ⟨k, hk, rfl, HA, HW2⟩ := hrel
            have z0 : wr.cell? ⟨g, 0, none⟩ = some (.slice A0 N.length c0) := by have h_ := HBK.out; obtain ⟨m_, rfl⟩ := HW2.out; exact (blk_cell h_ 0).trans rfl
            by_cases hlt : k < N.length
            · have hb1 : decide ((k : Int) < (N.length : Int)) = true := decide_eq_true (by omega)
              obtain ⟨ad, rfl, hx0⟩ := Kd.at_string HC0.out (k : Int) (by omega) (by omega)
              rw [Int.toNat_natCast] at hx0
              have hn : (rdOf ByteArray.empty N (k : Int)) = N[k]'hlt := by simp [rdOf, hlt]
              obtain ⟨nm, hnm⟩ : ∃ nm, N[k]'hlt = nm := ⟨_, rfl⟩
              rw [hn, hnm] at hx0
              replace hx0 : wr.cell? (ad.add k) = some (.string nm) := by obtain ⟨m, rfl⟩ := HW2.out; exact hx0
              have i0 : (0 : Int) ≤ (k : Int) := by omega
              have i1 : (k : Int) < (N.length : Int) := by omega
              have hA := HA.out
              rw [List.drop_eq_getElem_cons hlt, hnm] at hA
              simp only [posI] at hA
              clear hn hnm HA
              cases el : Op.bytesLess nm.toList name.toList with
              | true =>
                rw [el] at hA
                simp only [if_true] at hA
                have HA := Aside0.mk (show k + 1 + posI (N.drop (k + 1)) name = P by omega)
                clear hA
                go_wp2
                exact ⟨⟨k + 1, by omega, by go_num, HA, HW2⟩, by simp [intOf]; omega⟩
              | false =>
                rw [el] at hA
                simp only [Bool.false_eq_true, if_false, Nat.add_zero] at hA
                subst hA
                have HL := Aside0.mk hl
                have S0 := Aside0.mk ((St.two HB.out HBK.out HR0.out HR1.out HD.out).below (below_drawn (Below.refl w.heap.size w) HW2.out))
                obtain ⟨i09, hi09, _, hsz9, _⟩ := info_parts info9
                have k0 : (0 : Int) ≤ (k : Int) := by omega
                have k1 : (k : Int) ≤ (N.length : Int) := by omega
                have k2 : (k : Int) ≤ (V.length : Int) := by omega
                have hcut1 := cut_to (P := Tryd.prog) 22 9 .i64 Tryd.underlying22 hi09 (some ad) N.length c0 (k : Int) k0 k1 hc0
                have hcut2 := cut_to (P := Tryd.prog) 22 9 .i64 Tryd.underlying22 hi09 A1 V.length c1 (k : Int) k0 k2 hc1
                have hcut3 := cut_from (P := Tryd.prog) 22 9 .i64 Tryd.underlying22 hi09 1 hsz9 (some ad) N.length c0 (k : Int) k0 k1
                have hcut4 := cut_from (P := Tryd.prog) 22 9 .i64 Tryd.underlying22 hi09 1 hsz9 A1 V.length c1 (k : Int) k0 k2
                rw [Int.toNat_natCast] at hcut1 hcut2 hcut3 hcut4
                have KV := Aside0.mk (show k ≤ V.length by omega)
                have KN := Aside0.mk (show N.length < 6 by omega)
                have KM := Aside0.mk hk
                clear hl hi09 hsz9 e4 hPl
                obtain ⟨AN, hAN⟩ : ∃ AN, (if c0 = k then (some ad) else (some ad).map (·.add (k * 1))) = AN := ⟨_, rfl⟩
                obtain ⟨AV, hAV⟩ : ∃ AV, (if c1 = k then A1 else A1.map (·.add (k * 1))) = AV := ⟨_, rfl⟩
                rw [hAN] at hcut3
                rw [hAV] at hcut4
                have HAN := Aside0.mk hAN
                have HAV := Aside0.mk hAV
                have HC0' := Aside0.mk hc0
                have HC1' := Aside0.mk hc1
                clear hAN hAV hc0 hc1
                have z0 : wr.cell? ⟨g, 0, none⟩ = some (.slice (some ad) N.length c0) := (blk_cell S0.out.blk 0).trans rfl
                go_wp2_with (first
                  | ((with_reducible refine gate_dst (N := 63) rfl ?_); refine Kd.R_lit Kd.string b 9 ?hg (N := 63) ?hd (w0 := w) (xs := ([] : List ByteArray)) (inner := []) (ok := okS [(.slice (some ad) N.length c0, N), (.slice A1 V.length c1, V)]) (okp := fun _ => False) ?hr ?hp (fun _ hk => hk.elim) ?hf S0.out.bel S0.out.base (by simp) ?_; (case hd => rfl); (case hg => rfl); (case hr => first | (go_simp; done) | (go_simp; rfl)); (case hp => exact Reps.none _ _); (case hf => exact S0.out.fresh _ (Nat.le_refl _)); intro v63 w1 ho hb hg_ hnew_; have S1 := Aside0.mk (S0.out.lit ho hb hg_); clear ho hb hg_ hnew_; have z0 : w1.cell? ⟨g, 0, none⟩ = some (.slice (some ad) N.length c0) := (blk_cell S1.out.blk 0).trans rfl)
                  | ((with_reducible refine gate_builtin (b := .append) (xs := #[.tmp 63, .tmp 69]) rfl ?_); at_builtin; refine Kd.R_append_rows Kd.string (w0 := w) b rfl (.tmp 63) (.tmp 69) 22 9 (.string ⟨#[]⟩) 16 rfl Tryd.underlying22 info9 rfl (by decide) (by omega) v63 [] (N.take k) (some ad) k _ (okS [(.slice (some ad) N.length c0, N), (.slice A1 V.length c1, V)]) (fun _ => False) rfl rfl ?aO ?aR (fun _ _ h => h) (fun _ h => h.elim) ?aF ?aB ?aS ?aL ?_; (case aO => exact S1.out.head); (case aR => exact (show Kd.C Kd.string _ (some ad) k (N.take k) from by (have h_ := Kd.C_take (m := k) (Kd.R_reads' (S1.out.rows (.slice (some ad) N.length c0, N) (by simp))).2.2 KM.out; rw [List.length_take, Nat.min_eq_left KM.out] at h_; exact h_))); (case aF => exact S1.out.tail.fresh); (case aB => exact S1.out.bel); (case aS => exact S1.out.base); (case aL => have h1_ := KN.out; have h2_ := KM.out; have h3_ := KV.out; have h4_ := HL.out; (try simp only [List.length_nil, List.length_append, List.length_take, List.length_cons]); omega); intro v70 w2 ho hb hg_ hat_; have S2 := Aside0.mk (S1.out.grow ho hb hg_); clear ho hb hg_ hat_)
                  | ((with_reducible refine gate_builtin (b := .append) (xs := #[.tmp 70, .tmp 72]) rfl ?_); at_builtin; refine Kd.R_append Kd.string (w0 := w) b rfl (.tmp 70) (.tmp 72) 22 9 (.string ⟨#[]⟩) 16 rfl Tryd.underlying22 info9 rfl (by decide) (by omega) v70 ([] ++ N.take k) name [.string name] (okS [(.slice (some ad) N.length c0, N), (.slice A1 V.length c1, V)]) (fun _ => False) rfl rfl ?aP (fun _ hk => hk.elim) ?aF ?aO ?aB ?aS ?aL ?_; (case aP => exact rfl); (case aF => exact S2.out.tail.fresh); (case aO => exact S2.out.head); (case aB => exact S2.out.bel); (case aS => exact S2.out.base); (case aL => have h1_ := KN.out; have h2_ := KM.out; have h3_ := KV.out; have h4_ := HL.out; (try simp only [List.length_nil, List.length_append, List.length_take, List.length_cons]); omega); intro v73 w3 ho hb hg_ hat_; have S3 := Aside0.mk (S2.out.grow ho hb hg_); clear ho hb hg_ hat_; skip)
                  | ((with_reducible refine gate_dst (N := 74) rfl ?_); refine Kd.R_lit Kd.string b 9 ?hg (N := 74) ?hd (w0 := w) (xs := ([] : List ByteArray)) (inner := []) (ok := okS [(v73, ([] ++ N.take k ++ [name])), (.slice (some ad) N.length c0, N), (.slice A1 V.length c1, V)]) (okp := fun _ => False) ?hr ?hp (fun _ hk => hk.elim) ?hf S3.out.bel S3.out.base (by simp) ?_; (case hd => rfl); (case hg => rfl); (case hr => first | (go_simp; done) | (go_simp; rfl)); (case hp => exact Reps.none _ _); (case hf => exact S3.out.fresh _ (Nat.le_refl _)); intro v74 w4 ho hb hg_ hnew_; have S4 := Aside0.mk (S3.out.lit ho hb hg_); clear ho hb hg_ hnew_; have z1 : w4.cell? ⟨g, 1, none⟩ = some (.slice A1 V.length c1) := (blk_cell S4.out.blk 1).trans rfl)
                  | ((with_reducible refine gate_builtin (b := .append) (xs := #[.tmp 74, .tmp 80]) rfl ?_); at_builtin; refine Kd.R_append_rows Kd.string (w0 := w) b rfl (.tmp 74) (.tmp 80) 22 9 (.string ⟨#[]⟩) 16 rfl Tryd.underlying22 info9 rfl (by decide) (by omega) v74 [] (V.take k) A1 k _ (okS [(v73, ([] ++ N.take k ++ [name])), (.slice (some ad) N.length c0, N), (.slice A1 V.length c1, V)]) (fun _ => False) rfl rfl ?aO ?aR (fun _ _ h => h) (fun _ h => h.elim) ?aF ?aB ?aS ?aL ?_; (case aO => exact S4.out.head); (case aR => exact (show Kd.C Kd.string _ A1 k (V.take k) from by (have h_ := Kd.C_take (m := k) (Kd.R_reads' (S4.out.rows (.slice A1 V.length c1, V) (by simp))).2.2 KV.out; rw [List.length_take, Nat.min_eq_left KV.out] at h_; exact h_))); (case aF => exact S4.out.tail.fresh); (case aB => exact S4.out.bel); (case aS => exact S4.out.base); (case aL => have h1_ := KN.out; have h2_ := KM.out; have h3_ := KV.out; have h4_ := HL.out; (try simp only [List.length_nil, List.length_append, List.length_take, List.length_cons]); omega); intro v81 w5 ho hb hg_ hat_; have S5 := Aside0.mk (S4.out.grow ho hb hg_); clear ho hb hg_ hat_)
                  | ((with_reducible refine gate_builtin (b := .append) (xs := #[.tmp 81, .tmp 83]) rfl ?_); at_builtin; refine Kd.R_append Kd.string (w0 := w) b rfl (.tmp 81) (.tmp 83) 22 9 (.string ⟨#[]⟩) 16 rfl Tryd.underlying22 info9 rfl (by decide) (by omega) v81 ([] ++ V.take k) wave [.string wave] (okS [(v73, ([] ++ N.take k ++ [name])), (.slice (some ad) N.length c0, N), (.slice A1 V.length c1, V)]) (fun _ => False) rfl rfl ?aP (fun _ hk => hk.elim) ?aF ?aO ?aB ?aS ?aL ?_; (case aP => exact rfl); (case aF => exact S5.out.tail.fresh); (case aO => exact S5.out.head); (case aB => exact S5.out.bel); (case aS => exact S5.out.base); (case aL => have h1_ := KN.out; have h2_ := KM.out; have h3_ := KV.out; have h4_ := HL.out; (try simp only [List.length_nil, List.length_append, List.length_take, List.length_cons]); omega); intro v84 w6 ho hb hg_ hat_; have S6 := Aside0.mk (S5.out.grow ho hb hg_); clear ho hb hg_ hat_; have S6' := Aside0.mk (S6.out.perm (List.Perm.swap ..)); have z0 : w6.cell? ⟨g, 0, none⟩ = some (.slice (some ad) N.length c0) := (blk_cell S6.out.blk 0).trans rfl)
                  | ((with_reducible refine gate_builtin (b := .append) (xs := #[.tmp 86, .tmp 92]) rfl ?_); at_builtin; refine Kd.R_append_rows Kd.string (w0 := w) b rfl (.tmp 86) (.tmp 92) 22 9 (.string ⟨#[]⟩) 16 rfl Tryd.underlying22 info9 rfl (by decide) (by omega) v73 ([] ++ N.take k ++ [name]) (N.drop k) AN (N.length - k) _ (okS [(v84, ([] ++ V.take k ++ [wave])), (.slice (some ad) N.length c0, N), (.slice A1 V.length c1, V)]) (fun _ => False) rfl rfl ?aO ?aR (fun _ _ h => h) (fun _ h => h.elim) ?aF ?aB ?aS ?aL ?_; (case aO => exact S6'.out.head); (case aR => exact (show Kd.C Kd.string _ AN (N.length - k) (N.drop k) from by (have h_ := Kd.C_drop (m := k) (Kd.R_reads' (S6'.out.rows (.slice (some ad) N.length c0, N) (by simp))).2.2 KM.out HC0'.out; rw [List.length_drop] at h_; rw [← HAN.out]; exact h_))); (case aF => exact S6'.out.tail.fresh); (case aB => exact S6'.out.bel); (case aS => exact S6'.out.base); (case aL => have h1_ := KN.out; have h2_ := KM.out; have h3_ := KV.out; have h4_ := HL.out; (try simp only [List.length_nil, List.length_append, List.length_take, List.length_cons]); omega); intro v93 w7 ho hb hg_ hat_; have S7 := Aside0.mk (S6'.out.grow ho hb hg_); obtain ⟨A93, n93, c93, e93⟩ : ∃ A n c, v93 = .slice A n c := (by obtain ⟨A_, c_, e_, -, -⟩ := Kd.R_reads ho; exact ⟨A_, _, c_, e_⟩); clear ho hb hg_ hat_; subst e93; have z0 : w7.cell? ⟨g, 0, none⟩ = some (.slice (some ad) N.length c0) := (blk_cell S7.out.blk 0).trans rfl; have f0 := blk_frozen S7.out.blk 0; have z1 : (w7.setCell ⟨g, 0, none⟩ (.slice A93 n93 c93)).cell? ⟨g, 1, none⟩ = some (.slice A1 V.length c1) := (blk_cell (blk_put S7.out.blk 0 _ rfl) 1).trans rfl; have S8 := Aside0.mk ((S7.out.put HS.out.low 0 (.slice A93 n93 c93) rfl (blk_put S7.out.blk 0 _ rfl)).perm (List.Perm.swap ..)))
                  | ((with_reducible refine gate_builtin (b := .append) (xs := #[.tmp 97, .tmp 103]) rfl ?_); at_builtin; refine Kd.R_append_rows Kd.string (w0 := w) b rfl (.tmp 97) (.tmp 103) 22 9 (.string ⟨#[]⟩) 16 rfl Tryd.underlying22 info9 rfl (by decide) (by omega) v84 ([] ++ V.take k ++ [wave]) (V.drop k) AV (V.length - k) _ (okS [(.slice A93 n93 c93, ([] ++ N.take k ++ [name] ++ N.drop k)), (.slice (some ad) N.length c0, N), (.slice A1 V.length c1, V)]) (fun _ => False) rfl rfl ?aO ?aR (fun _ _ h => h) (fun _ h => h.elim) ?aF ?aB ?aS ?aL ?_; (case aO => exact S8.out.head); (case aR => exact (show Kd.C Kd.string _ AV (V.length - k) (V.drop k) from by (have h_ := Kd.C_drop (m := k) (Kd.R_reads' (S8.out.rows (.slice A1 V.length c1, V) (by simp))).2.2 KV.out HC1'.out; rw [List.length_drop] at h_; rw [← HAV.out]; exact h_))); (case aF => exact S8.out.tail.fresh); (case aB => exact S8.out.bel); (case aS => exact S8.out.base); (case aL => have h1_ := KN.out; have h2_ := KM.out; have h3_ := KV.out; have h4_ := HL.out; (try simp only [List.length_nil, List.length_append, List.length_take, List.length_cons]); omega); intro v104 w9 ho hb hg_ hat_; have S9 := Aside0.mk (S8.out.grow ho hb hg_); obtain ⟨A94, n94, c94, e94⟩ : ∃ A n c, v104 = .slice A n c := (by obtain ⟨A_, c_, e_, -, -⟩ := Kd.R_reads ho; exact ⟨A_, _, c_, e_⟩); clear ho hb hg_ hat_; subst e94; have z2 : w9.cell? ⟨g, 1, none⟩ = some (.slice A1 V.length c1) := (blk_cell S9.out.blk 1).trans rfl; have f1 := blk_frozen S9.out.blk 1))
                go_ret
                have SF := S9.out.put HS.out.low 1 (.slice A94 n94 c94) rfl (blk_put S9.out.blk 1 _ rfl)
                have hh := H.out
                simp only [Prod.mk.injEq] at hh
                obtain ⟨rfl, rfl, rfl⟩ := hh
                exact ⟨rfl, ⟨⟨.slice A93 n93 c93, .slice A94 n94 c94, SF.blk, SF.rows (.slice A93 n93 c93, _) (List.mem_cons_of_mem _ (List.mem_cons_self ..)), SF.rows (.slice A94 n94 c94, _) (List.mem_cons_self ..), fun k e1 e2 => (List.pairwise_cons.1 SF.dis).1 (.slice A93 n93 c93, _) (List.mem_cons_self ..) k e2 e1⟩, HS.out.low⟩, SF.bel, SF.lo.2⟩
            · have hb1 : decide ((k : Int) < (N.length : Int)) = false := decide_eq_false (by omega)
              have hA := HA.out
              rw [List.drop_of_length_le (by omega)] at hA
              simp only [posI, Nat.add_zero] at hA
              subst hA
              have HL := Aside0.mk hl
              have S0 := Aside0.mk ((St.two HB.out HBK.out HR0.out HR1.out HD.out).below (below_drawn (Below.refl w.heap.size w) HW2.out))
              obtain ⟨i09, hi09, _, hsz9, _⟩ := info_parts info9
              have k0 : (0 : Int) ≤ (k : Int) := by omega
              have k1 : (k : Int) ≤ (N.length : Int) := by omega
              have k2 : (k : Int) ≤ (V.length : Int) := by omega
              have hcut1 := cut_to (P := Tryd.prog) 22 9 .i64 Tryd.underlying22 hi09 A0 N.length c0 (k : Int) k0 k1 hc0
              have hcut2 := cut_to (P := Tryd.prog) 22 9 .i64 Tryd.underlying22 hi09 A1 V.length c1 (k : Int) k0 k2 hc1
              have hcut3 := cut_from (P := Tryd.prog) 22 9 .i64 Tryd.underlying22 hi09 1 hsz9 A0 N.length c0 (k : Int) k0 k1
              have hcut4 := cut_from (P := Tryd.prog) 22 9 .i64 Tryd.underlying22 hi09 1 hsz9 A1 V.length c1 (k : Int) k0 k2
              rw [Int.toNat_natCast] at hcut1 hcut2 hcut3 hcut4
              have KV := Aside0.mk (show k ≤ V.length by omega)
              have KN := Aside0.mk (show N.length < 6 by omega)
              have KM := Aside0.mk hk
              clear hl hi09 hsz9 e4 hPl
              obtain ⟨AN, hAN⟩ : ∃ AN, (if c0 = k then A0 else A0.map (·.add (k * 1))) = AN := ⟨_, rfl⟩
              obtain ⟨AV, hAV⟩ : ∃ AV, (if c1 = k then A1 else A1.map (·.add (k * 1))) = AV := ⟨_, rfl⟩
              rw [hAN] at hcut3
              rw [hAV] at hcut4
              have HAN := Aside0.mk hAN
              have HAV := Aside0.mk hAV
              have HC0' := Aside0.mk hc0
              have HC1' := Aside0.mk hc1
              clear hAN hAV hc0 hc1
              have z0 : wr.cell? ⟨g, 0, none⟩ = some (.slice A0 N.length c0) := (blk_cell S0.out.blk 0).trans rfl
              go_wp2_with (first
                | ((with_reducible refine gate_dst (N := 63) rfl ?_); refine Kd.R_lit Kd.string b 9 ?hg (N := 63) ?hd (w0 := w) (xs := ([] : List ByteArray)) (inner := []) (ok := okS [(.slice A0 N.length c0, N), (.slice A1 V.length c1, V)]) (okp := fun _ => False) ?hr ?hp (fun _ hk => hk.elim) ?hf S0.out.bel S0.out.base (by simp) ?_; (case hd => rfl); (case hg => rfl); (case hr => first | (go_simp; done) | (go_simp; rfl)); (case hp => exact Reps.none _ _); (case hf => exact S0.out.fresh _ (Nat.le_refl _)); intro v63 w1 ho hb hg_ hnew_; have S1 := Aside0.mk (S0.out.lit ho hb hg_); clear ho hb hg_ hnew_; have z0 : w1.cell? ⟨g, 0, none⟩ = some (.slice A0 N.length c0) := (blk_cell S1.out.blk 0).trans rfl)
                | ((with_reducible refine gate_builtin (b := .append) (xs := #[.tmp 63, .tmp 69]) rfl ?_); at_builtin; refine Kd.R_append_rows Kd.string (w0 := w) b rfl (.tmp 63) (.tmp 69) 22 9 (.string ⟨#[]⟩) 16 rfl Tryd.underlying22 info9 rfl (by decide) (by omega) v63 [] (N.take k) A0 k _ (okS [(.slice A0 N.length c0, N), (.slice A1 V.length c1, V)]) (fun _ => False) rfl rfl ?aO ?aR (fun _ _ h => h) (fun _ h => h.elim) ?aF ?aB ?aS ?aL ?_; (case aO => exact S1.out.head); (case aR => exact (show Kd.C Kd.string _ A0 k (N.take k) from by (have h_ := Kd.C_take (m := k) (Kd.R_reads' (S1.out.rows (.slice A0 N.length c0, N) (by simp))).2.2 KM.out; rw [List.length_take, Nat.min_eq_left KM.out] at h_; exact h_))); (case aF => exact S1.out.tail.fresh); (case aB => exact S1.out.bel); (case aS => exact S1.out.base); (case aL => have h1_ := KN.out; have h2_ := KM.out; have h3_ := KV.out; have h4_ := HL.out; (try simp only [List.length_nil, List.length_append, List.length_take, List.length_cons]); omega); intro v70 w2 ho hb hg_ hat_; have S2 := Aside0.mk (S1.out.grow ho hb hg_); clear ho hb hg_ hat_)
                | ((with_reducible refine gate_builtin (b := .append) (xs := #[.tmp 70, .tmp 72]) rfl ?_); at_builtin; refine Kd.R_append Kd.string (w0 := w) b rfl (.tmp 70) (.tmp 72) 22 9 (.string ⟨#[]⟩) 16 rfl Tryd.underlying22 info9 rfl (by decide) (by omega) v70 ([] ++ N.take k) name [.string name] (okS [(.slice A0 N.length c0, N), (.slice A1 V.length c1, V)]) (fun _ => False) rfl rfl ?aP (fun _ hk => hk.elim) ?aF ?aO ?aB ?aS ?aL ?_; (case aP => exact rfl); (case aF => exact S2.out.tail.fresh); (case aO => exact S2.out.head); (case aB => exact S2.out.bel); (case aS => exact S2.out.base); (case aL => have h1_ := KN.out; have h2_ := KM.out; have h3_ := KV.out; have h4_ := HL.out; (try simp only [List.length_nil, List.length_append, List.length_take, List.length_cons]); omega); intro v73 w3 ho hb hg_ hat_; have S3 := Aside0.mk (S2.out.grow ho hb hg_); clear ho hb hg_ hat_; skip)
                | ((with_reducible refine gate_dst (N := 74) rfl ?_); refine Kd.R_lit Kd.string b 9 ?hg (N := 74) ?hd (w0 := w) (xs := ([] : List ByteArray)) (inner := []) (ok := okS [(v73, ([] ++ N.take k ++ [name])), (.slice A0 N.length c0, N), (.slice A1 V.length c1, V)]) (okp := fun _ => False) ?hr ?hp (fun _ hk => hk.elim) ?hf S3.out.bel S3.out.base (by simp) ?_; (case hd => rfl); (case hg => rfl); (case hr => first | (go_simp; done) | (go_simp; rfl)); (case hp => exact Reps.none _ _); (case hf => exact S3.out.fresh _ (Nat.le_refl _)); intro v74 w4 ho hb hg_ hnew_; have S4 := Aside0.mk (S3.out.lit ho hb hg_); clear ho hb hg_ hnew_; have z1 : w4.cell? ⟨g, 1, none⟩ = some (.slice A1 V.length c1) := (blk_cell S4.out.blk 1).trans rfl)
                | ((with_reducible refine gate_builtin (b := .append) (xs := #[.tmp 74, .tmp 80]) rfl ?_); at_builtin; refine Kd.R_append_rows Kd.string (w0 := w) b rfl (.tmp 74) (.tmp 80) 22 9 (.string ⟨#[]⟩) 16 rfl Tryd.underlying22 info9 rfl (by decide) (by omega) v74 [] (V.take k) A1 k _ (okS [(v73, ([] ++ N.take k ++ [name])), (.slice A0 N.length c0, N), (.slice A1 V.length c1, V)]) (fun _ => False) rfl rfl ?aO ?aR (fun _ _ h => h) (fun _ h => h.elim) ?aF ?aB ?aS ?aL ?_; (case aO => exact S4.out.head); (case aR => exact (show Kd.C Kd.string _ A1 k (V.take k) from by (have h_ := Kd.C_take (m := k) (Kd.R_reads' (S4.out.rows (.slice A1 V.length c1, V) (by simp))).2.2 KV.out; rw [List.length_take, Nat.min_eq_left KV.out] at h_; exact h_))); (case aF => exact S4.out.tail.fresh); (case aB => exact S4.out.bel); (case aS => exact S4.out.base); (case aL => have h1_ := KN.out; have h2_ := KM.out; have h3_ := KV.out; have h4_ := HL.out; (try simp only [List.length_nil, List.length_append, List.length_take, List.length_cons]); omega); intro v81 w5 ho hb hg_ hat_; have S5 := Aside0.mk (S4.out.grow ho hb hg_); clear ho hb hg_ hat_)
                | ((with_reducible refine gate_builtin (b := .append) (xs := #[.tmp 81, .tmp 83]) rfl ?_); at_builtin; refine Kd.R_append Kd.string (w0 := w) b rfl (.tmp 81) (.tmp 83) 22 9 (.string ⟨#[]⟩) 16 rfl Tryd.underlying22 info9 rfl (by decide) (by omega) v81 ([] ++ V.take k) wave [.string wave] (okS [(v73, ([] ++ N.take k ++ [name])), (.slice A0 N.length c0, N), (.slice A1 V.length c1, V)]) (fun _ => False) rfl rfl ?aP (fun _ hk => hk.elim) ?aF ?aO ?aB ?aS ?aL ?_; (case aP => exact rfl); (case aF => exact S5.out.tail.fresh); (case aO => exact S5.out.head); (case aB => exact S5.out.bel); (case aS => exact S5.out.base); (case aL => have h1_ := KN.out; have h2_ := KM.out; have h3_ := KV.out; have h4_ := HL.out; (try simp only [List.length_nil, List.length_append, List.length_take, List.length_cons]); omega); intro v84 w6 ho hb hg_ hat_; have S6 := Aside0.mk (S5.out.grow ho hb hg_); clear ho hb hg_ hat_; have S6' := Aside0.mk (S6.out.perm (List.Perm.swap ..)); have z0 : w6.cell? ⟨g, 0, none⟩ = some (.slice A0 N.length c0) := (blk_cell S6.out.blk 0).trans rfl)
                | ((with_reducible refine gate_builtin (b := .append) (xs := #[.tmp 86, .tmp 92]) rfl ?_); at_builtin; refine Kd.R_append_rows Kd.string (w0 := w) b rfl (.tmp 86) (.tmp 92) 22 9 (.string ⟨#[]⟩) 16 rfl Tryd.underlying22 info9 rfl (by decide) (by omega) v73 ([] ++ N.take k ++ [name]) (N.drop k) AN (N.length - k) _ (okS [(v84, ([] ++ V.take k ++ [wave])), (.slice A0 N.length c0, N), (.slice A1 V.length c1, V)]) (fun _ => False) rfl rfl ?aO ?aR (fun _ _ h => h) (fun _ h => h.elim) ?aF ?aB ?aS ?aL ?_; (case aO => exact S6'.out.head); (case aR => exact (show Kd.C Kd.string _ AN (N.length - k) (N.drop k) from by (have h_ := Kd.C_drop (m := k) (Kd.R_reads' (S6'.out.rows (.slice A0 N.length c0, N) (by simp))).2.2 KM.out HC0'.out; rw [List.length_drop] at h_; rw [← HAN.out]; exact h_))); (case aF => exact S6'.out.tail.fresh); (case aB => exact S6'.out.bel); (case aS => exact S6'.out.base); (case aL => have h1_ := KN.out; have h2_ := KM.out; have h3_ := KV.out; have h4_ := HL.out; (try simp only [List.length_nil, List.length_append, List.length_take, List.length_cons]); omega); intro v93 w7 ho hb hg_ hat_; have S7 := Aside0.mk (S6'.out.grow ho hb hg_); obtain ⟨A93, n93, c93, e93⟩ : ∃ A n c, v93 = .slice A n c := (by obtain ⟨A_, c_, e_, -, -⟩ := Kd.R_reads ho; exact ⟨A_, _, c_, e_⟩); clear ho hb hg_ hat_; subst e93; have z0 : w7.cell? ⟨g, 0, none⟩ = some (.slice A0 N.length c0) := (blk_cell S7.out.blk 0).trans rfl; have f0 := blk_frozen S7.out.blk 0; have z1 : (w7.setCell ⟨g, 0, none⟩ (.slice A93 n93 c93)).cell? ⟨g, 1, none⟩ = some (.slice A1 V.length c1) := (blk_cell (blk_put S7.out.blk 0 _ rfl) 1).trans rfl; have S8 := Aside0.mk ((S7.out.put HS.out.low 0 (.slice A93 n93 c93) rfl (blk_put S7.out.blk 0 _ rfl)).perm (List.Perm.swap ..)))
                | ((with_reducible refine gate_builtin (b := .append) (xs := #[.tmp 97, .tmp 103]) rfl ?_); at_builtin; refine Kd.R_append_rows Kd.string (w0 := w) b rfl (.tmp 97) (.tmp 103) 22 9 (.string ⟨#[]⟩) 16 rfl Tryd.underlying22 info9 rfl (by decide) (by omega) v84 ([] ++ V.take k ++ [wave]) (V.drop k) AV (V.length - k) _ (okS [(.slice A93 n93 c93, ([] ++ N.take k ++ [name] ++ N.drop k)), (.slice A0 N.length c0, N), (.slice A1 V.length c1, V)]) (fun _ => False) rfl rfl ?aO ?aR (fun _ _ h => h) (fun _ h => h.elim) ?aF ?aB ?aS ?aL ?_; (case aO => exact S8.out.head); (case aR => exact (show Kd.C Kd.string _ AV (V.length - k) (V.drop k) from by (have h_ := Kd.C_drop (m := k) (Kd.R_reads' (S8.out.rows (.slice A1 V.length c1, V) (by simp))).2.2 KV.out HC1'.out; rw [List.length_drop] at h_; rw [← HAV.out]; exact h_))); (case aF => exact S8.out.tail.fresh); (case aB => exact S8.out.bel); (case aS => exact S8.out.base); (case aL => have h1_ := KN.out; have h2_ := KM.out; have h3_ := KV.out; have h4_ := HL.out; (try simp only [List.length_nil, List.length_append, List.length_take, List.length_cons]); omega); intro v104 w9 ho hb hg_ hat_; have S9 := Aside0.mk (S8.out.grow ho hb hg_); obtain ⟨A94, n94, c94, e94⟩ : ∃ A n c, v104 = .slice A n c := (by obtain ⟨A_, c_, e_, -, -⟩ := Kd.R_reads ho; exact ⟨A_, _, c_, e_⟩); clear ho hb hg_ hat_; subst e94; have z2 : w9.cell? ⟨g, 1, none⟩ = some (.slice A1 V.length c1) := (blk_cell S9.out.blk 1).trans rfl; have f1 := blk_frozen S9.out.blk 1))
              go_ret
              have SF := S9.out.put HS.out.low 1 (.slice A94 n94 c94) rfl (blk_put S9.out.blk 1 _ rfl)
              have hh := H.out
              simp only [Prod.mk.injEq] at hh
              obtain ⟨rfl, rfl, rfl⟩ := hh
              exact ⟨rfl, ⟨⟨.slice A93 n93 c93, .slice A94 n94 c94, SF.blk, SF.rows (.slice A93 n93 c93, _) (List.mem_cons_of_mem _ (List.mem_cons_self ..)), SF.rows (.slice A94 n94 c94, _) (List.mem_cons_self ..), fun k e1 e2 => (List.pairwise_cons.1 SF.dis).1 (.slice A93 n93 c93, _) (List.mem_cons_self ..) k e2 e1⟩, HS.out.low⟩, SF.bel, SF.lo.2⟩
end Go.Proofs.YtjpjlobpglmoiaaDoor.A
-- Printed by this session's oprint.py through the kit's printer.
namespace Go.Proofs.YtjpjlobpglmoiaaDoor.A
open Go.RowKit Go.Proofs.YtjpjlobpglmoiaaDoorW.PrintWords Go.Proofs.YtjpjlobpglmoiaaDoorW.PrintLast Go.Proofs.YtjpjlobpglmoiaaDoorW.PrintMore
attribute [local go_sem] max2_int min2_int max_two min_two max_three min_three max_four min_four   -- for this text's walks alone
set_option linter.unusedVariables false
set_option linter.unusedSimpArgs false

/-! ### spec_l11DrawOk: function 43 -/
-- given: proved by hand (drawok.tpl)
/-- What a drawn scope stands on: the source's state, the scope's box, the result's box. -/
structure DI (w0 w : World) (gs g gr : Nat) (l : List Int) (at_ seed : Int) (N V : List ByteArray) (W : World) : Prop where
  s : IsS75 w0 W gs l at_ seed
  sc : SC w.heap.size g N V W
  bel : Below w0.heap.size w0 W
  kb : KeepBut w W gs none
  res : W.heap[gr]? = some (.cells #[.slice none 0 0, .slice none 0 0] 27 (0, 0))
  gr : w.heap.size ≤ gr ∧ gr ≠ g
  gs : gs < w.heap.size
section
variable {w0 w : World} {gs g gr : Nat} {l : List Int} {at_ seed : Int} {N V : List ByteArray} {W : World}
theorem DI.ne (h : DI w0 w gs g gr l at_ seed N V W) : g ≠ gs := by have := h.sc.low; have := h.gs; omega
theorem DI.draw {W' : World} {at' seed' : Int} (h : DI w0 w gs g gr l at_ seed N V W) (hI : IsS75 w0 W' gs l at' seed') (hB : Below w0.heap.size w0 W') (hk : KeepBut W W' gs none) : DI w0 w gs g gr l at' seed' N V W' := by
  obtain ⟨A, c, hb, _, _⟩ := h.s
  exact ⟨hI, h.sc.keep hk hb (by decide) h.ne, hB, h.kb.trans hk (.inl rfl), hk.blk h.res (by have := h.gr; have := h.gs; omega) (by simp), h.gr, h.gs⟩
theorem DI.below {W' : World} (h : DI w0 w gs g gr l at_ seed N V W) (hb : Below W.heap.size W W') : DI w0 w gs g gr l at_ seed N V W' :=
  ⟨h.s.below hb, h.sc.below hb, below_step h.bel hb, h.kb.trans (KeepBut.of_below hb gs none) (.inl rfl), (hb.block gr (blk_lt h.res)).trans h.res, h.gr, h.gs⟩
theorem DI.put {W' : World} {N' V' : List ByteArray} (h : DI w0 w gs g gr l at_ seed N V W) (hS : SC w.heap.size g N' V' W') (hB : Below w.heap.size W W') (hk : KT g W W') : DI w0 w gs g gr l at_ seed N' V' W' := by
  obtain ⟨A, c, hb, h1, h2⟩ := h.s
  have e := (hk.block gs _ _ hb (by decide) (fun e => h.ne e.symm)).trans hb
  have hw : w0.heap.size ≤ w.heap.size := by have := h.gs; have h3 := h.bel; obtain ⟨_, _, hq, hr, _⟩ := h.s; omega
  exact ⟨⟨A, c, e, h1, h2⟩, hS, h.bel.trans (hB.mono hw), ⟨Nat.le_trans h.kb.1 hB.size, fun i hi hg hr => (hB.block i hi).trans (h.kb.2 i hi hg hr)⟩, (hk.block gr _ _ h.res (by decide) h.gr.2).trans h.res, h.gr, h.gs⟩
end
def names5 : List ByteArray := [⟨#[97]⟩, ⟨#[98]⟩, ⟨#[99, 108, 111, 99, 107]⟩, ⟨#[120]⟩, ⟨#[102, 97, 114]⟩]
def dokL : Nat → List Int → Int → Int → Int → Int → List ByteArray → List ByteArray → Option (List ByteArray × List ByteArray × Int × Int)
  | 0, _, _, _, _, _, _, _ => none
  | K + 1, l, size, k, at_, seed, N, V =>
    if 0 < k then
      (spec_l00Src_text.f l at_ seed names5).bind fun a => (spec_l07DrawLevels.f K l a.2.1 a.2.2 size).bind fun b => (spec_l00Src_one.f l b.2.1 b.2.2 3).bind fun c =>
      if V.length = N.length ∧ a.1.size ≤ 1000 then
        if c.1 = true then (spec_l01DrawGood.f K l c.2.1 c.2.2 30).bind fun d => if d.1.size ≤ 1000 then dokL K l size (wrap64 (k - 1)) d.2.1 d.2.2 (setF N V a.1 d.1).1 (setF N V a.1 d.1).2.1 else none
        else if b.1.size ≤ 1000 then dokL K l size (wrap64 (k - 1)) c.2.1 c.2.2 (setF N V a.1 b.1).1 (setF N V a.1 b.1).2.1 else none
      else none
    else some (N, V, at_, seed)
def spec_l11DrawOk.f (k : Nat) (l : List Int) (at_ seed : Int) : Option (List ByteArray × List ByteArray × Int × Int) := (spec_l00Src_pick.f l at_ seed 30).bind fun p => (spec_l00Src_pick.f l p.2.1 p.2.2 4).bind fun q => dokL k l p.1 q.1 q.2.1 q.2.2 [] []
theorem dokL.mono : ∀ k l size n at_ seed N V, LeO (dokL k l size n at_ seed N V) (dokL (k + 1) l size n at_ seed N V)
  | 0, _, _, _, _, _, _, _ => LeO.none _
  | k + 1, l, size, n, at_, seed, N, V => by
    rw [dokL, dokL]
    repeat' first
      | (with_reducible exact LeO.refl _)
      | (with_reducible exact LeO.none _)
      | (with_reducible exact dokL.mono _ _ _ _ _ _ _ _)
      | (with_reducible exact spec_l07DrawLevels.mono _ _ _ _ _)
      | (with_reducible exact spec_l01DrawGood.mono _ _ _ _ _)
      | (with_reducible refine LeO.ite ?_ ?_)
      | (with_reducible refine LeO.bind ?_ (fun _ => ?_))
theorem spec_l11DrawOk.mono : ∀ a0 a1 a2 k, LeO (spec_l11DrawOk.f k a0 a1 a2) (spec_l11DrawOk.f (k + 1) a0 a1 a2) := fun a0 a1 a2 k => LeO.bind (LeO.refl _) (fun _ => LeO.bind (LeO.refl _) (fun _ => dokL.mono _ _ _ _ _ _ _ _))
theorem reps_names5 {W : World} {base : Nat} (okp : Nat → Prop) : Reps (Kd.string.M W base okp) 1 names5 [.string ⟨#[97]⟩, .string ⟨#[98]⟩, .string ⟨#[99, 108, 111, 99, 107]⟩, .string ⟨#[120]⟩, .string ⟨#[102, 97, 114]⟩] := Reps.one rfl (Reps.one rfl (Reps.one rfl (Reps.one rfl (Reps.one rfl (Reps.none _ _)))))
theorem DI.start {w0 w w2 : World} {gs : Nat} {l : List Int} {at_ seed : Int} (hI : IsS75 w0 w gs l at_ seed) (hB : Below w0.heap.size w0 w) (hg : gs < w.heap.size) (b2 : Below w.heap.size w w2) (e : w2.heap[w.heap.size + 1]? = some (.cells #[.slice none 0 0, .slice none 0 0] 27 (0, 0))) (e0 : w2.heap[w.heap.size]? = some (.cells #[.slice none 0 0, .slice none 0 0] 27 (0, 0))) : DI w0 w gs (w.heap.size + 1) w.heap.size l at_ seed [] [] w2 :=
  ⟨hI.below b2, ⟨⟨.slice none 0 0, .slice none 0 0, e, Kd.R_nil _ _ _ _ _, Kd.R_nil _ _ _ _ _, fun k e => by simp [Value.ownBlock] at e⟩, Nat.le_succ _⟩, below_step hB b2, KeepBut.of_below b2 gs none, e0, ⟨Nat.le_refl _, by omega⟩, hg⟩
set_option maxHeartbeats 3200000 in
set_option maxRecDepth 100000 in
theorem spec_l11DrawOk.calls (k : Nat) (g : Nat) (s0_0 : List Int) (s0_1 : Int) (s0_2 : Int) (r1 r2 : List ByteArray) (r3 : Int) (r4 : Int) (w0 w : World) (hI : IsS75 w0 w g s0_0 s0_1 s0_2) (hB : Below w0.heap.size w0 w) (h : spec_l11DrawOk.f k s0_0 s0_1 s0_2 = some (r1, r2, r3, r4)) :
    Calls Tryd.prog 43 #[.pointer (some ⟨g, 0, none⟩)] w fun e w' => ∃ v0_ v1_ : Value, e = .returned (.agg #[v0_, v1_]) ∧ Kd.R Kd.string 9 w' w.heap.size (fun k_ => some k_ ≠ (v1_ : Value).ownBlock) v0_ r1 ∧ Kd.R Kd.string 9 w' w.heap.size (fun k_ => some k_ ≠ (v0_ : Value).ownBlock) v1_ r2 ∧ IsS75 w0 w' g s0_0 r3 r4 ∧ Below w0.heap.size w0 w' ∧ KeepBut w w' g none := by
  have hu27 := Tryd.underlying27
  replace h := Option.bind_eq_some_iff.1 h
  obtain ⟨⟨size, a1, s1⟩, h1, h⟩ := h
  replace h := Option.bind_eq_some_iff.1 h
  obtain ⟨⟨n, a2, s2⟩, h2, h⟩ := h
  have H := Aside0.mk (show dokL k s0_0 size n a2 s2 [] [] = some (r1, r2, r3, r4) from h)
  have H1 := Aside0.mk h1
  have H2 := Aside0.mk h2
  have HI := Aside0.mk hI
  have HB := Aside0.mk hB
  have hgs := hI.lt
  have HG := Aside0.mk hgs
  clear h h1 h2 hI hB hgs
  have e_ := blk_new (w.alloc (.cells #[.slice none 0 0, .slice none 0 0] 27)) (.cells #[.slice none 0 0, .slice none 0 0] 27)
  rw [World.size_alloc] at e_
  have D0 := Aside0.mk (DI.start (l := s0_0) HI.out HB.out HG.out (below_alloc (below_alloc (Below.refl w.heap.size w) _) _) e_ (blk_alloc (blk_new w _) _))
  clear e_
  clear HI HB HG
  go_enter Tryd.func43, Tryd.ntmps43
  go_wp2_with (first
    | (go_at_call 41; (with_reducible refine (spec_l00Src_pick.calls g s0_0 s0_1 s0_2 30 size a1 s1 w0 _ ?hI ?hB H1.out).mono ?_); (case hI => exact D0.out.s); (case hB => exact D0.out.bel); rintro e wa ⟨rfl, hI, hB, hK⟩; have D1 := Aside0.mk (D0.out.draw hI hB hK); clear hI hB hK)
    | (go_at_call 41; (with_reducible refine (spec_l00Src_pick.calls g s0_0 a1 s1 4 n a2 s2 w0 _ ?hI ?hB H2.out).mono ?_); (case hI => exact D1.out.s); (case hB => exact D1.out.bel); rintro e wb ⟨rfl, hI, hB, hK⟩; have D2 := Aside0.mk (D1.out.draw hI hB hK); clear hI hB hK))
  clear D0 D1 H1 H2
  go_loopg [5] k (fun kq v5 wr => ∃ (n a s : Int) (N V : List ByteArray), v5 = .int .i64 n ∧ Aside0 (dokL kq s0_0 size n a s N V = some (r1, r2, r3, r4)) ∧ Aside0 (DI w0 w g (w.heap.size + 1) w.heap.size s0_0 a s N V wr))
  case atStart => exact ⟨n, a2, s2, [], [], rfl, H, D2⟩
  case round =>
    clear H D2
    obtain ⟨n, a, s, N, V, rfl, HA, HD⟩ := hrel
    cases gk with
    | zero => exact absurd HA.out (by simp [dokL])
    | succ k1 =>
      have hA := HA.out
      clear HA
      rw [dokL] at hA
      by_cases hn : 0 < n
      · rw [if_pos hn] at hA
        have hnb := decide_eq_true hn
        replace hA := Option.bind_eq_some_iff.1 hA
        obtain ⟨⟨nm, a1, s1⟩, h1, hA⟩ := hA
        replace hA := Option.bind_eq_some_iff.1 hA
        obtain ⟨⟨lv, a2, s2⟩, h2, hA⟩ := hA
        replace hA := Option.bind_eq_some_iff.1 hA
        obtain ⟨⟨on, a3, s3⟩, h3, hA⟩ := hA
        dsimp only at h2 h3 hA
        have H1 := Aside0.mk h1
        have H2 := Aside0.mk h2
        have H3 := Aside0.mk h3
        by_cases hl : V.length = N.length ∧ nm.size ≤ 1000
        · rw [if_pos hl] at hA
          have HL := Aside0.mk hl
          clear h1 h2 h3 hn hl
          cases on with
          | true =>
            simp only [if_true] at hA
            replace hA := Option.bind_eq_some_iff.1 hA
            obtain ⟨⟨gd, a4, s4⟩, h4, hA⟩ := hA
            dsimp only at h4 hA
            have H4 := Aside0.mk h4
            by_cases hz : gd.size ≤ 1000
            · rw [if_pos hz] at hA
              have HZ := Aside0.mk hz
              obtain ⟨⟨N', V', R'⟩, hset⟩ : ∃ x, setF N V nm gd = x := ⟨_, rfl⟩
              rw [hset] at hA
              have HS := Aside0.mk hset
              have HA := Aside0.mk hA
              clear h4 hz hA hset
              go_wp2_with (first
                | ((with_reducible refine gate_dst (N := 18) rfl ?_); refine Kd.R_lit Kd.string wr.heap.size 9 ?hg (N := 18) ?hd (w0 := wr) (xs := names5) (inner := [.string ⟨#[97]⟩, .string ⟨#[98]⟩, .string ⟨#[99, 108, 111, 99, 107]⟩, .string ⟨#[120]⟩, .string ⟨#[102, 97, 114]⟩]) (ok := fun _ => True) (okp := fun _ => True) ?hr ?hp (fun _ hk => hk) trivial (Below.refl _ _) (Nat.le_refl _) (by decide) ?_; (case hd => rfl); (case hg => rfl); (case hr => first | (go_simp; done) | (go_simp; rfl)); (case hp => exact reps_names5 _); intro v18 wl ho hb hg_ hnew_; obtain ⟨b18, p18, e18, hb18, -, -⟩ := Kd.R_form ho (by decide); subst e18; have C18 := Aside0.mk (Kd.R_reads' ho).2; have B18 := Aside0.mk (show ∀ ad, (some (⟨b18, 0, none⟩ : Addr)) = some ad → 0 < names5.length → ad.block ≠ g from (fun ad e_ _ => by (injection e_ with e_; subst e_; have h_ := HD.out.s.lt; show b18 ≠ g; omega))); have DL := Aside0.mk (HD.out.below hb); clear ho hb hg_ hnew_ hb18)
                | (go_at_call 58; (with_reducible refine (spec_l00Src_text.calls g s0_0 a s (some ⟨b18, 0, none⟩) p18 names5 nm a1 s1 w0 wl ?hI ?hB ?hC ?hc ?hf H1.out).mono ?_); (case hI => exact DL.out.s); (case hB => exact DL.out.bel); (case hC => exact C18.out.2); (case hc => exact C18.out.1); (case hf => exact B18.out); rintro e w1 ⟨rfl, hI, hB, hK⟩; have D1 := Aside0.mk (DL.out.draw hI hB hK); clear hI hB hK)
                | (go_at_call 62; (with_reducible refine (spec_l07DrawLevels.calls k1 g s0_0 a1 s1 size lv a2 s2 w0 w1 ?hI ?hB H2.out).mono ?_); (case hI => exact D1.out.s); (case hB => exact D1.out.bel); rintro e w2 ⟨rfl, hI, hB, hK⟩; have D2 := Aside0.mk (D1.out.draw hI hB hK); clear hI hB hK)
                | (go_at_call 61; (with_reducible refine (spec_l00Src_one.calls g s0_0 a2 s2 3 true a3 s3 w0 w2 ?hI ?hB H3.out).mono ?_); (case hI => exact D2.out.s); (case hB => exact D2.out.bel); rintro e w3 ⟨rfl, hI, hB, hK⟩; have D3 := Aside0.mk (D2.out.draw hI hB hK); clear hI hB hK)
                | (go_at_call 60; (with_reducible refine (spec_l01DrawGood.calls k1 g s0_0 a3 s3 30 gd a4 s4 w0 w3 ?hI ?hB H4.out).mono ?_); (case hI => exact D3.out.s); (case hB => exact D3.out.bel); rintro e w4 ⟨rfl, hI, hB, hK⟩; have D4 := Aside0.mk (D3.out.draw hI hB hK); clear hI hB hK)
                | (go_at_call 63; (with_reducible refine (setF.calls w.heap.size (w.heap.size + 1) N V nm gd N' V' R' w4 ?hS ?hB ?hl ?hn ?hw HS.out).mono ?_); (case hS => exact D4.out.sc); (case hB => exact D4.out.kb.1); (case hl => exact HL.out.1); (case hn => have := HL.out.2; omega); (case hw => have := HZ.out; omega); rintro e w5 ⟨rfl, hS, hB, hK⟩; have D5 := Aside0.mk (D4.out.put hS hB hK); clear hS hB hK))
              go_roundg k1
              case measure => omega
              case rel => exact ⟨_, _, _, _, _, rfl, HA, D5⟩
            · rw [if_neg hz] at hA; cases hA
          | false =>
            simp only [Bool.false_eq_true, if_false] at hA
            by_cases hz : lv.size ≤ 1000
            · rw [if_pos hz] at hA
              have HZ := Aside0.mk hz
              obtain ⟨⟨N', V', R'⟩, hset⟩ : ∃ x, setF N V nm lv = x := ⟨_, rfl⟩
              rw [hset] at hA
              have HS := Aside0.mk hset
              have HA := Aside0.mk hA
              clear hz hA hset
              go_wp2_with (first
                | ((with_reducible refine gate_dst (N := 18) rfl ?_); refine Kd.R_lit Kd.string wr.heap.size 9 ?hg (N := 18) ?hd (w0 := wr) (xs := names5) (inner := [.string ⟨#[97]⟩, .string ⟨#[98]⟩, .string ⟨#[99, 108, 111, 99, 107]⟩, .string ⟨#[120]⟩, .string ⟨#[102, 97, 114]⟩]) (ok := fun _ => True) (okp := fun _ => True) ?hr ?hp (fun _ hk => hk) trivial (Below.refl _ _) (Nat.le_refl _) (by decide) ?_; (case hd => rfl); (case hg => rfl); (case hr => first | (go_simp; done) | (go_simp; rfl)); (case hp => exact reps_names5 _); intro v18 wl ho hb hg_ hnew_; obtain ⟨b18, p18, e18, hb18, -, -⟩ := Kd.R_form ho (by decide); subst e18; have C18 := Aside0.mk (Kd.R_reads' ho).2; have B18 := Aside0.mk (show ∀ ad, (some (⟨b18, 0, none⟩ : Addr)) = some ad → 0 < names5.length → ad.block ≠ g from (fun ad e_ _ => by (injection e_ with e_; subst e_; have h_ := HD.out.s.lt; show b18 ≠ g; omega))); have DL := Aside0.mk (HD.out.below hb); clear ho hb hg_ hnew_ hb18)
                | (go_at_call 58; (with_reducible refine (spec_l00Src_text.calls g s0_0 a s (some ⟨b18, 0, none⟩) p18 names5 nm a1 s1 w0 wl ?hI ?hB ?hC ?hc ?hf H1.out).mono ?_); (case hI => exact DL.out.s); (case hB => exact DL.out.bel); (case hC => exact C18.out.2); (case hc => exact C18.out.1); (case hf => exact B18.out); rintro e w1 ⟨rfl, hI, hB, hK⟩; have D1 := Aside0.mk (DL.out.draw hI hB hK); clear hI hB hK)
                | (go_at_call 62; (with_reducible refine (spec_l07DrawLevels.calls k1 g s0_0 a1 s1 size lv a2 s2 w0 w1 ?hI ?hB H2.out).mono ?_); (case hI => exact D1.out.s); (case hB => exact D1.out.bel); rintro e w2 ⟨rfl, hI, hB, hK⟩; have D2 := Aside0.mk (D1.out.draw hI hB hK); clear hI hB hK)
                | (go_at_call 61; (with_reducible refine (spec_l00Src_one.calls g s0_0 a2 s2 3 false a3 s3 w0 w2 ?hI ?hB H3.out).mono ?_); (case hI => exact D2.out.s); (case hB => exact D2.out.bel); rintro e w3 ⟨rfl, hI, hB, hK⟩; have D3 := Aside0.mk (D2.out.draw hI hB hK); clear hI hB hK)
                | (go_at_call 63; (with_reducible refine (setF.calls w.heap.size (w.heap.size + 1) N V nm lv N' V' R' w3 ?hS ?hB ?hl ?hn ?hw HS.out).mono ?_); (case hS => exact D3.out.sc); (case hB => exact D3.out.kb.1); (case hl => exact HL.out.1); (case hn => have := HL.out.2; omega); (case hw => have := HZ.out; omega); rintro e w5 ⟨rfl, hS, hB, hK⟩; have D5 := Aside0.mk (D3.out.put hS hB hK); clear hS hB hK))
              go_roundg k1
              case measure => omega
              case rel => exact ⟨_, _, _, _, _, rfl, HA, D5⟩
            · rw [if_neg hz] at hA; cases hA
        · rw [if_neg hl] at hA; cases hA
      · rw [if_neg hn] at hA
        have hnb := decide_eq_false hn
        simp only [Option.some.injEq, Prod.mk.injEq] at hA
        obtain ⟨rfl, rfl, rfl, rfl⟩ := hA
        obtain ⟨v0, v1, hb, hr0, hr1, hd⟩ := HD.out.sc.ex
        obtain ⟨A0, c0, rfl, -, -⟩ := Kd.R_reads hr0
        obtain ⟨A1, c1, rfl, -, -⟩ := Kd.R_reads hr1
        have z0 := (blk_cell hb 0).trans rfl
        have z1 := (blk_cell hb 1).trans rfl
        have y0 := (blk_cell HD.out.res 0).trans rfl
        have y1 := (blk_cell HD.out.res 1).trans rfl
        have f0 := blk_frozen HD.out.res 0
        have f1 := blk_frozen HD.out.res 1
        have HR0 := Aside0.mk hr0
        have HR1 := Aside0.mk hr1
        have HX := Aside0.mk hd
        clear hn hb hr0 hr1 hd
        go_wp2
        refine bodyPost_ret (results_cell_row rfl _ _ w.heap.size 27 #[.slice A0 N.length c0, .slice A1 V.length c1] (0, 0) _ rfl (blk_put (cs := #[.slice A0 N.length c0, .slice none 0 0]) (blk_put (cs := #[.slice none 0 0, .slice none 0 0]) HD.out.res 0 _ rfl) 1 _ rfl) hu27 rfl (by kernel_rfl)) rfl ?_
        have hg := HD.out.gs
        have hg0 := HD.out.s.ge
        have q : ∀ k, k ≠ w.heap.size → ((wr.setCell ⟨w.heap.size, 0, none⟩ (.slice A0 N.length c0)).setCell ⟨w.heap.size, 1, none⟩ (.slice A1 V.length c1)).heap[k]? = wr.heap[k]? := fun k hk => (Below.heap_setCell _ _ _ _ hk).trans (Below.heap_setCell _ _ _ _ hk)
        have hB := (HD.out.bel.setCell (p := ⟨w.heap.size, 0, none⟩) (by show w0.heap.size ≤ w.heap.size; omega) (.slice A0 N.length c0)).setCell (p := ⟨w.heap.size, 1, none⟩) (by show w0.heap.size ≤ w.heap.size; omega) (.slice A1 V.length c1)
        have hsz : wr.heap.size ≤ ((wr.setCell ⟨w.heap.size, 0, none⟩ (.slice A0 N.length c0)).setCell ⟨w.heap.size, 1, none⟩ (.slice A1 V.length c1)).heap.size := by simp [World.setCell]
        exact ⟨_, _, rfl, Kd.R_mono (Kd.R_step HR0.out (fun k e _ => q k (R_own_ne HR0.out HD.out.res (by decide) k e))) (fun k e e2 => HX.out k e.symm e2.symm), Kd.R_mono (Kd.R_step HR1.out (fun k e _ => q k (R_own_ne HR1.out HD.out.res (by decide) k e))) (fun k e e2 => HX.out k e2.symm e.symm), (HD.out.s.far (p := ⟨w.heap.size, 0, none⟩) (by show g ≠ w.heap.size; omega) _).far (p := ⟨w.heap.size, 1, none⟩) (by show g ≠ w.heap.size; omega) _, hB, ⟨Nat.le_trans HD.out.kb.1 hsz, fun i hi hg hr => (q i (by omega)).trans (HD.out.kb.2 i hi hg hr)⟩⟩

end Go.Proofs.YtjpjlobpglmoiaaDoor.A
-- Printed by this session's oprint.py through the kit's printer.
namespace Go.Proofs.YtjpjlobpglmoiaaDoor.A
open Go.RowKit Go.Proofs.YtjpjlobpglmoiaaDoorW.PrintWords Go.Proofs.YtjpjlobpglmoiaaDoorW.PrintLast Go.Proofs.YtjpjlobpglmoiaaDoorW.PrintMore
attribute [local go_sem] max2_int min2_int max_two min_two max_three min_three max_four min_four   -- for this text's walks alone
set_option linter.unusedVariables false
set_option linter.unusedSimpArgs false

/-! ### spec_B10Scope: function 25 -/
def spec_B10Scope.f (k : Nat) (l0 : List Int) : Option (List ByteArray × List ByteArray) := (spec_l00From.f l0).bind fun bt338 => ((spec_l11DrawOk.f k bt338.1 bt338.2.1 bt338.2.2).bind fun bt342 => (some (bt342.1, bt342.2.1)))
theorem spec_B10Scope.mono : ∀ a0 k, LeO (spec_B10Scope.f k a0) (spec_B10Scope.f (k + 1) a0) := by
  intro a0 k
  unfold spec_B10Scope.f
  repeat' first
      | (with_reducible exact spec_l11DrawOk.mono _ _ _ _)
      | (with_reducible exact LeO.refl _)
      | (with_reducible exact LeO.none _)
      | (with_reducible refine LeO.ite ?_ ?_)
      | (with_reducible refine LeO.bind ?_ (fun _ => ?_))
      | exact spec_l11DrawOk.mono _ _ _ _
      | exact LeO.none _
      | refine LeO.ite ?_ ?_
      | refine LeO.bind ?_ (fun _ => ?_)
set_option maxHeartbeats 8000000 in
set_option maxRecDepth 100000 in
theorem spec_B10Scope.calls (k : Nat) (A0 : Option Addr) (c0 : Nat) (l0 : List Int) (r1 : List ByteArray) (r2 : List ByteArray) (w : World) (hr0 : Kd.C (Kd.int .u8) w A0 l0.length l0) (hc0 : l0.length ≤ c0) (h : spec_B10Scope.f k l0 = some (r1, r2)) :
    Calls Tryd.prog 25 #[.slice A0 l0.length c0] w fun e w' => ∃ v0_ v1_ : Value, e = .returned (.agg #[v0_, v1_]) ∧ Kd.R Kd.string 9 w' w.heap.size (fun k_ => some k_ ≠ (v1_ : Value).ownBlock) v0_ r1 ∧ Kd.R Kd.string 9 w' w.heap.size (fun k_ => some k_ ≠ (v0_ : Value).ownBlock) v1_ r2 ∧ Below w.heap.size w w' := by
  have hu27 := Tryd.underlying27
  have HR0 := Aside0.mk hr0
  have HC0 := Aside0.mk hc0
  clear hr0 hc0
  have HB := Aside0.mk (Below.refl w.heap.size w)
  have H : ((spec_l00From.f l0).bind fun bt338 => ((spec_l11DrawOk.f k bt338.1 bt338.2.1 bt338.2.2).bind fun bt342 => (some (bt342.1, bt342.2.1)))) = some (r1, r2) := h
  clear h
  replace H := Option.bind_eq_some_iff.mp H
  obtain ⟨⟨t338, t339, t340⟩, A20, H⟩ := H
  replace H : ((spec_l11DrawOk.f k t338 t339 t340).bind fun bt342 => (some (bt342.1, bt342.2.1))) = some (r1, r2) := H
  have A2 := Aside0.mk A20
  clear A20
  replace H := Option.bind_eq_some_iff.mp H
  obtain ⟨⟨t342, t345, t348, t349⟩, A30, H⟩ := H
  replace H : (some (t342, t345)) = some (r1, r2) := H
  have A3 := Aside0.mk A30
  clear A30
  simp only [Option.some.injEq, Prod.mk.injEq] at H
  obtain ⟨rfl, rfl⟩ := H
  go_enter Tryd.func25, Tryd.ntmps25
  go_wp2_with (first | ((with_reducible refine gate_dst (N := 2) rfl ?_); refine box_event ?hg (N := 2) ?hd (cs := #[.slice none 0 0, .slice none 0 0]) (t := 27) ?hr ?_; (case hd => rfl); (case hg => rfl); (case hr => first | (go_simp; done) | (go_simp; rfl)); intro gb337 hg w4 hbox hb; have n0_ := Aside0.mk (below_step (by repeat (first | (with_reducible first | exact HB.out | apply below_alloc | apply pw_below_drewN | apply below_drew1) | exact HB.out)) hb); have n1_ := Aside0.mk (hbox); have n2_ := Aside0.mk ((by rw [hg]; exact (below_size (by repeat (first | (with_reducible first | exact HB.out | apply below_alloc | apply pw_below_drewN | apply below_drew1) | exact HB.out))) : w.heap.size ≤ gb337)); have n3_ := Aside0.mk ((by rw [hg]; exact (below_size (by repeat (first | (with_reducible first | exact HB.out | apply below_alloc | apply pw_below_drewN | apply below_drew1) | exact HB.out))) : w.heap.size ≤ gb337)); clear HB; have HB := n0_; have BK337 := n1_; have GW337 := n2_; have GE337 := n3_; clear n0_ n1_ n2_ n3_; clear hb hbox hg) | ((with_reducible refine gate_callee (f := 40) rfl ?_); refine goesL_ (some 5) rfl rfl Tryd.func40 (by kernel_rfl) rfl #[.slice A0 l0.length c0] rfl (by (try simp only [List.map_toArray, List.map_cons, List.map_nil]); first | done | rfl | (simp only [List.length_drop, List.length_take]; rfl)) ?_; (with_reducible refine (spec_l00From.calls _ _ l0 t338 t339 t340 w _ ?side1 ?side2 ?side3 A2.out).mono ?_); (case side1 => repeat (first | (with_reducible first | exact HB.out | apply below_alloc | apply pw_below_drewN | apply below_drew1 | refine below_set ?_ GE337.out) | exact HB.out)); (case side2 => exact HR0.out); (case side3 => exact HC0.out); rintro e w5 ⟨g341, rfl, hi, hb, hb2⟩; refine ⟨_, rfl, ?_⟩; have n0_ := Aside0.mk (blk_below (g := gb337) (o := .cells #[.slice none 0 0, .slice none 0 0] 27 (0, 0)) (by (with_reducible repeat (first | refine blk_drewN ?_ _ | refine blk_drew ?_ | refine blk_alloc ?_ _)); exact BK337.out) hb2); have n1_ := Aside0.mk (hb); have n2_ := Aside0.mk (hi); have n3_ := Aside0.mk (IsS75.ne_blk hi (blk_below (g := gb337) (o := .cells #[.slice none 0 0, .slice none 0 0] 27 (0, 0)) (by (with_reducible repeat (first | refine blk_drewN ?_ _ | refine blk_drew ?_ | refine blk_alloc ?_ _)); exact BK337.out) hb2) (by decide)); have n4_ := Aside0.mk (Ne.symm (IsS75.ne_blk hi (blk_below (g := gb337) (o := .cells #[.slice none 0 0, .slice none 0 0] 27 (0, 0)) (by (with_reducible repeat (first | refine blk_drewN ?_ _ | refine blk_drew ?_ | refine blk_alloc ?_ _)); exact BK337.out) hb2) (by decide))); clear BK337; clear HB; have BK337 := n0_; have HB := n1_; have HI341 := n2_; have NB341_337 := n3_; have NB337_341 := n4_; clear n0_ n1_ n2_ n3_ n4_; (try clear hb); (try clear hb2); (try clear hk); (try clear hi)) | ((with_reducible refine gate_callee (f := 43) rfl ?_); refine goesL_ (some 7) rfl rfl Tryd.func43 (by kernel_rfl) rfl #[.pointer (some ⟨g341, 0, none⟩)] rfl (by (try simp only [List.map_toArray, List.map_cons, List.map_nil]); first | done | rfl | (simp only [List.length_drop, List.length_take]; rfl)) ?_; (with_reducible refine (spec_l11DrawOk.calls k g341 t338 t339 t340 t342 t345 t348 t349 w _ ?side1 ?side2 A3.out).mono ?_); (case side1 => repeat (first | (with_reducible first | exact HI341.out | apply IsS75.alloc | apply IsS75.drewN | apply IsS75.drew | apply IsS75.set_1 | apply IsS75.set_2 | refine IsS75.far ?_ NB341_337.out _) | exact HI341.out)); (case side2 => repeat (first | (with_reducible first | exact HB.out | apply below_alloc | apply pw_below_drewN | apply below_drew1 | refine below_set ?_ (IsS75.ge HI341.out) | refine below_set ?_ GE337.out) | exact HB.out)); rintro e w6 ⟨v343, v346, rfl, ho0, ho1, hi, hb, hk⟩; refine ⟨_, rfl, ?_⟩; have n0_ := Aside0.mk (KeepBut.blk hk (g' := gb337) (o := .cells #[.slice none 0 0, .slice none 0 0] 27 (0, 0)) (by (with_reducible repeat (first | refine blk_drewN ?_ _ | refine blk_drew ?_ | refine blk_alloc ?_ _)); exact BK337.out) NB337_341.out (by simp)); have n1_ := Aside0.mk (Kd.R_lower ho0 (below_size (by repeat (first | (with_reducible first | exact HB.out | apply below_alloc | apply pw_below_drewN | apply below_drew1 | refine below_set ?_ (IsS75.ge HI341.out) | refine below_set ?_ GE337.out) | exact HB.out)))); have n2_ := Aside0.mk (Kd.R_lower ho1 (below_size (by repeat (first | (with_reducible first | exact HB.out | apply below_alloc | apply pw_below_drewN | apply below_drew1 | refine below_set ?_ (IsS75.ge HI341.out) | refine below_set ?_ GE337.out) | exact HB.out)))); have n3_ := Aside0.mk (hb); have n4_ := Aside0.mk (hi); clear BK337; clear HB; clear HI341; have BK337 := n0_; have HO344 := n1_; have HO347 := n2_; have HB := n3_; have HI341 := n4_; clear n0_ n1_ n2_ n3_ n4_; (try clear hb); (try clear hb2); (try clear hk); (try clear hi); (try clear ho0); (try clear ho1); obtain ⟨Ao7, co7, eo7⟩ := Kd.R_slice HO344.out; subst eo7; have hnb8 := NB337_341.out; have hnc8 := NB341_337.out; have hcz9_0 : w6.cell? ⟨gb337, 0, none⟩ = some (.slice none 0 0) := (blk_cell BK337.out 0).trans rfl; have hcz9_1 : w6.cell? ⟨gb337, 1, none⟩ = some (.slice none 0 0) := (blk_cell BK337.out 1).trans rfl; have hfz9_0 := blk_frozen BK337.out 0; have hfz9_1 := blk_frozen BK337.out 1; obtain ⟨Ao10, co10, eo10⟩ := Kd.R_slice HO347.out; subst eo10))
  refine bodyPost_ret (results_cell_row rfl _ _ gb337 27 #[.slice Ao7 t342.length co7, .slice Ao10 t345.length co10] (0, 0) _ rfl (by (with_reducible repeat (first | refine blk_drewN ?_ _ | refine blk_drew ?_ | refine blk_alloc ?_ _)); refine blk_put (cs := #[.slice Ao7 t342.length co7, .slice none 0 0]) ?_ 1 _ rfl; (with_reducible repeat (first | refine blk_drewN ?_ _ | refine blk_drew ?_ | refine blk_alloc ?_ _)); refine blk_put (cs := #[.slice none 0 0, .slice none 0 0]) ?_ 0 _ rfl; (with_reducible repeat (first | refine blk_drewN ?_ _ | refine blk_drew ?_ | refine blk_alloc ?_ _)); exact BK337.out) Tryd.underlying27 rfl (by kernel_rfl)) rfl ?_
  exact ⟨_, _, by first | rfl | (simp [errW_none, errW_some] <;> rfl) | (simp [*, errW_none, errW_some] <;> rfl), by (with_reducible repeat (first | apply Kd.R_alloc | apply Kd.R_drewN | apply Kd.R_drew)); exact Kd.R_mono (Kd.R_far (p := ⟨gb337, 1, none⟩) (Kd.R_far (p := ⟨gb337, 0, none⟩) (Kd.R_types HO344.out BK337.out (by decide)) (fun _ hk => hk.2) (.slice Ao7 t342.length co7)) (fun _ hk => hk.2) (.slice Ao10 t345.length co10)) (fun _ hk => hk.1), by (with_reducible repeat (first | apply Kd.R_alloc | apply Kd.R_drewN | apply Kd.R_drew)); exact Kd.R_mono (Kd.R_far (p := ⟨gb337, 1, none⟩) (Kd.R_far (p := ⟨gb337, 0, none⟩) (Kd.R_types HO347.out BK337.out (by decide)) (fun _ hk => hk.2) (.slice Ao7 t342.length co7)) (fun _ hk => hk.2) (.slice Ao10 t345.length co10)) (fun _ hk => hk.1), by repeat (first | (with_reducible first | exact HB.out | apply below_alloc | apply pw_below_drewN | apply below_drew1 | refine below_set ?_ (IsS75.ge HI341.out) | refine below_set ?_ GE337.out) | exact HB.out)⟩

end Go.Proofs.YtjpjlobpglmoiaaDoor.A
/- Setting a wave keeps a scope valid. No conditions. -/
namespace Go.Proofs.YtjpjlobpglmoiaaDoor.Pure
set_option linter.unusedVariables false
set_option linter.unusedSimpArgs false
open Go.RowKit Go.Proofs.YtjpjlobpglmoiaaDoor.A Go.Proofs.YtjpjlobpglmoiaaDoorW.PrintWords Go.Proofs.YtjpjlobpglmoiaaDoorW.PrintLast Go.Proofs.YtjpjlobpglmoiaaDoorW.PrintMore
theorem less_total : ∀ (a b : List UInt8), Op.bytesLess a b = false → a ≠ b → Op.bytesLess b a = true
  | [], [], _, h => absurd rfl h
  | [], _ :: _, h, _ => by simp [Op.bytesLess] at h
  | _ :: _, [], _, _ => by simp [Op.bytesLess]
  | x :: a, y :: b, h, h2 => by
    simp only [Op.bytesLess] at h ⊢
    by_cases c : y < x
    · simp [c]
    · by_cases e : x = y
      · subst e
        simp at h ⊢
        exact less_total a b h (fun e => h2 (by rw [e]))
      · have : x < y := by
          have h1 : ¬ y.toNat < x.toNat := c
          have h3 : x.toNat ≠ y.toNat := fun z => e (UInt8.toNat_inj.1 z)
          show x.toNat < y.toNat
          omega
        simp [this] at h
theorem findI_no : ∀ (l : List ByteArray) (s : ByteArray) (i : Nat), ¬ 0 ≤ findI l s i → ∀ x ∈ l, x.toList ≠ s.toList
  | [], s, i, h => fun x hx => by simp at hx
  | y :: l, s, i, h => fun x hx => by
    simp only [findI] at h
    by_cases e : y.toList = s.toList
    · rw [if_pos e] at h; exact absurd (by omega) h
    · rw [if_neg e] at h
      rcases List.mem_cons.1 hx with rfl | hx
      · exact e
      · exact findI_no l s (i + 1) h x hx
theorem posI_lt : ∀ (l : List ByteArray) (s : ByteArray) (i : Nat) (h : i < l.length), i < posI l s → Op.bytesLess (l[i]'h).toList s.toList = true
  | [], s, i, h, _ => by simp at h
  | x :: l, s, i, h, hp => by
    simp only [posI] at hp
    by_cases c : Op.bytesLess x.toList s.toList = true
    · rw [if_pos c] at hp
      cases i with
      | zero => exact c
      | succ i =>
        rw [List.getElem_cons_succ]
        exact posI_lt l s i (by simpa using h) (by omega)
    · rw [if_neg c] at hp; omega
theorem posI_at : ∀ (l : List ByteArray) (s : ByteArray) (h : posI l s < l.length), Op.bytesLess (l[posI l s]'h).toList s.toList = false
  | [], s, h => by simp at h
  | x :: l, s, h => by
    by_cases c : Op.bytesLess x.toList s.toList = true
    · have e : posI (x :: l) s = posI l s + 1 := by simp only [posI]; rw [if_pos c]
      simp only [e, List.getElem_cons_succ]
      exact posI_at l s _
    · have e : posI (x :: l) s = 0 := by simp only [posI]; rw [if_neg c]
      simp only [e, List.getElem_cons_zero]
      simpa using c
/-- What a valid scope is, in single statements. -/
structure VS (N V : List ByteArray) : Prop where
  six : N.length ≤ 6
  len : V.length = N.length
  nm : ∀ x ∈ N, nameB x = true
  wv : ∀ x ∈ V, waveB x = true
  up : ∀ (i : Nat) (h : i + 1 < N.length), Op.bytesLess (N[i]'(by omega)).toList (N[i + 1]'h).toList = true
theorem getD_at {l : List ByteArray} {i : Nat} (h : i < l.length) : l.getD i ByteArray.empty = l[i] := by simp [h]
theorem VS.scope {N V : List ByteArray} (h : VS N V) : scopeB N V = true := by
  unfold scopeB
  rw [decide_eq_true ⟨h.six, h.len⟩, Bool.true_and, List.all_eq_true]
  intro i hi
  have hi := List.mem_range.1 hi
  unfold atB
  rw [getD_at hi, getD_at (show i < V.length by have := h.len; omega), h.nm _ (List.getElem_mem _), h.wv _ (List.getElem_mem _), Bool.true_and, Bool.and_true]
  cases i with
  | zero => rfl
  | succ i =>
    rw [Nat.add_sub_cancel, getD_at (show i < N.length by omega), h.up i hi, Bool.or_true]
theorem VS.nil : VS [] [] := ⟨by decide, rfl, fun x hx => by simp at hx, fun x hx => by simp at hx, fun i h => by simp at h⟩
theorem VS.set {N V : List ByteArray} (h : VS N V) (name wave : ByteArray) : VS (setF N V name wave).1 (setF N V name wave).2.1 := by
  unfold setF
  by_cases c1 : waveB wave = false
  · rw [if_pos c1]; exact h
  rw [if_neg c1]
  have w1 : waveB wave = true := by simpa using c1
  by_cases c2 : 0 ≤ findI N name 0
  · rw [if_pos c2]
    refine ⟨h.six, by simpa using h.len, h.nm, fun x hx => ?_, h.up⟩
    rcases List.mem_or_eq_of_mem_set hx with hx | rfl
    · exact h.wv x hx
    · exact w1
  rw [if_neg c2]
  by_cases c3 : nameB name = false ∨ 6 ≤ N.length
  · rw [if_pos c3]; exact h
  rw [if_neg c3]
  have n1 : nameB name = true := by
    cases e : nameB name
    · exact absurd (.inl e) c3
    · rfl
  have n6 : N.length < 6 := by
    rcases Nat.lt_or_ge N.length 6 with q | q
    · exact q
    · exact absurd (.inr q) c3
  have hp := posI_le N name
  have hlt := posI_lt N name
  have hat := posI_at N name
  have hno := findI_no N name 0 c2
  obtain ⟨p, hpp⟩ : ∃ p, posI N name = p := ⟨_, rfl⟩
  simp only [hpp] at hp hlt hat ⊢
  have hl := h.len
  refine ⟨by simp; omega, by simp; omega, fun x hx => ?_, fun x hx => ?_, fun i hi => ?_⟩
  · simp only [List.mem_append, List.mem_singleton] at hx
    rcases hx with (hx | rfl) | hx
    · exact h.nm x (List.mem_of_mem_take hx)
    · exact n1
    · exact h.nm x (List.mem_of_mem_drop hx)
  · simp only [List.mem_append, List.mem_singleton] at hx
    rcases hx with (hx | rfl) | hx
    · exact h.wv x (List.mem_of_mem_take hx)
    · exact w1
    · exact h.wv x (List.mem_of_mem_drop hx)
  · have hL : (N.take p ++ [name] ++ N.drop p).length = N.length + 1 := by simp; omega
    have get : ∀ (j : Nat) (hj : j < (N.take p ++ [name] ++ N.drop p).length), (N.take p ++ [name] ++ N.drop p)[j]? = if j < p then N[j]? else if j = p then some name else N[j - 1]? := by
      intro j hj
      rw [List.append_assoc, List.getElem?_append, List.length_take, Nat.min_eq_left hp]
      by_cases q : j < p
      · rw [if_pos q, if_pos q, List.getElem?_take, if_pos q]
      · rw [if_neg q, if_neg q]
        by_cases q2 : j = p
        · rw [if_pos q2, q2, Nat.sub_self]; rfl
        · rw [if_neg q2, List.getElem?_append, if_neg (by simp; omega), List.getElem?_drop]
          congr 1
          simp; omega
    have at_ : ∀ (j : Nat) (hj : j < (N.take p ++ [name] ++ N.drop p).length) (y : ByteArray), (if j < p then N[j]? else if j = p then some name else N[j - 1]?) = some y → (N.take p ++ [name] ++ N.drop p)[j] = y := by
      intro j hj y hy
      have := get j hj
      rw [hy, List.getElem?_eq_getElem hj] at this
      exact Option.some.inj this
    rw [hL] at hi
    by_cases q1 : i + 1 < p
    · rw [at_ i (by omega) (N[i]'(by omega)) (by rw [if_pos (by omega), List.getElem?_eq_getElem]), at_ (i + 1) (by omega) (N[i + 1]'(by omega)) (by rw [if_pos q1, List.getElem?_eq_getElem])]
      exact h.up i (by omega)
    · by_cases q2 : i + 1 = p
      · rw [at_ i (by omega) (N[i]'(by omega)) (by rw [if_pos (by omega), List.getElem?_eq_getElem]), at_ (i + 1) (by omega) name (by rw [if_neg q1, if_pos q2])]
        exact hlt i (by omega) (by omega)
      · by_cases q3 : i = p
        · rw [at_ i (by omega) name (by rw [if_neg (by omega), if_pos q3]), at_ (i + 1) (by omega) (N[p]'(by omega)) (by rw [if_neg (by omega), if_neg (by omega), List.getElem?_eq_getElem (by omega)]; simp [q3])]
          exact less_total _ _ (hat (by omega)) (hno _ (List.getElem_mem _))
        · rw [at_ i (by omega) (N[i - 1]'(by omega)) (by rw [if_neg (by omega), if_neg q3, List.getElem?_eq_getElem]), at_ (i + 1) (by omega) (N[i]'(by omega)) (by rw [if_neg (by omega), if_neg (by omega), List.getElem?_eq_getElem (by omega)]; simp)]
          have hu := h.up (i - 1) (by omega)
          have e : i - 1 + 1 = i := by omega
          simp only [e] at hu
          exact hu
end Go.Proofs.YtjpjlobpglmoiaaDoor.Pure
/- Lists of texts: sizes, copies, equality. No conditions. -/
namespace Go.Proofs.YtjpjlobpglmoiaaDoor.Pure
set_option linter.unusedVariables false
set_option linter.unusedSimpArgs false
open Go.RowKit Go.Proofs.YtjpjlobpglmoiaaDoor.A Go.Proofs.YtjpjlobpglmoiaaDoorW.PrintWords Go.Proofs.YtjpjlobpglmoiaaDoorW.PrintLast Go.Proofs.YtjpjlobpglmoiaaDoorW.PrintMore
theorem w64' {x : Int} (h0 : -9223372036854775808 ≤ x) (h1 : x < 9223372036854775808) : wrap64 x = x := by unfold wrap64; omega
theorem ev_const {α : Type} {g : Nat → Option α} {r : α} (h : ∀ k, g k = some r) : Ev g r := ⟨0, fun k _ => h k⟩
abbrev BA := ByteArray
theorem rds (p : List BA) (x : BA) (l : List BA) (i : Int) (h : i = p.length) : rdOf ByteArray.empty (p ++ x :: l) i = x := by subst h; simp [rdOf]
theorem to_loop : ∀ (l p : List BA) (k : Nat) (q r : List BA) (i : Int), i = p.length → q.length = p.length → r.length = l.length → l.length < k → (p ++ l).length ≤ 2000000 →
    laws_toStringS.l0 k (p ++ l) (q ++ r) i = some (q ++ l)
  | [], p, k, q, r, i, hi, hq, hr, hk, hl => by
    obtain ⟨k, rfl⟩ : ∃ m, k = m + 1 := ⟨k - 1, by omega⟩
    have : r = [] := List.eq_nil_of_length_eq_zero hr
    subst this
    simp only [laws_toStringS.l0]; rw [if_neg (by simp [hi])]
  | x :: l, p, k, q, r, i, hi, hq, hr, hk, hl => by
    obtain ⟨k, rfl⟩ : ∃ m, k = m + 1 := ⟨k - 1, by omega⟩
    simp only [List.length_append, List.length_cons] at hl hk hr
    cases r with
    | nil => simp at hr
    | cons y r =>
    simp only [List.length_cons] at hr
    simp only [laws_toStringS.l0]
    have e : (q ++ y :: r).set (i : Int).toNat x = q ++ x :: r := by
      have : i.toNat = q.length := by omega
      rw [this]; simp
    rw [if_pos (by simp [hi]; omega), if_pos (by omega), if_pos (by simp; omega), rds p x l i hi, e, w64' (x := i + 1) (by omega) (by omega)]
    have h := to_loop l (p ++ [x]) k (q ++ [x]) r (i + 1) (by simp [hi]) (by simp [hq]) (by omega) (by omega) (by simp; omega)
    simp only [List.append_assoc, List.singleton_append] at h
    exact h
theorem ev_to (l : List BA) (hl : l.length ≤ 1048576) : Ev (fun k => laws_toStringS.f k l) l := by
  refine ⟨l.length + 1, fun k hk => ?_⟩
  show laws_toStringS.f k l = some l
  unfold laws_toStringS.f
  rw [if_pos (by omega), if_pos (by simp; omega)]
  have := to_loop l [] k [] (List.replicate ((l.length : Int) : Int).toNat (⟨#[]⟩ : ByteArray)) 0 rfl rfl (by simp) (by omega) (by simp; omega)
  simp only [List.nil_append] at this
  exact this
theorem eqs_loop : ∀ (l p : List BA) (k : Nat) (i : Int), i = p.length → l.length < k → (p ++ l).length ≤ 2000000 → laws_eqStringS.l0 k (p ++ l) (p ++ l) i = some true
  | [], p, k, i, hi, hk, hl => by
    obtain ⟨k, rfl⟩ : ∃ m, k = m + 1 := ⟨k - 1, by omega⟩
    simp only [laws_eqStringS.l0]; rw [if_neg (by simp [hi])]
  | x :: l, p, k, i, hi, hk, hl => by
    obtain ⟨k, rfl⟩ : ∃ m, k = m + 1 := ⟨k - 1, by omega⟩
    simp only [List.length_append, List.length_cons] at hl hk
    simp only [laws_eqStringS.l0]
    rw [if_pos (by simp [hi]; omega), if_pos (by omega), if_pos (by simp [hi]; omega), if_pos trivial, w64' (x := i + 1) (by omega) (by omega)]
    have h := eqs_loop l (p ++ [x]) k (i + 1) (by simp [hi]) (by omega) (by simp; omega)
    simpa using h
theorem ev_eqs (l : List BA) (hl : l.length ≤ 1048576) : Ev (fun k => laws_eqStringS.f k l l) true := by
  refine ⟨l.length + 1, fun k hk => ?_⟩
  show laws_eqStringS.f k l l = some true
  unfold laws_eqStringS.f; rw [if_pos rfl]
  have := eqs_loop l [] k 0 rfl (by omega) (by simpa using (by omega : l.length ≤ 2000000))
  simpa using this
/-- The bytes of a list of texts. -/
def bulk : List BA → Nat
  | [] => 0
  | x :: l => x.size + bulk l
theorem bulk_mem {l : List BA} {x : BA} (h : x ∈ l) : x.size ≤ bulk l := by
  induction l with
  | nil => cases h
  | cons y l ih =>
    unfold bulk
    rcases List.mem_cons.1 h with rfl | h
    · omega
    · have := ih h; omega
theorem ev_szl : ∀ (l p : List BA) (i a : Int), i = p.length → (p ++ l).length ≤ 2000000 → 0 ≤ a → a ≤ 1048576 → (∀ x ∈ l, x.size ≤ maxLen) → ∃ r, Ev (fun k => laws_szStringS.l0 k (p ++ l) a i) r ∧ (r < 0 ∨ 0 ≤ r ∧ r + bulk l = a)
  | [], p, i, a, hi, hl, h0, h1, hs => ⟨a, Ev.step (f := fun _ => some a) (fun k => by simp only [laws_szStringS.l0]; rw [if_neg (by simp [hi])]) (Ev.now _), .inr ⟨h0, by unfold bulk; omega⟩⟩
  | x :: l, p, i, a, hi, hl, h0, h1, hs => by
    have hx := hs x (by simp)
    have hm : maxLen = 9223372036854775807 := rfl
    simp only [List.length_append, List.length_cons] at hl
    have e : ∀ k, laws_szStringS.l0 (k + 1) (p ++ x :: l) a i = if a - (x.size : Int) < 0 then some (-1) else laws_szStringS.l0 k (p ++ x :: l) (a - (x.size : Int)) (i + 1) := by
      intro k
      simp only [laws_szStringS.l0]
      rw [if_pos (by simp [hi]; omega), if_pos (by omega), rds p x l i hi, w64' (x := i + 1) (by omega) (by omega), w64' (x := a - (x.size : Int)) (by omega) (by omega)]
    by_cases c : a - (x.size : Int) < 0
    · exact ⟨-1, Ev.step (f := fun _ => some (-1)) (fun k => by rw [e, if_pos c]) (Ev.now _), .inl (by decide)⟩
    · obtain ⟨r, hr, hrr⟩ := ev_szl l (p ++ [x]) (i + 1) (a - (x.size : Int)) (by simp [hi]) (by simp; omega) (by omega) (by omega) (fun y hy => hs y (by simp [hy]))
      simp only [List.append_assoc, List.singleton_append] at hr
      refine ⟨r, Ev.step (f := fun k => laws_szStringS.l0 k (p ++ x :: l) (a - (x.size : Int)) (i + 1)) (fun k => by rw [e, if_neg c]) hr, ?_⟩
      rcases hrr with h | ⟨h, h2⟩
      · exact .inl h
      · exact .inr ⟨h, by unfold bulk; omega⟩
theorem ev_sz (l : List BA) (a : Int) (h0 : 0 ≤ a) (h1 : a ≤ 1048576) (hl : l.length ≤ maxLen) (hs : ∀ x ∈ l, x.size ≤ maxLen) : ∃ r, Ev (fun k => laws_szStringS.f k l a) r ∧ (r < 0 ∨ 0 ≤ r ∧ r + bulk l + l.length = a) := by
  have hm : maxLen = 9223372036854775807 := rfl
  unfold laws_szStringS.f
  rw [w64' (x := a - (l.length : Int)) (by omega) (by omega)]
  by_cases c : a - (l.length : Int) < 0
  · simp only [if_pos c]
    exact ⟨-1, Ev.now _, .inl (by decide)⟩
  · simp only [if_neg c]
    obtain ⟨r, hr, hrr⟩ := ev_szl l [] 0 (a - (l.length : Int)) rfl (by simp; omega) (by omega) (by omega) hs
    simp only [List.nil_append] at hr
    refine ⟨r, hr, ?_⟩
    rcases hrr with h | ⟨h, h2⟩
    · exact .inl h
    · exact .inr ⟨h, by omega⟩
end Go.Proofs.YtjpjlobpglmoiaaDoor.Pure
/- What the reference draws: bytes, numbers. No conditions. -/
namespace Go.Proofs.YtjpjlobpglmoiaaDoor.Pure
set_option linter.unusedVariables false
set_option linter.unusedSimpArgs false
open Go.RowKit Go.Proofs.YtjpjlobpglmoiaaDoor.A Go.Proofs.YtjpjlobpglmoiaaDoorW.PrintWords Go.Proofs.YtjpjlobpglmoiaaDoorW.PrintLast Go.Proofs.YtjpjlobpglmoiaaDoorW.PrintMore
def U8 (l : List Int) : Prop := ∀ x ∈ l, (Lit.int .u8 x).wf = true
theorem u8_rd {l : List Int} (h : U8 l) (i : Int) : 0 ≤ rd l i ∧ rd l i ≤ 255 := by
  unfold rd
  rw [List.getD_eq_getElem?_getD]
  rcases hq : l[i.toNat]? with _ | x
  · simp
  · have hm := h x (List.mem_of_getElem? hq)
    simp only [Lit.wf, Bool.and_eq_true, decide_eq_true_eq] at hm
    have e1 : IntKind.u8.min = 0 := rfl
    have e2 : IntKind.u8.max = 255 := rfl
    simp only [Option.getD_some]; omega
theorem b10At_eq {l : List Int} (h : U8 l) (k n : Int) (hk : 0 ≤ k ∧ k ≤ 1000000) (hn : 1 ≤ n) : ∃ x, laws_b10At.f l k n = some x ∧ 0 ≤ x ∧ x < n := by
  unfold laws_b10At.f
  by_cases h1 : n ≤ 1
  · exact ⟨0, by rw [if_pos h1], by omega, by omega⟩
  · rw [if_neg h1]
    by_cases h2 : k < (l.length : Int)
    · have hr := u8_rd h k
      rw [if_pos h2, if_pos hk.1, if_neg (by omega), w64' (by omega) (by omega), Int.tmod_eq_emod_of_nonneg hr.1]
      exact ⟨_, rfl, Int.emod_nonneg _ (by omega), Int.emod_lt_of_pos _ (by omega)⟩
    · rw [if_neg h2, if_neg (by omega), w64' (x := k * 37) (by omega) (by omega), w64' (by omega) (by omega), Int.tmod_eq_emod_of_nonneg (by omega)]
      exact ⟨_, rfl, Int.emod_nonneg _ (by omega), Int.emod_lt_of_pos _ (by omega)⟩
theorem long_eq (l0 l1 : List Int) : ∃ t, laws_b10Long.f l0 l1 = some t ∧ (t = false → l0.length ≤ 1048576 ∧ l1.length ≤ 1048576) := by
  unfold laws_b10Long.f
  by_cases c : (l0.length : Int) > 1048576
  · exact ⟨true, if_pos c, fun z => by cases z⟩
  · rw [if_neg c]
    refine ⟨_, rfl, fun z => ?_⟩
    have := of_decide_eq_false z
    omega
theorem w64 {x : Int} (h1 : -9223372036854775808 ≤ x) (h2 : x ≤ 9223372036854775807) : wrap64 x = x := by unfold wrap64; omega
theorem wu64 (n : Int) : IntKind.u64.wrap n = n % 18446744073709551616 := by simp [IntKind.wrap, IntKind.bits, IntKind.signed]
theorem and255 (x : Int) (h0 : 0 ≤ x) (h1 : x < 16777216) : bits .and .u64 x 255 = x % 256 :=
  bits_mask .u64 24 (by decide) (fun n a b => by rw [wu64]; simp at b; omega) 8 (by decide) x h0 (by simpa using h1)
theorem tmod_pos (x n : Int) (h0 : 0 ≤ x) : Int.tmod x n = x % n := Int.tmod_eq_emod_of_nonneg h0

theorem next_eq {l : List Int} (h : U8 l) (at_ seed : Int) (h0 : 0 ≤ at_) (h1 : at_ ≤ 100000) : ∃ v s, spec_l00Src_next.f l at_ seed = some (v, at_ + 1, s) ∧ 0 ≤ v ∧ v ≤ 255 := by
  unfold spec_l00Src_next.f
  have hr := u8_rd h at_
  have hw : wrap64 (at_ + 1) = at_ + 1 := w64 (by omega) (by omega)
  have hb : ∀ e : Int, 0 ≤ wrap64 (bits .and .u64 ((IntKind.u64.wrap e) / 1099511627776) 255) ∧ wrap64 (bits .and .u64 ((IntKind.u64.wrap e) / 1099511627776) 255) ≤ 255 := by
    intro e
    rw [wu64, and255 _ (by omega) (by omega), w64 (by omega) (by omega)]; omega
  rw [hw]
  by_cases c1 : at_ < (l.length : Int)
  · rw [if_pos c1, if_pos h0]
    split
    · exact ⟨_, _, rfl, by rw [w64 (by omega) (by omega)]; omega, by rw [w64 (by omega) (by omega)]; omega⟩
    · exact ⟨_, _, rfl, (hb _).1, (hb _).2⟩
  · rw [if_neg c1]
    split
    · exact ⟨_, _, rfl, by omega, by omega⟩
    · exact ⟨_, _, rfl, (hb _).1, (hb _).2⟩

theorem pick_small {l : List Int} (h : U8 l) (at_ seed n : Int) (h0 : 0 ≤ at_) (h1 : at_ ≤ 100000) (hn : 2 ≤ n) (hn' : n ≤ 200) : ∃ v s, spec_l00Src_pick.f l at_ seed n = some (v, at_ + 1, s) ∧ 0 ≤ v ∧ v < n := by
  obtain ⟨v, s, e, v0, v1⟩ := next_eq h at_ seed h0 h1
  refine ⟨v % n, s, ?_, Int.emod_nonneg _ (by omega), Int.emod_lt_of_pos _ (by omega)⟩
  unfold spec_l00Src_pick.f
  rw [if_neg (by omega), e]
  simp only [Option.bind_some]
  rw [if_neg (by omega), if_neg (by omega), tmod_pos _ _ v0]
theorem one_small {l : List Int} (h : U8 l) (at_ seed n : Int) (h0 : 0 ≤ at_) (h1 : at_ ≤ 100000) (hn : 2 ≤ n) (hn' : n ≤ 200) : ∃ v s, spec_l00Src_one.f l at_ seed n = some (v, at_ + 1, s) := by
  obtain ⟨v, s, e, -, -⟩ := pick_small h at_ seed n h0 h1 hn hn'
  refine ⟨v == 0, s, ?_⟩
  unfold spec_l00Src_one.f
  rw [e]; rfl
theorem pick_any {l : List Int} (h : U8 l) (at_ seed n : Int) (h0 : 0 ≤ at_) (h1 : at_ ≤ 100000) (hn : 1 ≤ n) (hn' : n ≤ 200) : ∃ v a s, spec_l00Src_pick.f l at_ seed n = some (v, a, s) ∧ 0 ≤ v ∧ v < n ∧ at_ ≤ a ∧ a ≤ at_ + 1 := by
  by_cases c : n = 1
  · subst c
    refine ⟨0, at_, seed, ?_, by omega, by omega, by omega, by omega⟩
    unfold spec_l00Src_pick.f; rw [if_pos (by omega)]
  · obtain ⟨v, s, e, v0, v1⟩ := pick_small h at_ seed n h0 h1 (by omega) hn'
    exact ⟨v, at_ + 1, s, e, v0, v1, by omega, by omega⟩
theorem one_any {l : List Int} (h : U8 l) (at_ seed n : Int) (h0 : 0 ≤ at_) (h1 : at_ ≤ 100000) (hn : 1 ≤ n) (hn' : n ≤ 200) : ∃ v a s, spec_l00Src_one.f l at_ seed n = some (v, a, s) ∧ at_ ≤ a ∧ a ≤ at_ + 1 := by
  obtain ⟨v, a, s, e, -, -, a0, a1⟩ := pick_any h at_ seed n h0 h1 hn hn'
  refine ⟨v == 0, a, s, ?_, a0, a1⟩
  unfold spec_l00Src_one.f
  rw [e]; rfl
end Go.Proofs.YtjpjlobpglmoiaaDoor.Pure
/- What the reference draws: levels and waves, and where the source stands behind them. No conditions. -/
namespace Go.Proofs.YtjpjlobpglmoiaaDoor.Pure
set_option linter.unusedVariables false
set_option linter.unusedSimpArgs false
open Go.RowKit Go.Proofs.YtjpjlobpglmoiaaDoor.A Go.Proofs.YtjpjlobpglmoiaaDoorW.PrintWords Go.Proofs.YtjpjlobpglmoiaaDoorW.PrintLast Go.Proofs.YtjpjlobpglmoiaaDoorW.PrintMore
theorem ev_levels {l : List Int} (h : U8 l) : ∀ (d : Nat) (acc : List Int) (lev at_ seed : Int), (lev = 48 ∨ lev = 49) → (∀ x ∈ acc, x = 48 ∨ x = 49) → 0 ≤ at_ → at_ + d ≤ 100000 → acc.length + d ≤ 1000 →
    ∃ xs p q, xs.length = acc.length + d ∧ (at_ ≤ p ∧ p ≤ at_ + d) ∧ (∀ x ∈ xs, x = 48 ∨ x = 49) ∧ Ev (fun k => spec_l07DrawLevels.l0 k (d : Int) acc lev l at_ seed) (strOfNums xs, p, q)
  | 0, acc, lev, at_, seed, hl, ha, h0, h1, h2 => by
    refine ⟨acc, at_, seed, by omega, by omega, ha, Ev.step (f := fun _ => some (strOfNums acc, at_, seed)) (fun k => ?_) (Ev.now _)⟩
    simp only [spec_l07DrawLevels.l0]
    rw [if_neg (by omega)]
  | d + 1, acc, lev, at_, seed, hl, ha, h0, h1, h2 => by
    obtain ⟨v, s, e⟩ := one_small h at_ seed 6 h0 (by omega) (by omega) (by omega)
    have hacc : ∀ y : Int, (y = 48 ∨ y = 49) → ∀ x ∈ acc ++ [y], x = 48 ∨ x = 49 := by
      intro y hy x hx
      rcases List.mem_append.1 hx with h_ | h_
      · exact ha x h_
      · rw [List.mem_singleton.1 h_]; exact hy
    have hw : wrap64 (((d + 1 : Nat) : Int) - 1) = (d : Int) := by rw [w64 (by omega) (by omega)]; omega
    have step : ∀ y : Int, (y = 48 ∨ y = 49) → (∀ k, spec_l07DrawLevels.l0 (k + 1) ((d + 1 : Nat) : Int) acc lev l at_ seed = spec_l07DrawLevels.l0 k (d : Int) (acc ++ [y]) y l (at_ + 1) s) →
        ∃ xs p q, xs.length = acc.length + (d + 1) ∧ (at_ ≤ p ∧ p ≤ at_ + (d + 1 : Nat)) ∧ (∀ x ∈ xs, x = 48 ∨ x = 49) ∧ Ev (fun k => spec_l07DrawLevels.l0 k ((d + 1 : Nat) : Int) acc lev l at_ seed) (strOfNums xs, p, q) := by
      intro y hy hk
      obtain ⟨xs, p, q, x1, x0, x2, x3⟩ := ev_levels h d (acc ++ [y]) y (at_ + 1) s hy (hacc y hy) (by omega) (by omega) (by rw [List.length_append]; simp; omega)
      exact ⟨xs, p, q, by rw [x1, List.length_append]; simp; omega, by omega, x2, Ev.step hk x3⟩
    cases v
    · refine step lev hl (fun k => ?_)
      simp only [spec_l07DrawLevels.l0]
      rw [if_pos (by omega), e]
      simp only [Option.bind_some, Bool.false_eq_true, if_false]
      rw [if_pos (by omega), hw]
    · refine step ((97 - lev) % 256) (by rcases hl with rfl | rfl <;> simp) (fun k => ?_)
      simp only [spec_l07DrawLevels.l0]
      rw [if_pos (by omega), e]
      simp only [Option.bind_some, if_true]
      rw [if_pos (by omega), hw]
theorem ev_drawLevels {l : List Int} (h : U8 l) (at_ seed : Int) (n : Nat) (h0 : 0 ≤ at_ ∧ at_ ≤ 80000) (hn : n ≤ 400) : ∃ (xs : List Int) (p q : Int), xs.length = n ∧ (at_ ≤ p ∧ p ≤ at_ + n + 1) ∧ (∀ x ∈ xs, x = 48 ∨ x = 49) ∧ Ev (fun k => spec_l07DrawLevels.f k l at_ seed (n : Int)) (strOfNums xs, p, q) := by
  obtain ⟨v, s, e, v0, v1⟩ := pick_small h at_ seed 2 h0.1 (by omega) (by omega) (by omega)
  have hlev : (wrap64 (48 + v)) % 256 = 48 ∨ (wrap64 (48 + v)) % 256 = 49 := by
    rw [w64 (by omega) (by omega)]; omega
  obtain ⟨xs, p, q, x1, x0, x2, x3⟩ := ev_levels h n [] ((wrap64 (48 + v)) % 256) (at_ + 1) s hlev (fun x hx => by simp at hx) (by omega) (by omega) (by simp; omega)
  refine ⟨xs, p, q, by simpa using x1, by omega, x2, ?_⟩
  unfold spec_l07DrawLevels.f
  simp only [e, Option.bind_some]
  exact x3
theorem ev_good {l : List Int} (h : U8 l) (some_ : Int) (hs : 1 ≤ some_ ∧ some_ ≤ 5) : ∀ (d : Nat) (acc : List Int) (lev at_ seed : Int), (lev = 48 ∨ lev = 49) → (∀ x ∈ acc, x = 48 ∨ x = 49) → 0 ≤ at_ → at_ + 2 * d ≤ 90000 → acc.length + d ≤ 1000 →
    ∃ xs p q, xs.length = acc.length + d ∧ (at_ ≤ p ∧ p ≤ at_ + 2 * d) ∧ (∀ x ∈ xs, x = 48 ∨ x = 49) ∧ Ev (fun k => spec_l01DrawGood.l0 k acc lev some_ (d : Int) l at_ seed) (strOfNums xs, p, q)
  | 0, acc, lev, at_, seed, hl, ha, h0, h1, h2 => by
    refine ⟨acc, at_, seed, by omega, by omega, ha, Ev.step (f := fun _ => some (strOfNums acc, at_, seed)) (fun k => ?_) (Ev.now _)⟩
    simp only [spec_l01DrawGood.l0]
    rw [if_neg (by omega)]
  | d + 1, acc, lev, at_, seed, hl, ha, h0, h1, h2 => by
    obtain ⟨v, a, s, e, a0, a1⟩ := one_any h at_ seed some_ h0 (by omega) hs.1 (by omega)
    have hacc : ∀ y : Int, (y = 48 ∨ y = 49) → ∀ x ∈ acc ++ [y], x = 48 ∨ x = 49 := by
      intro y hy x hx
      rcases List.mem_append.1 hx with h_ | h_
      · exact ha x h_
      · rw [List.mem_singleton.1 h_]; exact hy
    have hw : wrap64 (((d + 1 : Nat) : Int) - 1) = (d : Int) := by rw [w64 (by omega) (by omega)]; omega
    have step : ∀ (y a' s' : Int), (y = 48 ∨ y = 49) → at_ ≤ a' → a' ≤ at_ + 2 → (∀ k, spec_l01DrawGood.l0 (k + 1) acc lev some_ ((d + 1 : Nat) : Int) l at_ seed = spec_l01DrawGood.l0 k (acc ++ [y]) y some_ (d : Int) l a' s') →
        ∃ xs p q, xs.length = acc.length + (d + 1) ∧ (at_ ≤ p ∧ p ≤ at_ + 2 * (d + 1 : Nat)) ∧ (∀ x ∈ xs, x = 48 ∨ x = 49) ∧ Ev (fun k => spec_l01DrawGood.l0 k acc lev some_ ((d + 1 : Nat) : Int) l at_ seed) (strOfNums xs, p, q) := by
      intro y a' s' hy q0 q1 hk
      obtain ⟨xs, p, q, x1, x0, x2, x3⟩ := ev_good h some_ hs d (acc ++ [y]) y a' s' hy (hacc y hy) (by omega) (by omega) (by rw [List.length_append]; simp; omega)
      exact ⟨xs, p, q, by rw [x1, List.length_append]; simp; omega, by omega, x2, Ev.step hk x3⟩
    cases v
    · refine step lev a s hl (by omega) (by omega) (fun k => ?_)
      simp only [spec_l01DrawGood.l0]
      rw [if_pos (by omega), e]
      simp only [Option.bind_some, Bool.false_eq_true, if_false]
      rw [if_pos (by omega), hw]
    · obtain ⟨v2, s2, e2, z0, z1⟩ := pick_small h a s 2 (by omega) (by omega) (by omega) (by omega)
      have hlev : (wrap64 (48 + v2)) % 256 = 48 ∨ (wrap64 (48 + v2)) % 256 = 49 := by
        rw [w64 (by omega) (by omega)]; omega
      refine step ((wrap64 (48 + v2)) % 256) (a + 1) s2 hlev (by omega) (by omega) (fun k => ?_)
      simp only [spec_l01DrawGood.l0]
      rw [if_pos (by omega), e]
      simp only [Option.bind_some, if_true]
      rw [e2]
      simp only [Option.bind_some]
      rw [if_pos (by omega), hw]
theorem ev_drawGood {l : List Int} (h : U8 l) (at_ seed most : Int) (h0 : 0 ≤ at_ ∧ at_ ≤ 80000) (hm : 1 ≤ most ∧ most ≤ 100) : ∃ (xs : List Int) (p q : Int), (xs.length : Int) ≤ most ∧ (at_ ≤ p ∧ p ≤ at_ + 2 * most + 3) ∧ (∀ x ∈ xs, x = 48 ∨ x = 49) ∧ Ev (fun k => spec_l01DrawGood.f k l at_ seed most) (strOfNums xs, p, q) := by
  obtain ⟨v, s, e, v0, v1⟩ := pick_small h at_ seed 2 h0.1 (by omega) (by omega) (by omega)
  obtain ⟨v2, s2, e2, z0, z1⟩ := pick_small h (at_ + 1) s 5 (by omega) (by omega) (by omega) (by omega)
  obtain ⟨v3, s3, e3, y0, y1⟩ := pick_small h (at_ + 1 + 1) s2 (most + 1) (by omega) (by omega) (by omega) (by omega)
  have hlev : (wrap64 (48 + v)) % 256 = 48 ∨ (wrap64 (48 + v)) % 256 = 49 := by
    rw [w64 (by omega) (by omega)]; omega
  obtain ⟨n, rfl⟩ := Int.eq_ofNat_of_zero_le y0
  obtain ⟨xs, p, q, x1, x0, x2, x3⟩ := ev_good h (1 + v2) (by omega) n [] ((wrap64 (48 + v)) % 256) (at_ + 1 + 1 + 1) s3 hlev (fun x hx => by simp at hx) (by omega) (by omega) (by simp; omega)
  refine ⟨xs, p, q, by rw [x1]; simp; omega, by omega, x2, ?_⟩
  unfold spec_l01DrawGood.f
  simp only [e, e2, Option.bind_some]
  rw [w64 (x := most + 1) (by omega) (by omega), w64 (x := 1 + v2) (by omega) (by omega)]
  simp only [e3, Option.bind_some]
  exact x3
theorem text_any {l : List Int} (h : U8 l) (at_ seed : Int) (L : List ByteArray) (h0 : 0 ≤ at_ ∧ at_ ≤ 80000) (hL : 1 ≤ L.length) (hL' : L.length ≤ 200) : ∃ x a s, spec_l00Src_text.f l at_ seed L = some (x, a, s) ∧ x ∈ L ∧ at_ ≤ a ∧ a ≤ at_ + 1 := by
  obtain ⟨v, a, s, e, v0, v1, a0, a1⟩ := pick_any h at_ seed (L.length : Int) h0.1 (by omega) (by omega) (by omega)
  have hlt : v.toNat < L.length := by omega
  refine ⟨rdOf ByteArray.empty L v, a, s, ?_, ?_, a0, a1⟩
  · unfold spec_l00Src_text.f
    rw [e]
    simp only [Option.bind_some]
    rw [if_pos v0, if_pos v1]
  · simp only [rdOf, List.getD_eq_getElem?_getD, List.getElem?_eq_getElem hlt, Option.getD_some]
    exact List.getElem_mem hlt
end Go.Proofs.YtjpjlobpglmoiaaDoor.Pure
/- The reference draws valid scopes. No conditions. -/
namespace Go.Proofs.YtjpjlobpglmoiaaDoor.Pure
set_option linter.unusedVariables false
set_option linter.unusedSimpArgs false
open Go.RowKit Go.Proofs.YtjpjlobpglmoiaaDoor.A Go.Proofs.YtjpjlobpglmoiaaDoorW.PrintWords Go.Proofs.YtjpjlobpglmoiaaDoorW.PrintLast Go.Proofs.YtjpjlobpglmoiaaDoorW.PrintMore
theorem strn_size (l : List Int) : (strOfNums l).size = l.length := by
  simp [strOfNums, ByteArray.size]
theorem names5_small {x : ByteArray} (h : x ∈ names5) : x.size ≤ 1000 := by
  simp only [names5, List.mem_cons, List.not_mem_nil, or_false] at h
  rcases h with rfl | rfl | rfl | rfl | rfl <;> decide
theorem ev_dok {l : List Int} (h : U8 l) (n : Nat) (hn : n < 30) : ∀ (d : Nat) (at_ seed : Int) (N V : List ByteArray), VS N V → 0 ≤ at_ → at_ + 200 * d ≤ 60000 → ∃ N' V' p q, VS N' V' ∧ Ev (fun k => dokL k l (n : Int) (d : Int) at_ seed N V) (N', V', p, q)
  | 0, at_, seed, N, V, hv, h0, h1 => ⟨N, V, at_, seed, hv, Ev.step (f := fun _ => some (N, V, at_, seed)) (fun k => by rw [dokL, if_neg (by omega)]) (Ev.now _)⟩
  | d + 1, at_, seed, N, V, hv, h0, h1 => by
    obtain ⟨x, a, s, e, hx, a0, a1⟩ := text_any h at_ seed names5 (by omega) (by decide) (by decide)
    obtain ⟨xs, p, q, x1, x0, x2, x3⟩ := ev_drawLevels h a s n (by omega) (by omega)
    obtain ⟨b, p2, s2, e2, b0, b1⟩ := one_any h p q 3 (by omega) (by omega) (by omega) (by omega)
    have hz : (strOfNums xs).size ≤ 1000 := by rw [strn_size]; omega
    have hw : wrap64 (((d + 1 : Nat) : Int) - 1) = (d : Int) := by rw [w64 (by omega) (by omega)]; omega
    have hc : V.length = N.length ∧ x.size ≤ 1000 := ⟨hv.len, names5_small hx⟩
    have first : ∀ k, dokL (k + 1) l (n : Int) ((d + 1 : Nat) : Int) at_ seed N V = (spec_l07DrawLevels.f k l a s (n : Int)).bind fun b => (spec_l00Src_one.f l b.2.1 b.2.2 3).bind fun c =>
        if V.length = N.length ∧ x.size ≤ 1000 then
          if c.1 = true then (spec_l01DrawGood.f k l c.2.1 c.2.2 30).bind fun g => if g.1.size ≤ 1000 then dokL k l (n : Int) (d : Int) g.2.1 g.2.2 (setF N V x g.1).1 (setF N V x g.1).2.1 else none
          else if b.1.size ≤ 1000 then dokL k l (n : Int) (d : Int) c.2.1 c.2.2 (setF N V x b.1).1 (setF N V x b.1).2.1 else none
        else none := by
      intro k
      rw [dokL, if_pos (by omega), e, hw]
      rfl
    cases b
    · obtain ⟨N', V', p', q', hv', he⟩ := ev_dok h n hn d p2 s2 _ _ (hv.set x (strOfNums xs)) (by omega) (by omega)
      refine ⟨N', V', p', q', hv', Ev.step first (Ev.bind x3 ?_)⟩
      dsimp only
      rw [e2]
      simp only [Option.bind_some, if_pos hc, if_pos hz, Bool.false_eq_true, if_false]
      exact he
    · obtain ⟨ys, p3, q3, y1, y0, y2, y3⟩ := ev_drawGood h p2 s2 30 (by omega) (by omega)
      have hz2 : (strOfNums ys).size ≤ 1000 := by rw [strn_size]; omega
      obtain ⟨N', V', p', q', hv', he⟩ := ev_dok h n hn d p3 q3 _ _ (hv.set x (strOfNums ys)) (by omega) (by omega)
      refine ⟨N', V', p', q', hv', Ev.step first (Ev.bind x3 ?_)⟩
      dsimp only
      rw [e2]
      simp only [Option.bind_some, if_pos hc, if_true]
      refine Ev.bind y3 ?_
      simp only [if_pos hz2]
      exact he
theorem b10Scope {l : List Int} (h : U8 l) : ∃ N V, VS N V ∧ Ev (fun k => spec_B10Scope.f k l) (N, V) := by
  obtain ⟨n, s, e, v0, v1⟩ := pick_small h 0 0 30 (by omega) (by omega) (by omega) (by omega)
  obtain ⟨m, s2, e2, z0, z1⟩ := pick_small h (0 + 1) s 4 (by omega) (by omega) (by omega) (by omega)
  obtain ⟨n, rfl⟩ := Int.eq_ofNat_of_zero_le v0
  obtain ⟨m, rfl⟩ := Int.eq_ofNat_of_zero_le z0
  obtain ⟨N, V, p, q, hv, he⟩ := ev_dok h n (by omega) m (0 + 1 + 1) s2 [] [] VS.nil (by omega) (by omega)
  refine ⟨N, V, hv, ?_⟩
  unfold spec_B10Scope.f spec_l00From.f
  simp only [Option.bind_some]
  refine Ev.bind (a := (N, V, p, q)) ?_ (Ev.now _)
  unfold spec_l11DrawOk.f
  simp only [e, e2, Option.bind_some]
  exact he
end Go.Proofs.YtjpjlobpglmoiaaDoor.Pure
/- Names, waves and scopes of the program: what is valid. No conditions. -/
namespace Go.Proofs.YtjpjlobpglmoiaaDoor.Pure
set_option linter.unusedVariables false
set_option linter.unusedSimpArgs false
open Go.RowKit Go.Proofs.YtjpjlobpglmoiaaDoor.A Go.Proofs.YtjpjlobpglmoiaaDoorW.PrintWords Go.Proofs.YtjpjlobpglmoiaaDoorW.PrintLast Go.Proofs.YtjpjlobpglmoiaaDoorW.PrintMore
theorem drop_nil {p : UInt8 → Bool} : ∀ (l : List UInt8), l.dropWhile p = [] → l.all p = true
  | [], _ => rfl
  | x :: l, h => by
    rw [List.dropWhile_cons] at h
    cases hx : p x
    · rw [hx] at h; simp at h
    · rw [hx, if_pos rfl] at h
      rw [List.all_cons, hx, drop_nil l h]; rfl
theorem drop_head {p : UInt8 → Bool} : ∀ (l : List UInt8) (x : UInt8) (r : List UInt8), l.dropWhile p = x :: r → p x = false
  | [], _, _, h => by simp at h
  | y :: l, x, r, h => by
    rw [List.dropWhile_cons] at h
    cases hy : p y
    · rw [hy, if_neg (by decide)] at h
      injection h with h1 h2
      rw [← h1]; exact hy
    · rw [hy, if_pos rfl] at h
      exact drop_head l x r h
theorem drop_all {p : UInt8 → Bool} : ∀ (l : List UInt8), l.all p = true → l.dropWhile p = []
  | [], _ => rfl
  | x :: l, h => by
    rw [List.all_cons, Bool.and_eq_true] at h
    rw [List.dropWhile_cons, if_pos h.1]
    exact drop_all l h.2
theorem trim_nil (l cs : List UInt8) : (Lib.trimS l cs == []) = l.all (cs.contains ·) := by
  unfold Lib.trimS Lib.trimLeftS Lib.trimRightS
  cases h : l.all (cs.contains ·)
  · rw [beq_eq_false_iff_ne]
    intro h2
    have h3 := drop_nil _ h2
    cases hd : l.reverse.dropWhile (cs.contains ·) with
    | nil =>
      have h4 := drop_nil _ hd
      rw [List.all_reverse, h] at h4
      exact absurd h4 (by decide)
    | cons x r =>
      rw [hd, List.all_reverse, List.all_cons, drop_head _ x r hd, Bool.false_and] at h3
      exact absurd h3 (by decide)
  · rw [beq_iff_eq, drop_all l.reverse (by rw [List.all_reverse]; exact h)]
    rfl
theorem all_u8 {p : UInt8 → Bool} (h : (List.range 256).all (fun n => p (UInt8.ofNat n)) = true) (x : UInt8) : p x = true := by
  have := List.all_eq_true.1 h x.toNat (List.mem_range.2 x.toNat_lt)
  rwa [UInt8.ofNat_toNat] at this
theorem has_small (x : UInt8) : ([97, 98, 99, 100, 101, 102, 103, 104, 105, 106, 107, 108, 109, 110, 111, 112, 113, 114, 115, 116, 117, 118, 119, 120, 121, 122] : List UInt8).contains x = decide (97 ≤ x.toNat ∧ x.toNat ≤ 122) :=
  beq_iff_eq.1 (all_u8 (p := fun x => ([97, 98, 99, 100, 101, 102, 103, 104, 105, 106, 107, 108, 109, 110, 111, 112, 113, 114, 115, 116, 117, 118, 119, 120, 121, 122] : List UInt8).contains x == decide (97 ≤ x.toNat ∧ x.toNat ≤ 122)) (by decide +kernel) x)
theorem has_level (x : UInt8) : ([48, 49] : List UInt8).contains x = decide (x.toNat = 48 ∨ x.toNat = 49) :=
  beq_iff_eq.1 (all_u8 (p := fun x => ([48, 49] : List UInt8).contains x == decide (x.toNat = 48 ∨ x.toNat = 49)) (by decide +kernel) x)
theorem data_size (s : ByteArray) : s.data.toList.length = s.size := by simp
theorem implName (s : ByteArray) (hs : s.size ≤ 1048576) : impl_IsName.f s = some (nameB s) := by
  unfold impl_IsName.f nameB strings_Trim.f
  by_cases c : 1 ≤ s.size
  · rw [if_pos (by omega)]
    by_cases c2 : s.size ≤ 10
    · rw [if_pos (by omega), if_pos ⟨by omega, by decide, by decide⟩, Option.bind_some, decide_eq_true ⟨c, c2⟩, Bool.and_true, ByteArray.toList_mk, trim_nil]
      congr 2
      funext x
      exact has_small x
    · rw [if_neg (by omega), decide_eq_false (fun z => c2 z.2), Bool.and_false]
  · rw [if_neg (by omega), decide_eq_false (fun z => c z.1), Bool.and_false]
theorem implWave (s : ByteArray) (hs : s.size ≤ 1048576) : impl_IsWave.f s = some (waveB s) := by
  unfold impl_IsWave.f waveB strings_Trim.f
  by_cases c : s.size ≤ 400
  · rw [if_pos (by omega), if_pos ⟨by omega, by decide, by decide⟩, Option.bind_some, decide_eq_true c, Bool.and_true, ByteArray.toList_mk, trim_nil]
    congr 2
    funext x
    exact has_level x
  · rw [if_neg (by omega), decide_eq_false c, Bool.and_false]
theorem getD_mem {l : List ByteArray} {k : Nat} (h : k < l.length) : l.getD k ByteArray.empty ∈ l := by
  rw [List.getD_eq_getElem?_getD, List.getElem?_eq_getElem h]; exact List.getElem_mem h
theorem ev_scopeLoop (l0 l1 : List ByteArray) (h6 : l0.length ≤ 6) (hl : l1.length = l0.length) (hs0 : ∀ s ∈ l0, s.size ≤ 1048576) (hs1 : ∀ s ∈ l1, s.size ≤ 1048576) : ∀ (t k : Nat), k + t = l0.length → (List.range k).all (atB l0 l1) = true →
    Ev (fun n => impl_ValidScope.l0 n l0 (l0.length : Int) (k : Int) l0 l1) ((List.range l0.length).all (atB l0 l1))
  | 0, k, hk, ha => by
    refine Ev.step (f := fun _ => some true) (fun n => ?_) (by rw [show l0.length = k by omega, ha]; exact Ev.now _)
    simp only [impl_ValidScope.l0]; rw [if_neg (by omega)]
  | t + 1, k, hk, ha => by
    have hlt : k < l0.length := by omega
    have e0 : rdOf ByteArray.empty l0 (k : Int) = l0.getD k ByteArray.empty := by simp [rdOf]
    have e1 : rdOf ByteArray.empty l1 (k : Int) = l1.getD k ByteArray.empty := by simp [rdOf]
    have hn := implName _ (hs0 _ (getD_mem hlt))
    have hv := implWave _ (hs1 _ (getD_mem (show k < l1.length by omega)))
    have hw : wrap64 ((k : Int) + 1) = ((k + 1 : Nat) : Int) := by rw [w64' (by omega) (by omega)]; rfl
    have bad : atB l0 l1 k = false → (List.range l0.length).all (atB l0 l1) = false := range_bad hlt
    have step : ∀ n, impl_ValidScope.l0 (n + 1) l0 (l0.length : Int) (k : Int) l0 l1 = if atB l0 l1 k = true then impl_ValidScope.l0 n l0 (l0.length : Int) ((k + 1 : Nat) : Int) l0 l1 else some false := by
      intro n
      simp only [impl_ValidScope.l0]
      rw [if_pos (by omega), if_pos (by omega), if_pos (by omega), e0, hn, Option.bind_some]
      unfold atB
      cases b1 : nameB (l0.getD k ByteArray.empty)
      · simp
      · simp only [if_true, Bool.true_and]
        rw [if_pos (by omega), e1, hv, Option.bind_some]
        cases b2 : waveB (l1.getD k ByteArray.empty)
        · simp
        · simp only [if_true, Bool.and_true]
          by_cases h0 : k = 0
          · subst h0
            rw [if_neg (by decide), hw]; simp
          · have e2 : wrap64 ((k : Int) - 1) = ((k - 1 : Nat) : Int) := by rw [w64' (by omega) (by omega)]; omega
            have e3 : rdOf ByteArray.empty l0 ((k - 1 : Nat) : Int) = l0.getD (k - 1) ByteArray.empty := by simp [rdOf]
            rw [if_pos (by omega), e2, if_pos (by omega), if_pos (by omega), e3, hw, decide_eq_false h0, Bool.false_or]
    refine Ev.step (f := fun n => if atB l0 l1 k = true then impl_ValidScope.l0 n l0 (l0.length : Int) ((k + 1 : Nat) : Int) l0 l1 else some false) step ?_
    cases hk2 : atB l0 l1 k
    · rw [bad hk2]; exact ev_const (fun n => rfl)
    · simp only [if_true]
      exact ev_scopeLoop l0 l1 h6 hl hs0 hs1 t (k + 1) (by omega) (range_next ha hk2)
theorem ev_implScope (l0 l1 : List ByteArray) (h0 : l0.length ≤ 1048576) (h1 : l1.length ≤ 1048576) (hs0 : ∀ s ∈ l0, s.size ≤ 1048576) (hs1 : ∀ s ∈ l1, s.size ≤ 1048576) : Ev (fun n => impl_ValidScope.f n l0 l1) (scopeB l0 l1) := by
  have no : Ev (fun n => impl_ValidScope.j0 n true l0 l1) false := Ev.step (f := fun _ => some false) (fun k => rfl) (Ev.now _)
  unfold impl_ValidScope.f scopeB
  by_cases c : (l0.length : Int) > 6
  · simp only [if_pos c]
    rw [decide_eq_false (fun z => by omega), Bool.false_and]; exact no
  · simp only [if_neg c]
    by_cases c2 : l1.length = l0.length
    · rw [decide_eq_true ⟨by omega, c2⟩, Bool.true_and, show ((l1.length : Int) != (l0.length : Int)) = false by simp; omega]
      refine Ev.step (f := fun n => impl_ValidScope.l0 n l0 (l0.length : Int) 0 l0 l1) (fun n => rfl) ?_
      exact ev_scopeLoop l0 l1 (by omega) c2 hs0 hs1 l0.length 0 (by omega) rfl
    · rw [decide_eq_false (fun z => c2 z.2), Bool.false_and, show ((l1.length : Int) != (l0.length : Int)) = true by simp; omega]; exact no
theorem specScope (l0 l1 : List ByteArray) (hs0 : ∀ s ∈ l0, s.size ≤ 1048576) (hs1 : ∀ s ∈ l1, s.size ≤ 1048576) : spec_ValidScope.f l0 l1 = some (scopeB l0 l1) := by
  unfold spec_ValidScope.f
  rw [if_pos ⟨fun s h => Nat.le_trans (hs0 s h) (by decide), fun s h => Nat.le_trans (hs1 s h) (by decide)⟩]
theorem ev_szScope (l0 l1 : List ByteArray) (h0 : l0.length ≤ maxLen) (h1 : l1.length ≤ maxLen) (hs0 : ∀ s ∈ l0, s.size ≤ maxLen) (hs1 : ∀ s ∈ l1, s.size ≤ maxLen) : ∃ r, Ev (fun k => laws_szScope.f k l0 l1 1048576) r ∧ (r < 0 ∨ 0 ≤ r ∧ bulk l0 + l0.length + bulk l1 + l1.length ≤ 1048576) := by
  obtain ⟨r, hr, hrr⟩ := ev_sz l0 1048576 (by decide) (by decide) h0 hs0
  unfold laws_szScope.f
  by_cases c : r < 0
  · exact ⟨-1, Ev.bind hr (by simp only [if_pos c]; exact Ev.now _), .inl (by decide)⟩
  · obtain ⟨hr0, hr1⟩ : 0 ≤ r ∧ r + bulk l0 + l0.length = 1048576 := by rcases hrr with h | h; exact absurd h c; exact h
    obtain ⟨q, hq, hqq⟩ := ev_sz l1 r hr0 (by omega) h1 hs1
    by_cases c2 : q < 0
    · exact ⟨-1, Ev.bind hr (by simp only [if_neg c]; exact Ev.bind hq (by simp only [if_pos c2]; exact Ev.now _)), .inl (by decide)⟩
    · obtain ⟨hq0, hq1⟩ : 0 ≤ q ∧ q + bulk l1 + l1.length = r := by rcases hqq with h | h; exact absurd h c2; exact h
      exact ⟨q, Ev.bind hr (by simp only [if_neg c]; exact Ev.bind hq (by simp only [if_neg c2]; exact Ev.now _)), .inr ⟨hq0, by omega⟩⟩
theorem ev_toScope (l0 l1 : List ByteArray) (h0 : l0.length ≤ 1048576) (h1 : l1.length ≤ 1048576) : Ev (fun k => laws_toScope.f k l0 l1) (l0, l1) := by
  unfold laws_toScope.f
  exact Ev.bind (ev_to l0 h0) (Ev.bind (ev_to l1 h1) (Ev.now _))
theorem ev_eqScope (l0 l1 : List ByteArray) (h0 : l0.length ≤ 1048576) (h1 : l1.length ≤ 1048576) : Ev (fun k => laws_eqScope.f k l0 l1 l0 l1) true := by
  unfold laws_eqScope.f
  exact Ev.bind (ev_eqs l0 h0) (by simp only [if_true]; exact Ev.bind (ev_eqs l1 h1) (by simp only [if_true]; exact Ev.now _))
end Go.Proofs.YtjpjlobpglmoiaaDoor.Pure
