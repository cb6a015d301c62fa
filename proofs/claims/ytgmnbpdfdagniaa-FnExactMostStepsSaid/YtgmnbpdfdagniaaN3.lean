/- The links' most steps: both sides' functions, walked. No conditions. -/
import Derived.Test.YtgmnbpdfdagniaaL10
namespace Go.Proofs.Ytgmnbpdfdagniaa.A
open Go.RowKit Go.Proofs.YtgmnbpdfdagniaaW.PrintWords Go.Proofs.YtgmnbpdfdagniaaW.PrintLast Go.Proofs.YtgmnbpdfdagniaaW.PrintMore
set_option linter.unusedVariables false
set_option linter.unusedSimpArgs false
def ansM (l : Lnk) (ratio : Int) : Int × Bool := if l.wd = 0 then (0, true) else (msN bigN l ratio bigN 1 [x0K]).getD (0, false)
theorem ansM_zero {l : Lnk} {ratio : Int} (h : l.wd = 0) : ansM l ratio = (0, true) := by unfold ansM; rw [if_pos h]
theorem ansM_is {l : Lnk} {ratio : Int} (h : linkV l = true) (hr : ratioV ratio = true) (hs : (ansL l ratio true).2 = false) (hw : ¬ l.wd = 0) : ∃ v M', lgF l ratio bigN zN [] = some (v, true, M') ∧ 0 ≤ v ∧ v ≤ 400 ∧ msN bigN l ratio bigN 1 [x0K] = some (v + 1, true) ∧ ansM l ratio = (v + 1, true) := by
  obtain ⟨v, M', e, h0, h1, h2⟩ := most_both (linkV_ok h) (of_decide_eq_true hr) (no_acc (ansL_fault h hr).2.2 hs) hw bigN (Nat.le_refl _)
  exact ⟨v, M', e, h0, h1, h2, by unfold ansM; rw [if_neg hw, h2]; rfl⟩
theorem lgF.calls0 (l : Lnk) (ratio : Int) (bm : Nat) (v : Int) (M' : MapI) (w : World) (h : lgF l ratio bigN zN [] = some (v, true, M')) (hm : MapN w bm (mapI [])) :
    Calls Try.prog 40 #[.agg #[.int .i64 l.ph, .int .i64 l.sg, .int .i64 l.sk, .int .i64 l.wd], .int .i64 ratio, .agg #[.int .i64 0, .int .i64 0, .int .i64 0, .int .i64 (-1), .bool false, .int .i64 0, .int .i64 0, .int .i64 0, .int .i64 0, .int .i64 0, .int .i64 0, .int .i64 0, .int .u8 0, .int .i64 0], .map (some bm)] w fun e w' => e = .returned (.tuple #[.int .i64 v, .bool true]) ∧ MapN w' bm (mapI M') ∧ KS (fun i => i = bm) w w' := lgF.calls l ratio bm bigN zN [] M' v true w h hm
set_option maxHeartbeats 6400000 in
set_option maxRecDepth 100000 in
theorem lgF_most (l : Lnk) (ratio : Int) (v : Int) (M' : MapI) (w : World) (hs : (linkV l && (ratioV ratio && !(ansL l ratio true).2)) = true) (hw : ¬ l.wd = 0) (hv : 0 ≤ v ∧ v ≤ 400) (h : lgF l ratio bigN zN [] = some (v, true, M')) :
    Calls Try.prog 22 #[.agg #[.int .i64 l.ph, .int .i64 l.sg, .int .i64 l.sk, .int .i64 l.wd], .int .i64 ratio] w fun e w' => e = .returned (.tuple #[.int .i64 (v + 1), .bool true]) ∧ Below w.heap.size w w' := by
  have HS := Aside0.mk hs
  have HLG := Aside0.mk h
  have hwb : (l.wd == 0) = false := beq_eq_false_iff_ne.2 hw
  have HW1 := Aside0.mk (show wrap64 (v + 1) = v + 1 from small64 (by omega) (by omega))
  clear hs h hw hv
  go_enter Try.func22, Try.ntmps22
  go_upto_region 5 with (first
    | ((with_reducible refine gate_dst (N := 2) rfl ?_); refine box_event ?hg (N := 2) ?hd (cs := #[.int .i64 l.ph, .int .i64 l.sg, .int .i64 l.sk, .int .i64 l.wd]) (t := 33) ?hr ?_; (case hd => rfl); (case hg => rfl); (case hr => first | (go_simp; done) | (go_simp; rfl)); intro gl hgl W1 hbox hb; have L1 := Aside0.mk (show W1.heap[gl]? = some (boxL l) from hbox); have B1 := Aside0.mk hb; clear hbox hb hgl)
    | ((with_reducible refine gate_dst (N := 8) rfl ?_); refine load_row_event rfl 33 (.tmp 2) rfl gl rfl 33 #[.int .i64 l.ph, .int .i64 l.sg, .int .i64 l.sk, .int .i64 l.wd] _ L1.out Try.underlying33 rfl (by kernel_rfl) ?_)
    | (go_at_call 18; (with_reducible refine (impl_safe_ans l ratio _).mono ?_); rintro e w2 ⟨rfl, hb⟩; rw [HS.out]; have L2 := Aside0.mk (blk_below L1.out hb); have B2 := Aside0.mk (below_step B1.out hb); have l3 : w2.cell? ⟨gl, 3, none⟩ = some (.int .i64 l.wd) := (blk_cell L2.out 3).trans rfl; clear hb))
  clear l3
  go_cut [6, 7] from 15 to 23 (fun v6 v7 wc => v6 = .int .i64 v ∧ v7 = .bool true ∧ Aside0 (Below w.heap.size w wc))
  case first =>
    refine wp_region_held_drew (S := (fun w' => w'.heap[gl]? = some (boxL l))) (by kernel_rfl) L2.out (fun hHeld => ?_)
    refine wpAnyH_take (i := 0) (oi := { dst := some 16, op := .load 33 (.tmp 2), type := 33, pos := _, after := _, guard := none }) (v := .agg #[.int .i64 l.ph, .int .i64 l.sg, .int .i64 l.sk, .int .i64 l.wd]) rfl (by kernel_rfl) (by kernel_rfl) (by kernel_rfl) (fun _ _ _ h => h) (yields_load_row (by rfl) 33 (.tmp 2) rfl gl rfl 33 #[.int .i64 l.ph, .int .i64 l.sg, .int .i64 l.sk, .int .i64 l.wd] _ (fun w h => h) Try.underlying33 rfl (by kernel_rfl)) (by assumption) ?_
    simp only [Act.put, List.setIfInBounds_toArray, List.set_cons_zero, List.set_cons_succ]
    refine wpAnyH_take (i := 1) (oi := { dst := some 17, op := .move (.tmp 1), type := 2, pos := _, after := _, guard := none }) (v := .int .i64 ratio) rfl (by kernel_rfl) (by kernel_rfl) (by kernel_rfl) (fun _ _ _ h => h) (Or.inl ⟨by rfl, by intro w hSw; (try dsimp only at hSw); go_simp⟩) (by assumption) ?_
    simp only [Act.put, List.setIfInBounds_toArray, List.set_cons_zero, List.set_cons_succ]
    refine wpAnyH_ready (rs := [2, 4]) (by kernel_rfl) (by simp) ?_
    refine AllReadyH.cons (o := { dst := some 18, op := .call { callee := .value (.func 41), args := #[], argTypes := #[] }, type := 53, pos := _, after := _, guard := none }) rfl ?s1 ?m1
    case s1 =>
      intro K hK
      rw [if_pos (by rfl)]
      go_simp
      go_at_call 41
      (with_reducible refine (startOfLink.calls _).mono ?_)
      rintro e v1 ⟨rfl, hb⟩
      have L3 := Aside0.mk (blk_below (w := w2.drew) L2.out hb)
      have B3 := Aside0.mk (below_step (below_drew B2.out) hb)
      clear hb
      refine hK.out _ _ L3.out (fun hHeld => ?_)
      clear hK K
      refine wpAnyH_take (i := 3) (oi := { dst := some 19, op := .build 55 #[(0, .tmp 18)], type := 55, pos := _, after := _, guard := none }) (v := .agg #[.int .i64 0, .int .i64 0, .int .i64 0, .int .i64 (-1), .bool false, .int .i64 0, .int .i64 0, .int .i64 0, .int .i64 0, .int .i64 0, .int .i64 0, .int .i64 0, .int .u8 0, .int .i64 0]) rfl (by kernel_rfl) (by kernel_rfl) (by kernel_rfl) (fun _ _ _ h => h) (Or.inl ⟨by rfl, by intro w hSw; (try dsimp only at hSw); go_simp⟩) (by assumption) ?_
      simp only [Act.put, List.setIfInBounds_toArray, List.set_cons_zero, List.set_cons_succ]
      refine wpAnyH_ready (rs := [4]) (by kernel_rfl) (by simp) ?_
      refine AllReadyH.cons (o := { dst := some 20, op := .makeMap 70 none, type := 70, pos := _, after := _, guard := none }) rfl ?s2 ?m2
      case m2 => with_reducible exact AllReadyH.nil
      intro K hK
      rw [if_pos (by rfl)]
      have hMM : (Instr.makeMap 70 none).run Try.prog v1 = .ok (.map (some v1.heap.size)) (v1.alloc (.map #[] 0)) := by rw [run_makeMap]
      go_simp
      have L4 := Aside0.mk (blk_alloc L3.out (.map #[] 0))
      have B4 := Aside0.mk (below_alloc B3.out (.map #[] 0))
      have HM := Aside0.mk (show MapN (v1.alloc (.map #[] 0)) v1.heap.size (mapI []) from ⟨#[], 0, blk_new v1 _, rfl⟩)
      refine hK.out _ _ L4.out (fun hHeld => ?_)
      clear hK K hMM
      refine wpAnyH_ready (rs := [5]) (by kernel_rfl) (by simp) ?_
      refine AllReadyH.cons (o := { dst := some 21, op := .call { callee := .value (.func 40), args := #[.tmp 16, .tmp 17, .tmp 19, .tmp 20], argTypes := #[33, 2, 55, 70] }, type := 37, pos := _, after := _, guard := none }) rfl ?s3 ?m3
      case m3 => with_reducible exact AllReadyH.nil
      intro K hK
      rw [if_pos (by rfl)]
      go_simp
      go_at_call 40
      (with_reducible refine (lgF.calls0 l ratio v1.heap.size v M' _ HLG.out HM.out).mono ?_)
      rintro e v9 ⟨rfl, hm9, hk9⟩
      have L9 := Aside0.mk (hk9.keep L4.out (MapN.ne HM.out L4.out))
      have B9 := Aside0.mk (hk9.low B4.out (fun i e => by rw [e]; exact B3.out.size))
      clear hm9 hk9
      refine hK.out _ _ L9.out (fun hHeld => ?_)
      clear hK K
      refine wpAnyH_take (i := 6) (oi := { dst := some 15, op := .move (.tmp 21), type := 37, pos := _, after := _, guard := none }) (v := .tuple #[.int .i64 v, .bool true]) rfl (by kernel_rfl) (by kernel_rfl) (by kernel_rfl) (fun _ _ _ h => h) (Or.inl ⟨by rfl, by intro w hSw; (try dsimp only at hSw); go_simp⟩) (by assumption) ?_
      simp only [Act.put, List.setIfInBounds_toArray, List.set_cons_zero, List.set_cons_succ]
      refine wpAnyH_take (i := 7) (oi := { dst := some 22, op := .extract (.tmp 15) 0, type := 2, pos := _, after := _, guard := none }) (v := .int .i64 v) rfl (by kernel_rfl) (by kernel_rfl) (by kernel_rfl) (fun _ _ _ h => h) (Or.inl ⟨by rfl, by intro w hSw; (try dsimp only at hSw); go_simp⟩) (by assumption) ?_
      simp only [Act.put, List.setIfInBounds_toArray, List.set_cons_zero, List.set_cons_succ]
      refine wpAnyH_take (i := 8) (oi := { dst := some 23, op := .extract (.tmp 15) 1, type := 4, pos := _, after := _, guard := none }) (v := .bool true) rfl (by kernel_rfl) (by kernel_rfl) (by kernel_rfl) (fun _ _ _ h => h) (Or.inl ⟨by rfl, by intro w hSw; (try dsimp only at hSw); go_simp⟩) (by assumption) ?_
      simp only [Act.put, List.setIfInBounds_toArray, List.set_cons_zero, List.set_cons_succ]
      refine wpAnyH_take (i := 9) (oi := { dst := some 6, op := .assign (.tmp 22), type := 2, pos := _, after := _, guard := none }) (v := .int .i64 v) rfl (by kernel_rfl) (by kernel_rfl) (by kernel_rfl) (fun _ _ _ h => h) (Or.inl ⟨by rfl, by intro w hSw; (try dsimp only at hSw); go_simp⟩) (by assumption) ?_
      simp only [Act.put, List.setIfInBounds_toArray, List.set_cons_zero, List.set_cons_succ]
      refine wpAnyH_take (i := 10) (oi := { dst := some 7, op := .assign (.tmp 23), type := 4, pos := _, after := _, guard := none }) (v := .bool true) rfl (by kernel_rfl) (by kernel_rfl) (by kernel_rfl) (fun _ _ _ h => h) (Or.inl ⟨by rfl, by intro w hSw; (try dsimp only at hSw); go_simp⟩) (by assumption) ?_
      simp only [Act.put, List.setIfInBounds_toArray, List.set_cons_zero, List.set_cons_succ]
      refine wpAnyH_done (by kernel_rfl) ?_ _
      go_wp2
      go_meet
      case rel => exact ⟨rfl, rfl, B9⟩
    case m1 =>
      refine AllReadyH.cons (o := { dst := some 20, op := .makeMap 70 none, type := 70, pos := _, after := _, guard := none }) rfl ?s6 ?m6
      case m6 => with_reducible exact AllReadyH.nil
      case s6 =>
        intro K hK
        rw [if_pos (by rfl)]
        have hMM : (Instr.makeMap 70 none).run Try.prog w2.drew = .ok (.map (some w2.drew.heap.size)) (w2.drew.alloc (.map #[] 0)) := by rw [run_makeMap]
        go_simp
        have L3 := Aside0.mk (show (w2.drew.alloc (.map #[] 0)).heap[gl]? = some (boxL l) from blk_alloc L2.out (.map #[] 0))
        have B3 := Aside0.mk (below_alloc (below_drew B2.out) (.map #[] 0))
        have HM3 := Aside0.mk (show MapN (w2.drew.alloc (.map #[] 0)) w2.heap.size (mapI []) from ⟨#[], 0, blk_new w2.drew _, rfl⟩)
        refine hK.out _ _ L3.out (fun hHeld => ?_)
        clear hK K hMM
        refine wpAnyH_ready (rs := [2]) (by kernel_rfl) (by simp) ?_
        refine AllReadyH.cons (o := { dst := some 18, op := .call { callee := .value (.func 41), args := #[], argTypes := #[] }, type := 53, pos := _, after := _, guard := none }) rfl ?s4 ?m4
        case m4 => with_reducible exact AllReadyH.nil
        intro K hK
        rw [if_pos (by rfl)]
        go_simp
        go_at_call 41
        (with_reducible refine (startOfLink.calls _).mono ?_)
        rintro e v1 ⟨rfl, hb⟩
        have L4 := Aside0.mk (blk_below L3.out hb)
        have B4 := Aside0.mk (below_step B3.out hb)
        have HM := Aside0.mk (HM3.out.below (B := 0) hb)
        clear hb
        refine hK.out _ _ L4.out (fun hHeld => ?_)
        clear hK K
        refine wpAnyH_take (i := 3) (oi := { dst := some 19, op := .build 55 #[(0, .tmp 18)], type := 55, pos := _, after := _, guard := none }) (v := .agg #[.int .i64 0, .int .i64 0, .int .i64 0, .int .i64 (-1), .bool false, .int .i64 0, .int .i64 0, .int .i64 0, .int .i64 0, .int .i64 0, .int .i64 0, .int .i64 0, .int .u8 0, .int .i64 0]) rfl (by kernel_rfl) (by kernel_rfl) (by kernel_rfl) (fun _ _ _ h => h) (Or.inl ⟨by rfl, by intro w hSw; (try dsimp only at hSw); go_simp⟩) (by assumption) ?_
        simp only [Act.put, List.setIfInBounds_toArray, List.set_cons_zero, List.set_cons_succ]
        refine wpAnyH_ready (rs := [5]) (by kernel_rfl) (by simp) ?_
        refine AllReadyH.cons (o := { dst := some 21, op := .call { callee := .value (.func 40), args := #[.tmp 16, .tmp 17, .tmp 19, .tmp 20], argTypes := #[33, 2, 55, 70] }, type := 37, pos := _, after := _, guard := none }) rfl ?s5 ?m5
        case m5 => with_reducible exact AllReadyH.nil
        intro K hK
        rw [if_pos (by rfl)]
        go_simp
        go_at_call 40
        (with_reducible refine (lgF.calls0 l ratio w2.heap.size v M' _ HLG.out HM.out).mono ?_)
        rintro e v9 ⟨rfl, hm9, hk9⟩
        have L9 := Aside0.mk (hk9.keep L4.out (MapN.ne HM.out L4.out))
        have B9 := Aside0.mk (hk9.low B4.out (fun i e => by rw [e]; exact B2.out.size))
        clear hm9 hk9
        refine hK.out _ _ L9.out (fun hHeld => ?_)
        clear hK K
        refine wpAnyH_take (i := 6) (oi := { dst := some 15, op := .move (.tmp 21), type := 37, pos := _, after := _, guard := none }) (v := .tuple #[.int .i64 v, .bool true]) rfl (by kernel_rfl) (by kernel_rfl) (by kernel_rfl) (fun _ _ _ h => h) (Or.inl ⟨by rfl, by intro w hSw; (try dsimp only at hSw); go_simp⟩) (by assumption) ?_
        simp only [Act.put, List.setIfInBounds_toArray, List.set_cons_zero, List.set_cons_succ]
        refine wpAnyH_take (i := 7) (oi := { dst := some 22, op := .extract (.tmp 15) 0, type := 2, pos := _, after := _, guard := none }) (v := .int .i64 v) rfl (by kernel_rfl) (by kernel_rfl) (by kernel_rfl) (fun _ _ _ h => h) (Or.inl ⟨by rfl, by intro w hSw; (try dsimp only at hSw); go_simp⟩) (by assumption) ?_
        simp only [Act.put, List.setIfInBounds_toArray, List.set_cons_zero, List.set_cons_succ]
        refine wpAnyH_take (i := 8) (oi := { dst := some 23, op := .extract (.tmp 15) 1, type := 4, pos := _, after := _, guard := none }) (v := .bool true) rfl (by kernel_rfl) (by kernel_rfl) (by kernel_rfl) (fun _ _ _ h => h) (Or.inl ⟨by rfl, by intro w hSw; (try dsimp only at hSw); go_simp⟩) (by assumption) ?_
        simp only [Act.put, List.setIfInBounds_toArray, List.set_cons_zero, List.set_cons_succ]
        refine wpAnyH_take (i := 9) (oi := { dst := some 6, op := .assign (.tmp 22), type := 2, pos := _, after := _, guard := none }) (v := .int .i64 v) rfl (by kernel_rfl) (by kernel_rfl) (by kernel_rfl) (fun _ _ _ h => h) (Or.inl ⟨by rfl, by intro w hSw; (try dsimp only at hSw); go_simp⟩) (by assumption) ?_
        simp only [Act.put, List.setIfInBounds_toArray, List.set_cons_zero, List.set_cons_succ]
        refine wpAnyH_take (i := 10) (oi := { dst := some 7, op := .assign (.tmp 23), type := 4, pos := _, after := _, guard := none }) (v := .bool true) rfl (by kernel_rfl) (by kernel_rfl) (by kernel_rfl) (fun _ _ _ h => h) (Or.inl ⟨by rfl, by intro w hSw; (try dsimp only at hSw); go_simp⟩) (by assumption) ?_
        simp only [Act.put, List.setIfInBounds_toArray, List.set_cons_zero, List.set_cons_succ]
        refine wpAnyH_done (by kernel_rfl) ?_ _
        go_wp2
        go_meet
        case rel => exact ⟨rfl, rfl, B9⟩
  case rest =>
    obtain ⟨rfl, rfl, B9⟩ := hcut
    go_wp2
    go_ret2
    first
      | exact ⟨rfl, B9.out⟩
      | exact ⟨by rw [HW1.out]; rfl, B9.out⟩
      | exact ⟨by rw [← HW1.out]; rfl, B9.out⟩
set_option maxHeartbeats 6400000 in
set_option maxRecDepth 100000 in
theorem impl_most_ans (l : Lnk) (ratio : Int) (w : World) :
    Calls Try.prog 22 #[.agg #[.int .i64 l.ph, .int .i64 l.sg, .int .i64 l.sk, .int .i64 l.wd], .int .i64 ratio] w fun e w' => e = .returned (.tuple #[.int .i64 (if linkV l = true ∧ ratioV ratio = true ∧ (ansL l ratio true).2 = false then ansM l ratio else ((0 : Int), false)).1, .bool (if linkV l = true ∧ ratioV ratio = true ∧ (ansL l ratio true).2 = false then ansM l ratio else ((0 : Int), false)).2]) ∧ Below w.heap.size w w' := by
  cases hq : (linkV l && (ratioV ratio && !(ansL l ratio true).2)) with
  | false =>
    have HS := Aside0.mk hq
    rw [if_neg (fun z => by rw [z.1, z.2.1, z.2.2] at hq; cases hq)]
    clear hq
    go_enter Try.func22, Try.ntmps22
    go_wp2_with (first
      | ((with_reducible refine gate_dst (N := 2) rfl ?_); refine box_event ?hg (N := 2) ?hd (cs := #[.int .i64 l.ph, .int .i64 l.sg, .int .i64 l.sk, .int .i64 l.wd]) (t := 33) ?hr ?_; (case hd => rfl); (case hg => rfl); (case hr => first | (go_simp; done) | (go_simp; rfl)); intro gl hgl W1 hbox hb; have L1 := Aside0.mk (show W1.heap[gl]? = some (boxL l) from hbox); have B1 := Aside0.mk hb; clear hbox hb hgl)
      | ((with_reducible refine gate_dst (N := 8) rfl ?_); refine load_row_event rfl 33 (.tmp 2) rfl gl rfl 33 #[.int .i64 l.ph, .int .i64 l.sg, .int .i64 l.sk, .int .i64 l.wd] _ L1.out Try.underlying33 rfl (by kernel_rfl) ?_)
      | (go_at_call 18; (with_reducible refine (impl_safe_ans l ratio _).mono ?_); rintro e w2 ⟨rfl, hb⟩; rw [HS.out]; have L2 := Aside0.mk (blk_below L1.out hb); have B2 := Aside0.mk (below_step B1.out hb); have l3 : w2.cell? ⟨gl, 3, none⟩ = some (.int .i64 l.wd) := (blk_cell L2.out 3).trans rfl; clear hb))
    go_ret2
    exact ⟨rfl, B2.out⟩
  | true =>
    have hq2 := hq
    simp only [Bool.and_eq_true, Bool.not_eq_true'] at hq2
    rw [if_pos hq2]
    by_cases hw : l.wd = 0
    · have HS := Aside0.mk hq
      have hwb : (l.wd == 0) = true := beq_iff_eq.2 hw
      rw [ansM_zero hw]
      clear hq hq2 hw
      go_enter Try.func22, Try.ntmps22
      go_wp2_with (first
        | ((with_reducible refine gate_dst (N := 2) rfl ?_); refine box_event ?hg (N := 2) ?hd (cs := #[.int .i64 l.ph, .int .i64 l.sg, .int .i64 l.sk, .int .i64 l.wd]) (t := 33) ?hr ?_; (case hd => rfl); (case hg => rfl); (case hr => first | (go_simp; done) | (go_simp; rfl)); intro gl hgl W1 hbox hb; have L1 := Aside0.mk (show W1.heap[gl]? = some (boxL l) from hbox); have B1 := Aside0.mk hb; clear hbox hb hgl)
        | ((with_reducible refine gate_dst (N := 8) rfl ?_); refine load_row_event rfl 33 (.tmp 2) rfl gl rfl 33 #[.int .i64 l.ph, .int .i64 l.sg, .int .i64 l.sk, .int .i64 l.wd] _ L1.out Try.underlying33 rfl (by kernel_rfl) ?_)
        | (go_at_call 18; (with_reducible refine (impl_safe_ans l ratio _).mono ?_); rintro e w2 ⟨rfl, hb⟩; rw [HS.out]; have L2 := Aside0.mk (blk_below L1.out hb); have B2 := Aside0.mk (below_step B1.out hb); have l3 : w2.cell? ⟨gl, 3, none⟩ = some (.int .i64 l.wd) := (blk_cell L2.out 3).trans rfl; clear hb))
      go_ret2
      exact ⟨rfl, B2.out⟩
    · obtain ⟨v, M', e, h0, h1, h2, h3⟩ := ansM_is hq2.1 hq2.2.1 hq2.2.2 hw
      rw [h3]
      exact lgF_most l ratio v M' w hq hw ⟨h0, h1⟩ e
set_option maxHeartbeats 6400000 in
set_option maxRecDepth 100000 in
theorem spec_most_ans (l : Lnk) (ratio : Int) (w : World) :
    Calls Try.prog 21 #[.agg #[.int .i64 l.ph, .int .i64 l.sg, .int .i64 l.sk, .int .i64 l.wd], .int .i64 ratio] w fun e w' => e = .returned (.tuple #[.int .i64 (if linkV l = true ∧ ratioV ratio = true ∧ (ansL l ratio true).2 = false then ansM l ratio else ((0 : Int), false)).1, .bool (if linkV l = true ∧ ratioV ratio = true ∧ (ansL l ratio true).2 = false then ansM l ratio else ((0 : Int), false)).2]) ∧ Below w.heap.size w w' := by
  cases hv : linkV l with
  | false =>
    have HV := Aside0.mk hv
    rw [if_neg (by simp)]
    clear hv
    go_enter Try.func21, Try.ntmps21
    go_wp2_with (first
      | ((with_reducible refine gate_dst (N := 2) rfl ?_); refine box_event ?hg (N := 2) ?hd (cs := #[.int .i64 l.ph, .int .i64 l.sg, .int .i64 l.sk, .int .i64 l.wd]) (t := 33) ?hr ?_; (case hd => rfl); (case hg => rfl); (case hr => first | (go_simp; done) | (go_simp; rfl)); intro gl hgl W1 hbox hb; have L1 := Aside0.mk (show W1.heap[gl]? = some (boxL l) from hbox); have B1 := Aside0.mk hb; clear hbox hb hgl)
      | (go_at_call 27; (with_reducible refine (valid_link gl l _ L1.out).mono ?_); rintro e w2 ⟨rfl, hb⟩; rw [HV.out]; have L2 := Aside0.mk (blk_below L1.out hb); have B2 := Aside0.mk (below_step B1.out hb); clear hb))
    go_ret2
    exact ⟨rfl, B2.out⟩
  | true =>
    have HV := Aside0.mk hv
    cases hr : ratioV ratio with
    | false =>
      have HR := Aside0.mk hr
      rw [if_neg (by simp)]
      clear hv hr
      go_enter Try.func21, Try.ntmps21
      go_wp2_with (first
        | ((with_reducible refine gate_dst (N := 2) rfl ?_); refine box_event ?hg (N := 2) ?hd (cs := #[.int .i64 l.ph, .int .i64 l.sg, .int .i64 l.sk, .int .i64 l.wd]) (t := 33) ?hr ?_; (case hd => rfl); (case hg => rfl); (case hr => first | (go_simp; done) | (go_simp; rfl)); intro gl hgl W1 hbox hb; have L1 := Aside0.mk (show W1.heap[gl]? = some (boxL l) from hbox); have B1 := Aside0.mk hb; clear hbox hb hgl)
        | (go_at_call 27; (with_reducible refine (valid_link gl l _ L1.out).mono ?_); rintro e w2 ⟨rfl, hb⟩; rw [HV.out]; have L2 := Aside0.mk (blk_below L1.out hb); have B2 := Aside0.mk (below_step B1.out hb); clear hb)
        | (go_at_call 28; (with_reducible refine (valid_ratio ratio _).mono ?_); rintro e w3 ⟨rfl, hb⟩; rw [HR.out]; have L3 := Aside0.mk (blk_below L2.out hb); have B3 := Aside0.mk (below_step B2.out hb); clear hb))
      go_ret2
      exact ⟨rfl, B3.out⟩
    | true =>
      have HR := Aside0.mk hr
      cases hs : (ansL l ratio true).2 with
      | true =>
        have HS := Aside0.mk (show (!(ansL l ratio true).2) = false by rw [hs]; rfl)
        rw [if_neg (by simp)]
        clear hv hr hs
        go_enter Try.func21, Try.ntmps21
        go_wp2_with (first
          | ((with_reducible refine gate_dst (N := 2) rfl ?_); refine box_event ?hg (N := 2) ?hd (cs := #[.int .i64 l.ph, .int .i64 l.sg, .int .i64 l.sk, .int .i64 l.wd]) (t := 33) ?hr ?_; (case hd => rfl); (case hg => rfl); (case hr => first | (go_simp; done) | (go_simp; rfl)); intro gl hgl W1 hbox hb; have L1 := Aside0.mk (show W1.heap[gl]? = some (boxL l) from hbox); have B1 := Aside0.mk hb; clear hbox hb hgl)
          | (go_at_call 27; (with_reducible refine (valid_link gl l _ L1.out).mono ?_); rintro e w2 ⟨rfl, hb⟩; rw [HV.out]; have L2 := Aside0.mk (blk_below L1.out hb); have B2 := Aside0.mk (below_step B1.out hb); clear hb)
          | (go_at_call 28; (with_reducible refine (valid_ratio ratio _).mono ?_); rintro e w3 ⟨rfl, hb⟩; rw [HR.out]; have L3 := Aside0.mk (blk_below L2.out hb); have B3 := Aside0.mk (below_step B2.out hb); clear hb)
          | (go_at_call 34; (with_reducible refine (l05Safe_ans gl l ratio _ L3.out HV.out HR.out).mono ?_); rintro e w4 ⟨rfl, hb⟩; rw [HS.out]; have L4 := Aside0.mk (blk_below L3.out hb); have B4 := Aside0.mk (below_step B3.out hb); have l3 : w4.cell? ⟨gl, 3, none⟩ = some (.int .i64 l.wd) := (blk_cell L4.out 3).trans rfl; clear hb))
        go_ret2
        exact ⟨rfl, B4.out⟩
      | false =>
        rw [if_pos ⟨rfl, rfl, rfl⟩]
        by_cases hw : l.wd = 0
        · have HS := Aside0.mk (show (!(ansL l ratio true).2) = true by rw [hs]; rfl)
          have hwb : (l.wd == 0) = true := beq_iff_eq.2 hw
          rw [ansM_zero hw]
          clear hv hr hs hw
          go_enter Try.func21, Try.ntmps21
          go_wp2_with (first
            | ((with_reducible refine gate_dst (N := 2) rfl ?_); refine box_event ?hg (N := 2) ?hd (cs := #[.int .i64 l.ph, .int .i64 l.sg, .int .i64 l.sk, .int .i64 l.wd]) (t := 33) ?hr ?_; (case hd => rfl); (case hg => rfl); (case hr => first | (go_simp; done) | (go_simp; rfl)); intro gl hgl W1 hbox hb; have L1 := Aside0.mk (show W1.heap[gl]? = some (boxL l) from hbox); have B1 := Aside0.mk hb; clear hbox hb hgl)
            | (go_at_call 27; (with_reducible refine (valid_link gl l _ L1.out).mono ?_); rintro e w2 ⟨rfl, hb⟩; rw [HV.out]; have L2 := Aside0.mk (blk_below L1.out hb); have B2 := Aside0.mk (below_step B1.out hb); clear hb)
            | (go_at_call 28; (with_reducible refine (valid_ratio ratio _).mono ?_); rintro e w3 ⟨rfl, hb⟩; rw [HR.out]; have L3 := Aside0.mk (blk_below L2.out hb); have B3 := Aside0.mk (below_step B2.out hb); clear hb)
            | (go_at_call 34; (with_reducible refine (l05Safe_ans gl l ratio _ L3.out HV.out HR.out).mono ?_); rintro e w4 ⟨rfl, hb⟩; rw [HS.out]; have L4 := Aside0.mk (blk_below L3.out hb); have B4 := Aside0.mk (below_step B3.out hb); have l3 : w4.cell? ⟨gl, 3, none⟩ = some (.int .i64 l.wd) := (blk_cell L4.out 3).trans rfl; clear hb)
            | (go_at_call 36; (with_reducible refine (spec_l05Begin.calls 0 0 0 (-1) 0 0 0 0 0 0 2 0 _ rfl).mono ?_); rintro e w5 ⟨rfl, hb⟩; have L5 := Aside0.mk (blk_below L4.out hb); have B5 := Aside0.mk (below_step B4.out hb); clear hb)
            | ((with_reducible refine gate_dst (N := 27) rfl ?_); refine Kd.R_lit k57 w.heap.size 57 ?hg (N := 27) ?hd (w0 := w) (xs := [x0K]) (inner := [.int .i64 0, .int .i64 0, .int .i64 0, .int .i64 (-1), .int .i64 0, .int .i64 0, .int .i64 0, .int .i64 0, .int .i64 0, .int .i64 0, .int .i64 2, .int .i64 0]) (ok := fun _ => True) (okp := fun _ => True) ?hr ?hp (fun _ hk => hk) trivial B5.out B5.out.size (by simp) ?_; (case hd => rfl); (case hg => rfl); (case hr => first | (go_simp; done) | (go_simp; rfl)); (case hp => exact Reps.front (k57_mkM _ _ _ x0K) rfl (Reps.none _ _) rfl); intro v6 w6 ho hb hg_ hnew_; have L6 := Aside0.mk (blk_grown L5.out hg_ (by simp)); have B6 := Aside0.mk hb; have l3 : w6.cell? ⟨gl, 3, none⟩ = some (.int .i64 l.wd) := (blk_cell L6.out 3).trans rfl; clear ho hb hg_ hnew_))
          go_ret2
          exact ⟨rfl, B6.out⟩
        · obtain ⟨v, M', e, h0, h1, h2, h3⟩ := ansM_is hv hr hs hw
          rw [h3]
          exact msN.calls bigN l ratio (v + 1) true w hv hr hs hw h2
end Go.Proofs.Ytgmnbpdfdagniaa.A
