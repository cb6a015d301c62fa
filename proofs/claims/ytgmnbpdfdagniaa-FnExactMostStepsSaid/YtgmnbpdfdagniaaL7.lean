/- The links' functions, walked: what they answer. No conditions. -/
import Derived.Test.YtgmnbpdfdagniaaL6
namespace Go.Proofs.Ytgmnbpdfdagniaa.A
open Go.RowKit Go.Proofs.YtgmnbpdfdagniaaW.PrintWords Go.Proofs.YtgmnbpdfdagniaaW.PrintLast Go.Proofs.YtgmnbpdfdagniaaW.PrintMore
set_option linter.unusedVariables false
set_option linter.unusedSimpArgs false
theorem holdB.calls (x : LN) (b : Bool) (w : World) : Calls Try.prog 33 (#[valN x, .bool b] ++ #[]) w fun e w' => e = .returned (.bool (holdB x b)) ∧ Below w.heap.size w w' := isFault.calls x b w
set_option maxHeartbeats 6400000 in
set_option maxRecDepth 100000 in
theorem holdW.calls (gl : Nat) (l : Lnk) (x : LN) (b : Bool) (w : World) (hl : w.heap[gl]? = some (boxL l)) :
    Calls Try.prog 35 (#[valN x, .bool b] ++ #[.pointer (some ⟨gl, 0, none⟩)]) w fun e w' => e = .returned (.bool (holdW l x b)) ∧ Below w.heap.size w w' := by
  have HL := Aside0.mk hl
  clear hl
  show Calls Try.prog 35 #[.agg #[.int .i64 x.sent, .int .i64 x.req, .int .i64 x.ans, .int .i64 x.plc, .bool x.ow, .int .i64 x.word, .int .i64 x.gone, .int .i64 x.s0, .int .i64 x.s1, .int .i64 x.r0, .int .i64 x.r1, .int .i64 x.taken, .int .u8 x.last, .int .i64 x.run], .bool b, .pointer (some ⟨gl, 0, none⟩)] w _
  go_enter Try.func35, Try.ntmps35
  go_wp2_with (first
    | ((with_reducible refine gate_dst (N := 3) rfl ?_); refine box_event ?hg (N := 3) ?hd (cs := #[.int .i64 x.sent, .int .i64 x.req, .int .i64 x.ans, .int .i64 x.plc, .bool x.ow, .int .i64 x.word, .int .i64 x.gone, .int .i64 x.s0, .int .i64 x.s1, .int .i64 x.r0, .int .i64 x.r1, .int .i64 x.taken, .int .u8 x.last, .int .i64 x.run]) (t := 55) ?hr ?_; (case hd => rfl); (case hg => rfl); (case hr => first | (go_simp; done) | (go_simp; rfl)); intro gx hgx W1 hbox hb; have X1 := Aside0.mk (show W1.heap[gx]? = some (boxN x) from hbox); have L1 := Aside0.mk (blk_below HL.out hb); have B1 := Aside0.mk hb; have n11 : W1.cell? ⟨gx, 11, none⟩ = some (.int .i64 x.taken) := (blk_cell X1.out 11).trans rfl; have l3 : W1.cell? ⟨gl, 3, none⟩ = some (.int .i64 l.wd) := (blk_cell L1.out 3).trans rfl; clear hbox hb hgx))
  go_ret
  exact ⟨rfl, B1.out⟩
theorem foB.calls (l : Lnk) (ratio : Int) (r1 : ByteArray) (r2 : Bool) (w : World) (h : foF bigN l ratio holdB = some (r1, r2)) :
    Calls Try.prog 32 #[.agg #[.int .i64 l.ph, .int .i64 l.sg, .int .i64 l.sk, .int .i64 l.wd], .int .i64 ratio, .func (.func 33) #[] #[]] w fun e w' => e = .returned (.tuple #[.string r1, .bool r2]) ∧ Below w.heap.size w w' :=
  foF.calls bigN l ratio 33 #[] holdB r1 r2 w (enters_of Try.func33 (by kernel_rfl) rfl) (fun x b W _ => holdB.calls x b W) h
theorem foW.calls (gl : Nat) (l : Lnk) (ratio : Int) (r1 : ByteArray) (r2 : Bool) (w : World) (hl : w.heap[gl]? = some (boxL l)) (h : foF bigN l ratio (holdW l) = some (r1, r2)) :
    Calls Try.prog 32 #[.agg #[.int .i64 l.ph, .int .i64 l.sg, .int .i64 l.sk, .int .i64 l.wd], .int .i64 ratio, .func (.func 35) #[] #[.pointer (some ⟨gl, 0, none⟩)]] w fun e w' => e = .returned (.tuple #[.string r1, .bool r2]) ∧ Below w.heap.size w w' :=
  foF.calls bigN l ratio 35 #[.pointer (some ⟨gl, 0, none⟩)] (holdW l) r1 r2 w (enters_of Try.func35 (by kernel_rfl) rfl) (fun x b W hW => holdW.calls gl l x b W (blk_below hl hW)) h
set_option maxHeartbeats 6400000 in
set_option maxRecDepth 100000 in
theorem l05Safe_ans (gl : Nat) (l : Lnk) (ratio : Int) (w : World) (hl : w.heap[gl]? = some (boxL l)) (hv : linkV l = true) (hr : ratioV ratio = true) :
    Calls Try.prog 34 #[.pointer (some ⟨gl, 0, none⟩), .int .i64 ratio] w fun e w' => e = .returned (.bool (!(ansL l ratio true).2)) ∧ Below w.heap.size w w' := by
  have L1 := Aside0.mk hl
  have B1 := Aside0.mk (Below.refl w.heap.size w)
  obtain ⟨ha1, -, -⟩ := ansL_fault hv hr
  obtain ⟨⟨o, b⟩, hob⟩ : ∃ q, ansL l ratio true = q := ⟨_, rfl⟩
  rw [hob] at ha1 ⊢
  have HA1 := Aside0.mk ha1
  clear hl hv hr ha1 hob
  go_enter Try.func34, Try.ntmps34
  go_wp2_with (first
    | (go_at_call 29; (with_reducible refine (lkF.calls_true bigN gl l ratio _ _ _ L1.out HA1.out).mono ?_); rintro e w2 ⟨rfl, hb⟩; have L2 := Aside0.mk (blk_below L1.out hb); have B2 := Aside0.mk (below_step B1.out hb); clear hb))
  go_ret
  exact ⟨rfl, B2.out⟩
set_option maxHeartbeats 6400000 in
set_option maxRecDepth 100000 in
theorem spec_first_ans (l : Lnk) (ratio : Int) (w : World) :
    Calls Try.prog 14 #[.agg #[.int .i64 l.ph, .int .i64 l.sg, .int .i64 l.sk, .int .i64 l.wd], .int .i64 ratio] w fun e w' => e = .returned (.tuple #[.string (if linkV l = true ∧ ratioV ratio = true then ansL l ratio true else (ByteArray.empty, false)).1, .bool (if linkV l = true ∧ ratioV ratio = true then ansL l ratio true else (ByteArray.empty, false)).2]) ∧ Below w.heap.size w w' := by
  cases hv : linkV l with
  | false =>
    have HV := Aside0.mk hv
    have HRES := HV
    rw [if_neg (by simp)]
    clear hv
    go_enter Try.func14, Try.ntmps14
    go_wp2_with (first
      | ((with_reducible refine gate_dst (N := 2) rfl ?_); refine box_event ?hg (N := 2) ?hd (cs := #[.int .i64 l.ph, .int .i64 l.sg, .int .i64 l.sk, .int .i64 l.wd]) (t := 33) ?hr ?_; (case hd => rfl); (case hg => rfl); (case hr => first | (go_simp; done) | (go_simp; rfl)); intro gl hgl W1 hbox hb; have L1 := Aside0.mk (show W1.heap[gl]? = some (boxL l) from hbox); have B1 := Aside0.mk hb; clear hbox hb hgl)
      | (go_at_call 27; (with_reducible refine (valid_link gl l _ L1.out).mono ?_); rintro e w2 ⟨rfl, hb⟩; rw [HV.out]; have L2 := Aside0.mk (blk_below L1.out hb); have B2 := Aside0.mk (below_step B1.out hb); clear hb))
    go_ret2
    exact ⟨by first | rfl | (rw [HRES.out]; rfl) | rw [HRES.out], B2.out⟩
  | true =>
    have HV := Aside0.mk hv
    cases hr : ratioV ratio with
    | false =>
      have HR := Aside0.mk hr
      have HRES := HR
      rw [if_neg (by simp)]
      clear hv hr
      go_enter Try.func14, Try.ntmps14
      go_wp2_with (first
        | ((with_reducible refine gate_dst (N := 2) rfl ?_); refine box_event ?hg (N := 2) ?hd (cs := #[.int .i64 l.ph, .int .i64 l.sg, .int .i64 l.sk, .int .i64 l.wd]) (t := 33) ?hr ?_; (case hd => rfl); (case hg => rfl); (case hr => first | (go_simp; done) | (go_simp; rfl)); intro gl hgl W1 hbox hb; have L1 := Aside0.mk (show W1.heap[gl]? = some (boxL l) from hbox); have B1 := Aside0.mk hb; clear hbox hb hgl)
        | (go_at_call 27; (with_reducible refine (valid_link gl l _ L1.out).mono ?_); rintro e w2 ⟨rfl, hb⟩; rw [HV.out]; have L2 := Aside0.mk (blk_below L1.out hb); have B2 := Aside0.mk (below_step B1.out hb); clear hb)
        | (go_at_call 28; (with_reducible refine (valid_ratio ratio _).mono ?_); rintro e w3 ⟨rfl, hb⟩; rw [HR.out]; have L3 := Aside0.mk (blk_below L2.out hb); have B3 := Aside0.mk (below_step B2.out hb); clear hb))
      go_ret2
      exact ⟨by first | rfl | (rw [HRES.out]; rfl) | rw [HRES.out], B3.out⟩
    | true =>
      have HR := Aside0.mk hr
      have HRES := HR
      obtain ⟨ha1, ha2, -⟩ := ansL_fault hv hr
      obtain ⟨⟨o, b⟩, hob⟩ : ∃ q, ansL l ratio true = q := ⟨_, rfl⟩
      rw [hob] at ha1 ha2
      have HA1 := Aside0.mk ha1
      rw [if_pos ⟨rfl, rfl⟩, hob]
      clear hv hr ha1 ha2 hob
      go_enter Try.func14, Try.ntmps14
      go_wp2_with (first
        | ((with_reducible refine gate_dst (N := 2) rfl ?_); refine box_event ?hg (N := 2) ?hd (cs := #[.int .i64 l.ph, .int .i64 l.sg, .int .i64 l.sk, .int .i64 l.wd]) (t := 33) ?hr ?_; (case hd => rfl); (case hg => rfl); (case hr => first | (go_simp; done) | (go_simp; rfl)); intro gl hgl W1 hbox hb; have L1 := Aside0.mk (show W1.heap[gl]? = some (boxL l) from hbox); have B1 := Aside0.mk hb; clear hbox hb hgl)
        | (go_at_call 27; (with_reducible refine (valid_link gl l _ L1.out).mono ?_); rintro e w2 ⟨rfl, hb⟩; rw [HV.out]; have L2 := Aside0.mk (blk_below L1.out hb); have B2 := Aside0.mk (below_step B1.out hb); clear hb)
        | (go_at_call 28; (with_reducible refine (valid_ratio ratio _).mono ?_); rintro e w3 ⟨rfl, hb⟩; rw [HR.out]; have L3 := Aside0.mk (blk_below L2.out hb); have B3 := Aside0.mk (below_step B2.out hb); clear hb)
        | (go_at_call 29; (with_reducible refine (lkF.calls_true bigN gl l ratio _ _ _ L3.out HA1.out).mono ?_); rintro e w4 ⟨rfl, hb⟩; have L4 := Aside0.mk (blk_below L3.out hb); have B4 := Aside0.mk (below_step B3.out hb); clear hb))
      go_ret2
      exact ⟨by first | rfl | (rw [HRES.out]; rfl) | rw [HRES.out], B4.out⟩
set_option maxHeartbeats 6400000 in
set_option maxRecDepth 100000 in
theorem impl_first_ans (l : Lnk) (ratio : Int) (w : World) :
    Calls Try.prog 16 #[.agg #[.int .i64 l.ph, .int .i64 l.sg, .int .i64 l.sk, .int .i64 l.wd], .int .i64 ratio] w fun e w' => e = .returned (.tuple #[.string (if linkV l = true ∧ ratioV ratio = true then ansL l ratio true else (ByteArray.empty, false)).1, .bool (if linkV l = true ∧ ratioV ratio = true then ansL l ratio true else (ByteArray.empty, false)).2]) ∧ Below w.heap.size w w' := by
  cases hv : linkV l with
  | false =>
    have HV := Aside0.mk hv
    have HRES := HV
    rw [if_neg (by simp)]
    clear hv
    go_enter Try.func16, Try.ntmps16
    go_wp2_with (first
      | ((with_reducible refine gate_dst (N := 2) rfl ?_); refine box_event ?hg (N := 2) ?hd (cs := #[.int .i64 l.ph, .int .i64 l.sg, .int .i64 l.sk, .int .i64 l.wd]) (t := 33) ?hr ?_; (case hd => rfl); (case hg => rfl); (case hr => first | (go_simp; done) | (go_simp; rfl)); intro gl hgl W1 hbox hb; have L1 := Aside0.mk (show W1.heap[gl]? = some (boxL l) from hbox); have B1 := Aside0.mk hb; clear hbox hb hgl)
      | ((with_reducible refine gate_dst (N := 6) rfl ?_); refine load_row_event rfl 33 (.tmp 2) rfl gl rfl 33 #[.int .i64 l.ph, .int .i64 l.sg, .int .i64 l.sk, .int .i64 l.wd] _ L1.out Try.underlying33 rfl (by kernel_rfl) ?_)
      | (go_at_call 30; (with_reducible refine (impl_ValidLink.calls l.ph l.sg l.sk l.wd _ _ (linkV_impl l)).mono ?_); rintro e w2 ⟨rfl, hb⟩; rw [HV.out]; have L2 := Aside0.mk (blk_below L1.out hb); have B2 := Aside0.mk (below_step B1.out hb); clear hb))
    go_ret2
    exact ⟨by first | rfl | (rw [HRES.out]; rfl) | rw [HRES.out], B2.out⟩
  | true =>
    have HV := Aside0.mk hv
    cases hr : ratioV ratio with
    | false =>
      have HR := Aside0.mk hr
      have HRES := HR
      rw [if_neg (by simp)]
      clear hv hr
      go_enter Try.func16, Try.ntmps16
      go_wp2_with (first
        | ((with_reducible refine gate_dst (N := 2) rfl ?_); refine box_event ?hg (N := 2) ?hd (cs := #[.int .i64 l.ph, .int .i64 l.sg, .int .i64 l.sk, .int .i64 l.wd]) (t := 33) ?hr ?_; (case hd => rfl); (case hg => rfl); (case hr => first | (go_simp; done) | (go_simp; rfl)); intro gl hgl W1 hbox hb; have L1 := Aside0.mk (show W1.heap[gl]? = some (boxL l) from hbox); have B1 := Aside0.mk hb; clear hbox hb hgl)
        | ((with_reducible refine gate_dst (N := 6) rfl ?_); refine load_row_event rfl 33 (.tmp 2) rfl gl rfl 33 #[.int .i64 l.ph, .int .i64 l.sg, .int .i64 l.sk, .int .i64 l.wd] _ L1.out Try.underlying33 rfl (by kernel_rfl) ?_)
        | (go_at_call 30; (with_reducible refine (impl_ValidLink.calls l.ph l.sg l.sk l.wd _ _ (linkV_impl l)).mono ?_); rintro e w2 ⟨rfl, hb⟩; rw [HV.out]; have L2 := Aside0.mk (blk_below L1.out hb); have B2 := Aside0.mk (below_step B1.out hb); clear hb)
        | (go_at_call 31; (with_reducible refine (valid_ratio' ratio _).mono ?_); rintro e w3 ⟨rfl, hb⟩; rw [HR.out]; have L3 := Aside0.mk (blk_below L2.out hb); have B3 := Aside0.mk (below_step B2.out hb); clear hb))
      go_ret2
      exact ⟨by first | rfl | (rw [HRES.out]; rfl) | rw [HRES.out], B3.out⟩
    | true =>
      have HR := Aside0.mk hr
      have HRES := HR
      obtain ⟨ha1, ha2, -⟩ := ansL_fault hv hr
      obtain ⟨⟨o, b⟩, hob⟩ : ∃ q, ansL l ratio true = q := ⟨_, rfl⟩
      rw [hob] at ha1 ha2
      have HA1 := Aside0.mk ha2
      rw [if_pos ⟨rfl, rfl⟩, hob]
      clear hv hr ha1 ha2 hob
      go_enter Try.func16, Try.ntmps16
      go_wp2_with (first
        | ((with_reducible refine gate_dst (N := 2) rfl ?_); refine box_event ?hg (N := 2) ?hd (cs := #[.int .i64 l.ph, .int .i64 l.sg, .int .i64 l.sk, .int .i64 l.wd]) (t := 33) ?hr ?_; (case hd => rfl); (case hg => rfl); (case hr => first | (go_simp; done) | (go_simp; rfl)); intro gl hgl W1 hbox hb; have L1 := Aside0.mk (show W1.heap[gl]? = some (boxL l) from hbox); have B1 := Aside0.mk hb; clear hbox hb hgl)
        | ((with_reducible refine gate_dst (N := 6) rfl ?_); refine load_row_event rfl 33 (.tmp 2) rfl gl rfl 33 #[.int .i64 l.ph, .int .i64 l.sg, .int .i64 l.sk, .int .i64 l.wd] _ L1.out Try.underlying33 rfl (by kernel_rfl) ?_)
        | ((with_reducible refine gate_dst (N := 14) rfl ?_); refine load_row_event rfl 33 (.tmp 2) rfl gl rfl 33 #[.int .i64 l.ph, .int .i64 l.sg, .int .i64 l.sk, .int .i64 l.wd] _ L3.out Try.underlying33 rfl (by kernel_rfl) ?_)
        | (go_at_call 30; (with_reducible refine (impl_ValidLink.calls l.ph l.sg l.sk l.wd _ _ (linkV_impl l)).mono ?_); rintro e w2 ⟨rfl, hb⟩; rw [HV.out]; have L2 := Aside0.mk (blk_below L1.out hb); have B2 := Aside0.mk (below_step B1.out hb); clear hb)
        | (go_at_call 31; (with_reducible refine (valid_ratio' ratio _).mono ?_); rintro e w3 ⟨rfl, hb⟩; rw [HR.out]; have L3 := Aside0.mk (blk_below L2.out hb); have B3 := Aside0.mk (below_step B2.out hb); clear hb)
        | (go_at_call 32; (with_reducible refine (foB.calls l ratio _ _ _ HA1.out).mono ?_); rintro e w4 ⟨rfl, hb⟩; have L4 := Aside0.mk (blk_below L3.out hb); have B4 := Aside0.mk (below_step B3.out hb); clear hb))
      go_ret2
      exact ⟨by first | rfl | (rw [HRES.out]; rfl) | rw [HRES.out], B4.out⟩
set_option maxHeartbeats 6400000 in
set_option maxRecDepth 100000 in
theorem impl_safe_ans (l : Lnk) (ratio : Int) (w : World) :
    Calls Try.prog 18 #[.agg #[.int .i64 l.ph, .int .i64 l.sg, .int .i64 l.sk, .int .i64 l.wd], .int .i64 ratio] w fun e w' => e = .returned (.bool (linkV l && (ratioV ratio && !(ansL l ratio true).2))) ∧ Below w.heap.size w w' := by
  cases hv : linkV l with
  | false =>
    have HV := Aside0.mk hv
    have HRES := HV
    rw [Bool.false_and]
    clear hv
    go_enter Try.func18, Try.ntmps18
    go_wp2_with (first
      | ((with_reducible refine gate_dst (N := 2) rfl ?_); refine box_event ?hg (N := 2) ?hd (cs := #[.int .i64 l.ph, .int .i64 l.sg, .int .i64 l.sk, .int .i64 l.wd]) (t := 33) ?hr ?_; (case hd => rfl); (case hg => rfl); (case hr => first | (go_simp; done) | (go_simp; rfl)); intro gl hgl W1 hbox hb; have L1 := Aside0.mk (show W1.heap[gl]? = some (boxL l) from hbox); have B1 := Aside0.mk hb; clear hbox hb hgl)
      | ((with_reducible refine gate_dst (N := 7) rfl ?_); refine load_row_event rfl 33 (.tmp 2) rfl gl rfl 33 #[.int .i64 l.ph, .int .i64 l.sg, .int .i64 l.sk, .int .i64 l.wd] _ L1.out Try.underlying33 rfl (by kernel_rfl) ?_)
      | (go_at_call 30; (with_reducible refine (impl_ValidLink.calls l.ph l.sg l.sk l.wd _ _ (linkV_impl l)).mono ?_); rintro e w2 ⟨rfl, hb⟩; rw [HV.out]; have L2 := Aside0.mk (blk_below L1.out hb); have B2 := Aside0.mk (below_step B1.out hb); clear hb))
    go_ret
    exact ⟨by first | rfl | (rw [HRES.out]; rfl) | rw [HRES.out], B2.out⟩
  | true =>
    have HV := Aside0.mk hv
    cases hr : ratioV ratio with
    | false =>
      have HR := Aside0.mk hr
      have HRES := HR
      rw [Bool.false_and, Bool.and_false]
      clear hv hr
      go_enter Try.func18, Try.ntmps18
      go_wp2_with (first
        | ((with_reducible refine gate_dst (N := 2) rfl ?_); refine box_event ?hg (N := 2) ?hd (cs := #[.int .i64 l.ph, .int .i64 l.sg, .int .i64 l.sk, .int .i64 l.wd]) (t := 33) ?hr ?_; (case hd => rfl); (case hg => rfl); (case hr => first | (go_simp; done) | (go_simp; rfl)); intro gl hgl W1 hbox hb; have L1 := Aside0.mk (show W1.heap[gl]? = some (boxL l) from hbox); have B1 := Aside0.mk hb; clear hbox hb hgl)
        | ((with_reducible refine gate_dst (N := 7) rfl ?_); refine load_row_event rfl 33 (.tmp 2) rfl gl rfl 33 #[.int .i64 l.ph, .int .i64 l.sg, .int .i64 l.sk, .int .i64 l.wd] _ L1.out Try.underlying33 rfl (by kernel_rfl) ?_)
        | (go_at_call 30; (with_reducible refine (impl_ValidLink.calls l.ph l.sg l.sk l.wd _ _ (linkV_impl l)).mono ?_); rintro e w2 ⟨rfl, hb⟩; rw [HV.out]; have L2 := Aside0.mk (blk_below L1.out hb); have B2 := Aside0.mk (below_step B1.out hb); clear hb)
        | (go_at_call 31; (with_reducible refine (valid_ratio' ratio _).mono ?_); rintro e w3 ⟨rfl, hb⟩; rw [HR.out]; have L3 := Aside0.mk (blk_below L2.out hb); have B3 := Aside0.mk (below_step B2.out hb); clear hb))
      go_ret
      exact ⟨by first | rfl | (rw [HRES.out]; rfl) | rw [HRES.out], B3.out⟩
    | true =>
      have HR := Aside0.mk hr
      have HRES := HR
      obtain ⟨ha1, ha2, -⟩ := ansL_fault hv hr
      obtain ⟨⟨o, b⟩, hob⟩ : ∃ q, ansL l ratio true = q := ⟨_, rfl⟩
      rw [hob] at ha1 ha2
      have HA1 := Aside0.mk ha2
      rw [hob, Bool.true_and, Bool.true_and]
      clear hv hr ha1 ha2 hob
      go_enter Try.func18, Try.ntmps18
      go_wp2_with (first
        | ((with_reducible refine gate_dst (N := 2) rfl ?_); refine box_event ?hg (N := 2) ?hd (cs := #[.int .i64 l.ph, .int .i64 l.sg, .int .i64 l.sk, .int .i64 l.wd]) (t := 33) ?hr ?_; (case hd => rfl); (case hg => rfl); (case hr => first | (go_simp; done) | (go_simp; rfl)); intro gl hgl W1 hbox hb; have L1 := Aside0.mk (show W1.heap[gl]? = some (boxL l) from hbox); have B1 := Aside0.mk hb; clear hbox hb hgl)
        | ((with_reducible refine gate_dst (N := 7) rfl ?_); refine load_row_event rfl 33 (.tmp 2) rfl gl rfl 33 #[.int .i64 l.ph, .int .i64 l.sg, .int .i64 l.sk, .int .i64 l.wd] _ L1.out Try.underlying33 rfl (by kernel_rfl) ?_)
        | ((with_reducible refine gate_dst (N := 16) rfl ?_); refine load_row_event rfl 33 (.tmp 2) rfl gl rfl 33 #[.int .i64 l.ph, .int .i64 l.sg, .int .i64 l.sk, .int .i64 l.wd] _ L3.out Try.underlying33 rfl (by kernel_rfl) ?_)
        | (go_at_call 30; (with_reducible refine (impl_ValidLink.calls l.ph l.sg l.sk l.wd _ _ (linkV_impl l)).mono ?_); rintro e w2 ⟨rfl, hb⟩; rw [HV.out]; have L2 := Aside0.mk (blk_below L1.out hb); have B2 := Aside0.mk (below_step B1.out hb); clear hb)
        | (go_at_call 31; (with_reducible refine (valid_ratio' ratio _).mono ?_); rintro e w3 ⟨rfl, hb⟩; rw [HR.out]; have L3 := Aside0.mk (blk_below L2.out hb); have B3 := Aside0.mk (below_step B2.out hb); clear hb)
        | (go_at_call 32; (with_reducible refine (foB.calls l ratio _ _ _ HA1.out).mono ?_); rintro e w4 ⟨rfl, hb⟩; have L4 := Aside0.mk (blk_below L3.out hb); have B4 := Aside0.mk (below_step B3.out hb); clear hb))
      go_ret
      exact ⟨by first | rfl | (rw [HRES.out]; rfl) | rw [HRES.out], B4.out⟩
set_option maxHeartbeats 6400000 in
set_option maxRecDepth 100000 in
theorem spec_safe_ans (l : Lnk) (ratio : Int) (w : World) :
    Calls Try.prog 17 #[.agg #[.int .i64 l.ph, .int .i64 l.sg, .int .i64 l.sk, .int .i64 l.wd], .int .i64 ratio] w fun e w' => e = .returned (.bool (linkV l && (ratioV ratio && !(ansL l ratio true).2))) ∧ Below w.heap.size w w' := by
  cases hv : linkV l with
  | false =>
    have HV := Aside0.mk hv
    have HRES := HV
    rw [Bool.false_and]
    clear hv
    go_enter Try.func17, Try.ntmps17
    go_wp2_with (first
      | ((with_reducible refine gate_dst (N := 2) rfl ?_); refine box_event ?hg (N := 2) ?hd (cs := #[.int .i64 l.ph, .int .i64 l.sg, .int .i64 l.sk, .int .i64 l.wd]) (t := 33) ?hr ?_; (case hd => rfl); (case hg => rfl); (case hr => first | (go_simp; done) | (go_simp; rfl)); intro gl hgl W1 hbox hb; have L1 := Aside0.mk (show W1.heap[gl]? = some (boxL l) from hbox); have B1 := Aside0.mk hb; clear hbox hb hgl)
      | (go_at_call 27; (with_reducible refine (valid_link gl l _ L1.out).mono ?_); rintro e w2 ⟨rfl, hb⟩; rw [HV.out]; have L2 := Aside0.mk (blk_below L1.out hb); have B2 := Aside0.mk (below_step B1.out hb); clear hb))
    go_ret
    exact ⟨by first | rfl | (rw [HRES.out]; rfl) | rw [HRES.out], B2.out⟩
  | true =>
    have HV := Aside0.mk hv
    cases hr : ratioV ratio with
    | false =>
      have HR := Aside0.mk hr
      have HRES := HR
      rw [Bool.false_and, Bool.and_false]
      clear hv hr
      go_enter Try.func17, Try.ntmps17
      go_wp2_with (first
        | ((with_reducible refine gate_dst (N := 2) rfl ?_); refine box_event ?hg (N := 2) ?hd (cs := #[.int .i64 l.ph, .int .i64 l.sg, .int .i64 l.sk, .int .i64 l.wd]) (t := 33) ?hr ?_; (case hd => rfl); (case hg => rfl); (case hr => first | (go_simp; done) | (go_simp; rfl)); intro gl hgl W1 hbox hb; have L1 := Aside0.mk (show W1.heap[gl]? = some (boxL l) from hbox); have B1 := Aside0.mk hb; clear hbox hb hgl)
        | (go_at_call 27; (with_reducible refine (valid_link gl l _ L1.out).mono ?_); rintro e w2 ⟨rfl, hb⟩; rw [HV.out]; have L2 := Aside0.mk (blk_below L1.out hb); have B2 := Aside0.mk (below_step B1.out hb); clear hb)
        | (go_at_call 28; (with_reducible refine (valid_ratio ratio _).mono ?_); rintro e w3 ⟨rfl, hb⟩; rw [HR.out]; have L3 := Aside0.mk (blk_below L2.out hb); have B3 := Aside0.mk (below_step B2.out hb); clear hb))
      go_ret
      exact ⟨by first | rfl | (rw [HRES.out]; rfl) | rw [HRES.out], B3.out⟩
    | true =>
      have HR := Aside0.mk hr
      have HRES := HR
      rw [Bool.true_and, Bool.true_and]
      obtain ⟨b, hb⟩ : ∃ b, (!(ansL l ratio true).2) = b := ⟨_, rfl⟩
      have HS := Aside0.mk hb
      rw [hb]
      clear hv hr hb
      go_enter Try.func17, Try.ntmps17
      go_wp2_with (first
        | ((with_reducible refine gate_dst (N := 2) rfl ?_); refine box_event ?hg (N := 2) ?hd (cs := #[.int .i64 l.ph, .int .i64 l.sg, .int .i64 l.sk, .int .i64 l.wd]) (t := 33) ?hr ?_; (case hd => rfl); (case hg => rfl); (case hr => first | (go_simp; done) | (go_simp; rfl)); intro gl hgl W1 hbox hb; have L1 := Aside0.mk (show W1.heap[gl]? = some (boxL l) from hbox); have B1 := Aside0.mk hb; clear hbox hb hgl)
        | (go_at_call 27; (with_reducible refine (valid_link gl l _ L1.out).mono ?_); rintro e w2 ⟨rfl, hb⟩; rw [HV.out]; have L2 := Aside0.mk (blk_below L1.out hb); have B2 := Aside0.mk (below_step B1.out hb); clear hb)
        | (go_at_call 28; (with_reducible refine (valid_ratio ratio _).mono ?_); rintro e w3 ⟨rfl, hb⟩; rw [HR.out]; have L3 := Aside0.mk (blk_below L2.out hb); have B3 := Aside0.mk (below_step B2.out hb); clear hb)
        | (go_at_call 34; (with_reducible refine (l05Safe_ans gl l ratio _ L3.out HV.out HR.out).mono ?_); rintro e w4 ⟨rfl, hb⟩; rw [HS.out]; have L4 := Aside0.mk (blk_below L3.out hb); have B4 := Aside0.mk (below_step B3.out hb); clear hb))
      go_ret
      exact ⟨by first | rfl | (rw [HRES.out]; rfl) | rw [HRES.out], B4.out⟩
set_option maxHeartbeats 6400000 in
set_option maxRecDepth 100000 in
theorem spec_fewest_ans (l : Lnk) (ratio : Int) (w : World) :
    Calls Try.prog 19 #[.agg #[.int .i64 l.ph, .int .i64 l.sg, .int .i64 l.sk, .int .i64 l.wd], .int .i64 ratio] w fun e w' => e = .returned (.tuple #[.string (if (linkV l && (ratioV ratio && !(ansL l ratio true).2)) = true then ansL l ratio false else (ByteArray.empty, false)).1, .bool (if (linkV l && (ratioV ratio && !(ansL l ratio true).2)) = true then ansL l ratio false else (ByteArray.empty, false)).2]) ∧ Below w.heap.size w w' := by
  cases hv : linkV l with
  | false =>
    have HV := Aside0.mk hv
    have HRES := HV
    rw [if_neg (by simp)]
    clear hv
    go_enter Try.func19, Try.ntmps19
    go_wp2_with (first
      | ((with_reducible refine gate_dst (N := 2) rfl ?_); refine box_event ?hg (N := 2) ?hd (cs := #[.int .i64 l.ph, .int .i64 l.sg, .int .i64 l.sk, .int .i64 l.wd]) (t := 33) ?hr ?_; (case hd => rfl); (case hg => rfl); (case hr => first | (go_simp; done) | (go_simp; rfl)); intro gl hgl W1 hbox hb; have L1 := Aside0.mk (show W1.heap[gl]? = some (boxL l) from hbox); have B1 := Aside0.mk hb; clear hbox hb hgl)
      | (go_at_call 27; (with_reducible refine (valid_link gl l _ L1.out).mono ?_); rintro e w2 ⟨rfl, hb⟩; rw [HV.out]; have L2 := Aside0.mk (blk_below L1.out hb); have B2 := Aside0.mk (below_step B1.out hb); clear hb))
    go_ret2
    exact ⟨by first | rfl | (rw [HRES.out]; rfl) | rw [HRES.out], B2.out⟩
  | true =>
    have HV := Aside0.mk hv
    cases hr : ratioV ratio with
    | false =>
      have HR := Aside0.mk hr
      have HRES := HR
      rw [if_neg (by simp)]
      clear hv hr
      go_enter Try.func19, Try.ntmps19
      go_wp2_with (first
        | ((with_reducible refine gate_dst (N := 2) rfl ?_); refine box_event ?hg (N := 2) ?hd (cs := #[.int .i64 l.ph, .int .i64 l.sg, .int .i64 l.sk, .int .i64 l.wd]) (t := 33) ?hr ?_; (case hd => rfl); (case hg => rfl); (case hr => first | (go_simp; done) | (go_simp; rfl)); intro gl hgl W1 hbox hb; have L1 := Aside0.mk (show W1.heap[gl]? = some (boxL l) from hbox); have B1 := Aside0.mk hb; clear hbox hb hgl)
        | (go_at_call 27; (with_reducible refine (valid_link gl l _ L1.out).mono ?_); rintro e w2 ⟨rfl, hb⟩; rw [HV.out]; have L2 := Aside0.mk (blk_below L1.out hb); have B2 := Aside0.mk (below_step B1.out hb); clear hb)
        | (go_at_call 28; (with_reducible refine (valid_ratio ratio _).mono ?_); rintro e w3 ⟨rfl, hb⟩; rw [HR.out]; have L3 := Aside0.mk (blk_below L2.out hb); have B3 := Aside0.mk (below_step B2.out hb); clear hb))
      go_ret2
      exact ⟨by first | rfl | (rw [HRES.out]; rfl) | rw [HRES.out], B3.out⟩
    | true =>
      have HR := Aside0.mk hr
      have HRES := HR
      cases hs : (ansL l ratio true).2 with
      | true =>
        have HS := Aside0.mk (show (!(ansL l ratio true).2) = false by rw [hs]; rfl)
        rw [if_neg (by simp)]
        clear hv hr hs
        go_enter Try.func19, Try.ntmps19
        go_wp2_with (first
          | ((with_reducible refine gate_dst (N := 2) rfl ?_); refine box_event ?hg (N := 2) ?hd (cs := #[.int .i64 l.ph, .int .i64 l.sg, .int .i64 l.sk, .int .i64 l.wd]) (t := 33) ?hr ?_; (case hd => rfl); (case hg => rfl); (case hr => first | (go_simp; done) | (go_simp; rfl)); intro gl hgl W1 hbox hb; have L1 := Aside0.mk (show W1.heap[gl]? = some (boxL l) from hbox); have B1 := Aside0.mk hb; clear hbox hb hgl)
          | (go_at_call 27; (with_reducible refine (valid_link gl l _ L1.out).mono ?_); rintro e w2 ⟨rfl, hb⟩; rw [HV.out]; have L2 := Aside0.mk (blk_below L1.out hb); have B2 := Aside0.mk (below_step B1.out hb); clear hb)
          | (go_at_call 28; (with_reducible refine (valid_ratio ratio _).mono ?_); rintro e w3 ⟨rfl, hb⟩; rw [HR.out]; have L3 := Aside0.mk (blk_below L2.out hb); have B3 := Aside0.mk (below_step B2.out hb); clear hb)
          | (go_at_call 34; (with_reducible refine (l05Safe_ans gl l ratio _ L3.out HV.out HR.out).mono ?_); rintro e w4 ⟨rfl, hb⟩; rw [HS.out]; have L4 := Aside0.mk (blk_below L3.out hb); have B4 := Aside0.mk (below_step B3.out hb); clear hb))
        go_ret2
        exact ⟨by first | rfl | (rw [HRES.out]; rfl) | rw [HRES.out], B4.out⟩
      | false =>
        have HS := Aside0.mk (show (!(ansL l ratio true).2) = true by rw [hs]; rfl)
        rw [if_pos (by simp)]
        have ha2 := (ansL_words hv hr hs).1
        obtain ⟨⟨o, b⟩, hob⟩ : ∃ q, ansL l ratio false = q := ⟨_, rfl⟩
        rw [hob] at ha2 ⊢
        have HA2 := Aside0.mk ha2
        clear hv hr hs ha2 hob
        go_enter Try.func19, Try.ntmps19
        go_wp2_with (first
          | ((with_reducible refine gate_dst (N := 2) rfl ?_); refine box_event ?hg (N := 2) ?hd (cs := #[.int .i64 l.ph, .int .i64 l.sg, .int .i64 l.sk, .int .i64 l.wd]) (t := 33) ?hr ?_; (case hd => rfl); (case hg => rfl); (case hr => first | (go_simp; done) | (go_simp; rfl)); intro gl hgl W1 hbox hb; have L1 := Aside0.mk (show W1.heap[gl]? = some (boxL l) from hbox); have B1 := Aside0.mk hb; clear hbox hb hgl)
          | (go_at_call 27; (with_reducible refine (valid_link gl l _ L1.out).mono ?_); rintro e w2 ⟨rfl, hb⟩; rw [HV.out]; have L2 := Aside0.mk (blk_below L1.out hb); have B2 := Aside0.mk (below_step B1.out hb); clear hb)
          | (go_at_call 28; (with_reducible refine (valid_ratio ratio _).mono ?_); rintro e w3 ⟨rfl, hb⟩; rw [HR.out]; have L3 := Aside0.mk (blk_below L2.out hb); have B3 := Aside0.mk (below_step B2.out hb); clear hb)
          | (go_at_call 34; (with_reducible refine (l05Safe_ans gl l ratio _ L3.out HV.out HR.out).mono ?_); rintro e w4 ⟨rfl, hb⟩; rw [HS.out]; have L4 := Aside0.mk (blk_below L3.out hb); have B4 := Aside0.mk (below_step B3.out hb); clear hb)
          | (go_at_call 29; (with_reducible refine (lkF.calls_false bigN gl l ratio _ _ _ L4.out HA2.out).mono ?_); rintro e w5 ⟨rfl, hb⟩; have L5 := Aside0.mk (blk_below L4.out hb); have B5 := Aside0.mk (below_step B4.out hb); clear hb))
        go_ret2
        exact ⟨by first | rfl | (rw [HRES.out]; rfl) | rw [HRES.out], B5.out⟩
set_option maxHeartbeats 6400000 in
set_option maxRecDepth 100000 in
theorem impl_fewest_ans (l : Lnk) (ratio : Int) (w : World) :
    Calls Try.prog 20 #[.agg #[.int .i64 l.ph, .int .i64 l.sg, .int .i64 l.sk, .int .i64 l.wd], .int .i64 ratio] w fun e w' => e = .returned (.tuple #[.string (if (linkV l && (ratioV ratio && !(ansL l ratio true).2)) = true then ansL l ratio false else (ByteArray.empty, false)).1, .bool (if (linkV l && (ratioV ratio && !(ansL l ratio true).2)) = true then ansL l ratio false else (ByteArray.empty, false)).2]) ∧ Below w.heap.size w w' := by
  cases hq : (linkV l && (ratioV ratio && !(ansL l ratio true).2)) with
  | false =>
    have HS := Aside0.mk hq
    have HRES := HS
    rw [if_neg (by simp)]
    clear hq
    go_enter Try.func20, Try.ntmps20
    go_wp2_with (first
      | ((with_reducible refine gate_dst (N := 2) rfl ?_); refine box_event ?hg (N := 2) ?hd (cs := #[.int .i64 l.ph, .int .i64 l.sg, .int .i64 l.sk, .int .i64 l.wd]) (t := 33) ?hr ?_; (case hd => rfl); (case hg => rfl); (case hr => first | (go_simp; done) | (go_simp; rfl)); intro gl hgl W1 hbox hb; have L1 := Aside0.mk (show W1.heap[gl]? = some (boxL l) from hbox); have B1 := Aside0.mk hb; clear hbox hb hgl)
      | ((with_reducible refine gate_dst (N := 6) rfl ?_); refine load_row_event rfl 33 (.tmp 2) rfl gl rfl 33 #[.int .i64 l.ph, .int .i64 l.sg, .int .i64 l.sk, .int .i64 l.wd] _ L1.out Try.underlying33 rfl (by kernel_rfl) ?_)
      | (go_at_call 18; (with_reducible refine (impl_safe_ans l ratio _).mono ?_); rintro e w2 ⟨rfl, hb⟩; rw [HS.out]; have L2 := Aside0.mk (blk_below L1.out hb); have B2 := Aside0.mk (below_step B1.out hb); clear hb))
    go_ret2
    exact ⟨by first | rfl | (rw [HRES.out]; rfl) | rw [HRES.out], B2.out⟩
  | true =>
    have HS := Aside0.mk hq
    have HRES := HS
    rw [if_pos rfl]
    simp only [Bool.and_eq_true, Bool.not_eq_true'] at hq
    obtain ⟨hv, hr, hs⟩ := hq
    have ha2 := (ansL_words hv hr hs).2
    obtain ⟨⟨o, b⟩, hob⟩ : ∃ q, ansL l ratio false = q := ⟨_, rfl⟩
    rw [hob] at ha2 ⊢
    have HA2 := Aside0.mk ha2
    clear hv hr hs ha2 hob
    go_enter Try.func20, Try.ntmps20
    go_wp2_with (first
      | ((with_reducible refine gate_dst (N := 2) rfl ?_); refine box_event ?hg (N := 2) ?hd (cs := #[.int .i64 l.ph, .int .i64 l.sg, .int .i64 l.sk, .int .i64 l.wd]) (t := 33) ?hr ?_; (case hd => rfl); (case hg => rfl); (case hr => first | (go_simp; done) | (go_simp; rfl)); intro gl hgl W1 hbox hb; have L1 := Aside0.mk (show W1.heap[gl]? = some (boxL l) from hbox); have B1 := Aside0.mk hb; clear hbox hb hgl)
      | ((with_reducible refine gate_dst (N := 6) rfl ?_); refine load_row_event rfl 33 (.tmp 2) rfl gl rfl 33 #[.int .i64 l.ph, .int .i64 l.sg, .int .i64 l.sk, .int .i64 l.wd] _ L1.out Try.underlying33 rfl (by kernel_rfl) ?_)
      | (go_at_call 18; (with_reducible refine (impl_safe_ans l ratio _).mono ?_); rintro e w2 ⟨rfl, hb⟩; rw [HS.out]; have L2 := Aside0.mk (blk_below L1.out hb); have B2 := Aside0.mk (below_step B1.out hb); clear hb)
      | ((with_reducible refine gate_dst (N := 10) rfl ?_); refine load_row_event rfl 33 (.tmp 2) rfl gl rfl 33 #[.int .i64 l.ph, .int .i64 l.sg, .int .i64 l.sk, .int .i64 l.wd] _ L2.out Try.underlying33 rfl (by kernel_rfl) ?_)
      | (go_at_call 32; (with_reducible refine (foW.calls gl l ratio _ _ _ L2.out HA2.out).mono ?_); rintro e w3 ⟨rfl, hb⟩; have L3 := Aside0.mk (blk_below L2.out hb); have B3 := Aside0.mk (below_step B2.out hb); clear hb))
    go_ret2
    exact ⟨by first | rfl | (rw [HRES.out]; rfl) | rw [HRES.out], B3.out⟩
end Go.Proofs.Ytgmnbpdfdagniaa.A
