/- Texts of this claim, put together by this session's pack2.py: each part is introduced by its own comment. No conditions. -/
import Derived.Test.YtgmnbpdfdagniaaZ28
import Derived.Test.YtgmnbpdfdagniaaM3
import Derived.Test.YtgmnbpdfdagniaaZ23
/- The link: what both sides answer. No conditions. -/
namespace Go.Proofs.Ytgmnbpdfdagniaa.A
open Go.RowKit Go.Proofs.YtgmnbpdfdagniaaW.PrintWords Go.Proofs.YtgmnbpdfdagniaaW.PrintLast Go.Proofs.YtgmnbpdfdagniaaW.PrintMore
set_option linter.unusedVariables false
set_option linter.unusedSimpArgs false
def bigN : Nat := 1099511627776
def linkV (l : Lnk) : Bool := decide ((l.ph = 2 ∨ l.ph = 4) ∧ (0 ≤ l.sg ∧ l.sg ≤ 2) ∧ (0 ≤ l.sk ∧ l.sk ≤ 2) ∧ (0 ≤ l.wd ∧ l.wd ≤ 4))
def ratioV (ratio : Int) : Bool := decide (1 ≤ ratio ∧ ratio ≤ 4)
def ansL (l : Lnk) (ratio : Int) (fault : Bool) : ByteArray × Bool := (lkF bigN l ratio fault).getD (ByteArray.empty, false)
theorem linkV_ok {l : Lnk} (h : linkV l = true) : LOk l := by
  have h := of_decide_eq_true h
  exact ⟨h.1, by omega, h.2.2.1, h.2.2.2⟩
theorem ansL_fault {l : Lnk} {ratio : Int} (h : linkV l = true) (hr : ratioV ratio = true) : lkF bigN l ratio true = some (ansL l ratio true) ∧ foF bigN l ratio holdB = some (ansL l ratio true) ∧ (nSys l ratio holdB).tells letK (ansL l ratio true) := by
  obtain ⟨r, h1, h2, h3⟩ := fault_ans (linkV_ok h) (of_decide_eq_true hr) bigN (Nat.le_refl _)
  have e : ansL l ratio true = r := by unfold ansL; rw [h1]; rfl
  rw [e]
  exact ⟨h1, h2, h3⟩
theorem ansL_words {l : Lnk} {ratio : Int} (h : linkV l = true) (hr : ratioV ratio = true) (hs : (ansL l ratio true).2 = false) : lkF bigN l ratio false = some (ansL l ratio false) ∧ foF bigN l ratio (holdW l) = some (ansL l ratio false) := by
  obtain ⟨r, h1, h2⟩ := words_ans (linkV_ok h) (of_decide_eq_true hr) (no_acc (ansL_fault h hr).2.2 hs) bigN (Nat.le_refl _)
  have e : ansL l ratio false = r := by unfold ansL; rw [h1]; rfl
  rw [e]
  exact ⟨h1, h2⟩
theorem in_is (a b c : Int) : spec_l00In.f a b c = some (decide (b ≤ a ∧ a ≤ c)) := by
  unfold spec_l00In.f
  by_cases h : a ≥ b
  · rw [if_pos h]; congr 1; rw [decide_eq_decide]; omega
  · rw [if_neg h, decide_eq_false (fun z => h z.1)]
theorem within_i (a b c : Int) : impl_within.f a b c = some (decide (b ≤ a ∧ a ≤ c)) := by
  unfold impl_within.f
  by_cases h : b ≤ a
  · rw [if_pos h]; congr 1; rw [decide_eq_decide]; omega
  · rw [if_neg h, decide_eq_false (fun z => h z.1)]
theorem linkV_spec (l : Lnk) : spec_l05Link.f l.ph l.sg l.sk l.wd = some (linkV l, l.ph, l.sg, l.sk, l.wd) := by
  unfold spec_l05Link.f linkV
  simp only [in_is, Option.bind_some, decide_eq_true_eq]
  by_cases h2 : l.ph = 2
  · rw [if_pos h2]
    by_cases h3 : 0 ≤ l.sg ∧ l.sg ≤ 2
    · rw [if_pos h3]
      by_cases h4 : 0 ≤ l.sk ∧ l.sk ≤ 2
      · rw [if_pos h4]; simp [h2, h3, h4]
      · rw [if_neg h4, decide_eq_false (fun z => h4 z.2.2.1)]
    · rw [if_neg h3, decide_eq_false (fun z => h3 z.2.1)]
  · rw [if_neg h2]
    by_cases h5 : l.ph = 4
    · rw [if_pos h5]
      by_cases h3 : 0 ≤ l.sg ∧ l.sg ≤ 2
      · rw [if_pos h3]
        by_cases h4 : 0 ≤ l.sk ∧ l.sk ≤ 2
        · rw [if_pos h4]; simp [h5, h3, h4]
        · rw [if_neg h4, decide_eq_false (fun z => h4 z.2.2.1)]
      · rw [if_neg h3, decide_eq_false (fun z => h3 z.2.1)]
    · rw [if_neg h5, decide_eq_false (fun z => z.1.elim h2 h5)]
theorem linkV_impl (l : Lnk) : impl_ValidLink.f l.ph l.sg l.sk l.wd = some (linkV l) := by
  unfold impl_ValidLink.f linkV
  simp only [within_i, Option.bind_some, decide_eq_true_eq]
  by_cases h2 : l.ph = 2
  · rw [if_pos h2]
    by_cases h3 : 0 ≤ l.sg ∧ l.sg ≤ 2
    · rw [if_pos h3]
      by_cases h4 : 0 ≤ l.sk ∧ l.sk ≤ 2
      · rw [if_pos h4]; simp [h2, h3, h4]
      · rw [if_neg h4, decide_eq_false (fun z => h4 z.2.2.1)]
    · rw [if_neg h3, decide_eq_false (fun z => h3 z.2.1)]
  · rw [if_neg h2]
    by_cases h5 : l.ph = 4
    · rw [if_pos h5]
      by_cases h3 : 0 ≤ l.sg ∧ l.sg ≤ 2
      · rw [if_pos h3]
        by_cases h4 : 0 ≤ l.sk ∧ l.sk ≤ 2
        · rw [if_pos h4]; simp [h5, h3, h4]
        · rw [if_neg h4, decide_eq_false (fun z => h4 z.2.2.1)]
      · rw [if_neg h3, decide_eq_false (fun z => h3 z.2.1)]
    · rw [if_neg h5, decide_eq_false (fun z => z.1.elim h2 h5)]
theorem ratioV_spec (ratio : Int) : spec_l05Ratio.f ratio = some (ratioV ratio) := by unfold spec_l05Ratio.f ratioV; rw [in_is, Option.bind_some]
theorem ratioV_impl (ratio : Int) : impl_isRatio.f ratio = some (ratioV ratio) := by unfold impl_isRatio.f ratioV; rw [within_i, Option.bind_some]
theorem valid_link (g : Nat) (l : Lnk) (w : World) (hl : w.heap[g]? = some (boxL l)) :
    Calls Try.prog 27 #[.pointer (some ⟨g, 0, none⟩)] w fun e w' => e = .returned (.bool (linkV l)) ∧ Below w.heap.size w w' := by
  refine (spec_l05Link.calls g l.ph l.sg l.sk l.wd (linkV l) l.ph l.sg l.sk l.wd (bare w) w ⟨hl, Nat.zero_le _⟩ (bare_below w) (linkV_spec l)).mono ?_
  rintro e w' ⟨he, hI, hB, hK⟩
  exact ⟨he, quiet_of_keep hl hI.1 hB hK⟩
theorem valid_ratio (ratio : Int) (w : World) : Calls Try.prog 28 #[.int .i64 ratio] w fun e w' => e = .returned (.bool (ratioV ratio)) ∧ Below w.heap.size w w' := by
  refine (spec_l05Ratio.calls ratio _ w (ratioV_spec ratio)).mono ?_
  rintro e w' ⟨he, hD⟩
  obtain ⟨m, rfl⟩ := hD
  exact ⟨he, pw_below_drewN (Below.refl _ _) m⟩
theorem valid_ratio' (ratio : Int) (w : World) : Calls Try.prog 31 #[.int .i64 ratio] w fun e w' => e = .returned (.bool (ratioV ratio)) ∧ Below w.heap.size w w' := by
  refine (impl_isRatio.calls ratio _ w (ratioV_impl ratio)).mono ?_
  rintro e w' ⟨he, hD⟩
  obtain ⟨m, rfl⟩ := hD
  exact ⟨he, pw_below_drewN (Below.refl _ _) m⟩
end Go.Proofs.Ytgmnbpdfdagniaa.A
/- The links' functions, walked: what they answer. No conditions. -/
namespace Go.Proofs.Ytgmnbpdfdagniaa.A
open Go.RowKit Go.Proofs.YtgmnbpdfdagniaaW.PrintWords Go.Proofs.YtgmnbpdfdagniaaW.PrintLast Go.Proofs.YtgmnbpdfdagniaaW.PrintMore
set_option linter.unusedVariables false
set_option linter.unusedSimpArgs false
theorem holdB.calls (x : LN) (b : Bool) (w : World) : Calls Try.prog 33 (#[valN x, .bool b] ++ #[]) w fun e w' => e = .returned (.bool (holdB x b)) ∧ Below w.heap.size w w' := isFault.calls x b w
set_option maxHeartbeats 6400000 in
set_option maxRecDepth 100000 in
theorem holdW.calls (gl : Nat) (l : Lnk) (x : LN) (b : Bool) (w : World) (hl : w.heap[gl]? = some (boxL l)) :
    Calls Try.prog 35 (#[valN x, .bool b] ++ #[.pointer (some ⟨gl, 0, none⟩)]) w fun e w' => e = .returned (.bool (holdW l x b)) ∧ Below w.heap.size w w' := by
  have HL := Aside0.mk hl
  clear hl
  show Calls Try.prog 35 #[.agg #[.int .i64 x.sent, .int .i64 x.req, .int .i64 x.ans, .int .i64 x.plc, .bool x.ow, .int .i64 x.word, .int .i64 x.gone, .int .i64 x.s0, .int .i64 x.s1, .int .i64 x.r0, .int .i64 x.r1, .int .i64 x.taken, .int .u8 x.last, .int .i64 x.run], .bool b, .pointer (some ⟨gl, 0, none⟩)] w _
  go_enter Try.func35, Try.ntmps35
  go_wp2_with (first
    | ((with_reducible refine gate_dst (N := 3) rfl ?_); refine box_event ?hg (N := 3) ?hd (cs := #[.int .i64 x.sent, .int .i64 x.req, .int .i64 x.ans, .int .i64 x.plc, .bool x.ow, .int .i64 x.word, .int .i64 x.gone, .int .i64 x.s0, .int .i64 x.s1, .int .i64 x.r0, .int .i64 x.r1, .int .i64 x.taken, .int .u8 x.last, .int .i64 x.run]) (t := 55) ?hr ?_; (case hd => rfl); (case hg => rfl); (case hr => first | (go_simp; done) | (go_simp; rfl)); intro gx hgx W1 hbox hb; have X1 := Aside0.mk (show W1.heap[gx]? = some (boxN x) from hbox); have L1 := Aside0.mk (blk_below HL.out hb); have B1 := Aside0.mk hb; have n11 : W1.cell? ⟨gx, 11, none⟩ = some (.int .i64 x.taken) := (blk_cell X1.out 11).trans rfl; have l3 : W1.cell? ⟨gl, 3, none⟩ = some (.int .i64 l.wd) := (blk_cell L1.out 3).trans rfl; clear hbox hb hgx))
  go_ret
  exact ⟨rfl, B1.out⟩
theorem foB.calls (l : Lnk) (ratio : Int) (r1 : ByteArray) (r2 : Bool) (w : World) (h : foF bigN l ratio holdB = some (r1, r2)) :
    Calls Try.prog 32 #[.agg #[.int .i64 l.ph, .int .i64 l.sg, .int .i64 l.sk, .int .i64 l.wd], .int .i64 ratio, .func (.func 33) #[] #[]] w fun e w' => e = .returned (.tuple #[.string r1, .bool r2]) ∧ Below w.heap.size w w' :=
  foF.calls bigN l ratio 33 #[] holdB r1 r2 w (enters_of Try.func33 (by kernel_rfl) rfl) (fun x b W _ => holdB.calls x b W) h
theorem foW.calls (gl : Nat) (l : Lnk) (ratio : Int) (r1 : ByteArray) (r2 : Bool) (w : World) (hl : w.heap[gl]? = some (boxL l)) (h : foF bigN l ratio (holdW l) = some (r1, r2)) :
    Calls Try.prog 32 #[.agg #[.int .i64 l.ph, .int .i64 l.sg, .int .i64 l.sk, .int .i64 l.wd], .int .i64 ratio, .func (.func 35) #[] #[.pointer (some ⟨gl, 0, none⟩)]] w fun e w' => e = .returned (.tuple #[.string r1, .bool r2]) ∧ Below w.heap.size w w' :=
  foF.calls bigN l ratio 35 #[.pointer (some ⟨gl, 0, none⟩)] (holdW l) r1 r2 w (enters_of Try.func35 (by kernel_rfl) rfl) (fun x b W hW => holdW.calls gl l x b W (blk_below hl hW)) h
set_option maxHeartbeats 6400000 in
set_option maxRecDepth 100000 in
theorem l05Safe_ans (gl : Nat) (l : Lnk) (ratio : Int) (w : World) (hl : w.heap[gl]? = some (boxL l)) (hv : linkV l = true) (hr : ratioV ratio = true) :
    Calls Try.prog 34 #[.pointer (some ⟨gl, 0, none⟩), .int .i64 ratio] w fun e w' => e = .returned (.bool (!(ansL l ratio true).2)) ∧ Below w.heap.size w w' := by
  have L1 := Aside0.mk hl
  have B1 := Aside0.mk (Below.refl w.heap.size w)
  obtain ⟨ha1, -, -⟩ := ansL_fault hv hr
  obtain ⟨⟨o, b⟩, hob⟩ : ∃ q, ansL l ratio true = q := ⟨_, rfl⟩
  rw [hob] at ha1 ⊢
  have HA1 := Aside0.mk ha1
  clear hl hv hr ha1 hob
  go_enter Try.func34, Try.ntmps34
  go_wp2_with (first
    | (go_at_call 29; (with_reducible refine (lkF.calls_true bigN gl l ratio _ _ _ L1.out HA1.out).mono ?_); rintro e w2 ⟨rfl, hb⟩; have L2 := Aside0.mk (blk_below L1.out hb); have B2 := Aside0.mk (below_step B1.out hb); clear hb))
  go_ret
  exact ⟨rfl, B2.out⟩
set_option maxHeartbeats 6400000 in
set_option maxRecDepth 100000 in
theorem spec_first_ans (l : Lnk) (ratio : Int) (w : World) :
    Calls Try.prog 14 #[.agg #[.int .i64 l.ph, .int .i64 l.sg, .int .i64 l.sk, .int .i64 l.wd], .int .i64 ratio] w fun e w' => e = .returned (.tuple #[.string (if linkV l = true ∧ ratioV ratio = true then ansL l ratio true else (ByteArray.empty, false)).1, .bool (if linkV l = true ∧ ratioV ratio = true then ansL l ratio true else (ByteArray.empty, false)).2]) ∧ Below w.heap.size w w' := by
  cases hv : linkV l with
  | false =>
    have HV := Aside0.mk hv
    have HRES := HV
    rw [if_neg (by simp)]
    clear hv
    go_enter Try.func14, Try.ntmps14
    go_wp2_with (first
      | ((with_reducible refine gate_dst (N := 2) rfl ?_); refine box_event ?hg (N := 2) ?hd (cs := #[.int .i64 l.ph, .int .i64 l.sg, .int .i64 l.sk, .int .i64 l.wd]) (t := 33) ?hr ?_; (case hd => rfl); (case hg => rfl); (case hr => first | (go_simp; done) | (go_simp; rfl)); intro gl hgl W1 hbox hb; have L1 := Aside0.mk (show W1.heap[gl]? = some (boxL l) from hbox); have B1 := Aside0.mk hb; clear hbox hb hgl)
      | (go_at_call 27; (with_reducible refine (valid_link gl l _ L1.out).mono ?_); rintro e w2 ⟨rfl, hb⟩; rw [HV.out]; have L2 := Aside0.mk (blk_below L1.out hb); have B2 := Aside0.mk (below_step B1.out hb); clear hb))
    go_ret2
    exact ⟨by first | rfl | (rw [HRES.out]; rfl) | rw [HRES.out], B2.out⟩
  | true =>
    have HV := Aside0.mk hv
    cases hr : ratioV ratio with
    | false =>
      have HR := Aside0.mk hr
      have HRES := HR
      rw [if_neg (by simp)]
      clear hv hr
      go_enter Try.func14, Try.ntmps14
      go_wp2_with (first
        | ((with_reducible refine gate_dst (N := 2) rfl ?_); refine box_event ?hg (N := 2) ?hd (cs := #[.int .i64 l.ph, .int .i64 l.sg, .int .i64 l.sk, .int .i64 l.wd]) (t := 33) ?hr ?_; (case hd => rfl); (case hg => rfl); (case hr => first | (go_simp; done) | (go_simp; rfl)); intro gl hgl W1 hbox hb; have L1 := Aside0.mk (show W1.heap[gl]? = some (boxL l) from hbox); have B1 := Aside0.mk hb; clear hbox hb hgl)
        | (go_at_call 27; (with_reducible refine (valid_link gl l _ L1.out).mono ?_); rintro e w2 ⟨rfl, hb⟩; rw [HV.out]; have L2 := Aside0.mk (blk_below L1.out hb); have B2 := Aside0.mk (below_step B1.out hb); clear hb)
        | (go_at_call 28; (with_reducible refine (valid_ratio ratio _).mono ?_); rintro e w3 ⟨rfl, hb⟩; rw [HR.out]; have L3 := Aside0.mk (blk_below L2.out hb); have B3 := Aside0.mk (below_step B2.out hb); clear hb))
      go_ret2
      exact ⟨by first | rfl | (rw [HRES.out]; rfl) | rw [HRES.out], B3.out⟩
    | true =>
      have HR := Aside0.mk hr
      have HRES := HR
      obtain ⟨ha1, ha2, -⟩ := ansL_fault hv hr
      obtain ⟨⟨o, b⟩, hob⟩ : ∃ q, ansL l ratio true = q := ⟨_, rfl⟩
      rw [hob] at ha1 ha2
      have HA1 := Aside0.mk ha1
      rw [if_pos ⟨rfl, rfl⟩, hob]
      clear hv hr ha1 ha2 hob
      go_enter Try.func14, Try.ntmps14
      go_wp2_with (first
        | ((with_reducible refine gate_dst (N := 2) rfl ?_); refine box_event ?hg (N := 2) ?hd (cs := #[.int .i64 l.ph, .int .i64 l.sg, .int .i64 l.sk, .int .i64 l.wd]) (t := 33) ?hr ?_; (case hd => rfl); (case hg => rfl); (case hr => first | (go_simp; done) | (go_simp; rfl)); intro gl hgl W1 hbox hb; have L1 := Aside0.mk (show W1.heap[gl]? = some (boxL l) from hbox); have B1 := Aside0.mk hb; clear hbox hb hgl)
        | (go_at_call 27; (with_reducible refine (valid_link gl l _ L1.out).mono ?_); rintro e w2 ⟨rfl, hb⟩; rw [HV.out]; have L2 := Aside0.mk (blk_below L1.out hb); have B2 := Aside0.mk (below_step B1.out hb); clear hb)
        | (go_at_call 28; (with_reducible refine (valid_ratio ratio _).mono ?_); rintro e w3 ⟨rfl, hb⟩; rw [HR.out]; have L3 := Aside0.mk (blk_below L2.out hb); have B3 := Aside0.mk (below_step B2.out hb); clear hb)
        | (go_at_call 29; (with_reducible refine (lkF.calls_true bigN gl l ratio _ _ _ L3.out HA1.out).mono ?_); rintro e w4 ⟨rfl, hb⟩; have L4 := Aside0.mk (blk_below L3.out hb); have B4 := Aside0.mk (below_step B3.out hb); clear hb))
      go_ret2
      exact ⟨by first | rfl | (rw [HRES.out]; rfl) | rw [HRES.out], B4.out⟩
set_option maxHeartbeats 6400000 in
set_option maxRecDepth 100000 in
theorem impl_first_ans (l : Lnk) (ratio : Int) (w : World) :
    Calls Try.prog 16 #[.agg #[.int .i64 l.ph, .int .i64 l.sg, .int .i64 l.sk, .int .i64 l.wd], .int .i64 ratio] w fun e w' => e = .returned (.tuple #[.string (if linkV l = true ∧ ratioV ratio = true then ansL l ratio true else (ByteArray.empty, false)).1, .bool (if linkV l = true ∧ ratioV ratio = true then ansL l ratio true else (ByteArray.empty, false)).2]) ∧ Below w.heap.size w w' := by
  cases hv : linkV l with
  | false =>
    have HV := Aside0.mk hv
    have HRES := HV
    rw [if_neg (by simp)]
    clear hv
    go_enter Try.func16, Try.ntmps16
    go_wp2_with (first
      | ((with_reducible refine gate_dst (N := 2) rfl ?_); refine box_event ?hg (N := 2) ?hd (cs := #[.int .i64 l.ph, .int .i64 l.sg, .int .i64 l.sk, .int .i64 l.wd]) (t := 33) ?hr ?_; (case hd => rfl); (case hg => rfl); (case hr => first | (go_simp; done) | (go_simp; rfl)); intro gl hgl W1 hbox hb; have L1 := Aside0.mk (show W1.heap[gl]? = some (boxL l) from hbox); have B1 := Aside0.mk hb; clear hbox hb hgl)
      | ((with_reducible refine gate_dst (N := 6) rfl ?_); refine load_row_event rfl 33 (.tmp 2) rfl gl rfl 33 #[.int .i64 l.ph, .int .i64 l.sg, .int .i64 l.sk, .int .i64 l.wd] _ L1.out Try.underlying33 rfl (by kernel_rfl) ?_)
      | (go_at_call 30; (with_reducible refine (impl_ValidLink.calls l.ph l.sg l.sk l.wd _ _ (linkV_impl l)).mono ?_); rintro e w2 ⟨rfl, hb⟩; rw [HV.out]; have L2 := Aside0.mk (blk_below L1.out hb); have B2 := Aside0.mk (below_step B1.out hb); clear hb))
    go_ret2
    exact ⟨by first | rfl | (rw [HRES.out]; rfl) | rw [HRES.out], B2.out⟩
  | true =>
    have HV := Aside0.mk hv
    cases hr : ratioV ratio with
    | false =>
      have HR := Aside0.mk hr
      have HRES := HR
      rw [if_neg (by simp)]
      clear hv hr
      go_enter Try.func16, Try.ntmps16
      go_wp2_with (first
        | ((with_reducible refine gate_dst (N := 2) rfl ?_); refine box_event ?hg (N := 2) ?hd (cs := #[.int .i64 l.ph, .int .i64 l.sg, .int .i64 l.sk, .int .i64 l.wd]) (t := 33) ?hr ?_; (case hd => rfl); (case hg => rfl); (case hr => first | (go_simp; done) | (go_simp; rfl)); intro gl hgl W1 hbox hb; have L1 := Aside0.mk (show W1.heap[gl]? = some (boxL l) from hbox); have B1 := Aside0.mk hb; clear hbox hb hgl)
        | ((with_reducible refine gate_dst (N := 6) rfl ?_); refine load_row_event rfl 33 (.tmp 2) rfl gl rfl 33 #[.int .i64 l.ph, .int .i64 l.sg, .int .i64 l.sk, .int .i64 l.wd] _ L1.out Try.underlying33 rfl (by kernel_rfl) ?_)
        | (go_at_call 30; (with_reducible refine (impl_ValidLink.calls l.ph l.sg l.sk l.wd _ _ (linkV_impl l)).mono ?_); rintro e w2 ⟨rfl, hb⟩; rw [HV.out]; have L2 := Aside0.mk (blk_below L1.out hb); have B2 := Aside0.mk (below_step B1.out hb); clear hb)
        | (go_at_call 31; (with_reducible refine (valid_ratio' ratio _).mono ?_); rintro e w3 ⟨rfl, hb⟩; rw [HR.out]; have L3 := Aside0.mk (blk_below L2.out hb); have B3 := Aside0.mk (below_step B2.out hb); clear hb))
      go_ret2
      exact ⟨by first | rfl | (rw [HRES.out]; rfl) | rw [HRES.out], B3.out⟩
    | true =>
      have HR := Aside0.mk hr
      have HRES := HR
      obtain ⟨ha1, ha2, -⟩ := ansL_fault hv hr
      obtain ⟨⟨o, b⟩, hob⟩ : ∃ q, ansL l ratio true = q := ⟨_, rfl⟩
      rw [hob] at ha1 ha2
      have HA1 := Aside0.mk ha2
      rw [if_pos ⟨rfl, rfl⟩, hob]
      clear hv hr ha1 ha2 hob
      go_enter Try.func16, Try.ntmps16
      go_wp2_with (first
        | ((with_reducible refine gate_dst (N := 2) rfl ?_); refine box_event ?hg (N := 2) ?hd (cs := #[.int .i64 l.ph, .int .i64 l.sg, .int .i64 l.sk, .int .i64 l.wd]) (t := 33) ?hr ?_; (case hd => rfl); (case hg => rfl); (case hr => first | (go_simp; done) | (go_simp; rfl)); intro gl hgl W1 hbox hb; have L1 := Aside0.mk (show W1.heap[gl]? = some (boxL l) from hbox); have B1 := Aside0.mk hb; clear hbox hb hgl)
        | ((with_reducible refine gate_dst (N := 6) rfl ?_); refine load_row_event rfl 33 (.tmp 2) rfl gl rfl 33 #[.int .i64 l.ph, .int .i64 l.sg, .int .i64 l.sk, .int .i64 l.wd] _ L1.out Try.underlying33 rfl (by kernel_rfl) ?_)
        | ((with_reducible refine gate_dst (N := 14) rfl ?_); refine load_row_event rfl 33 (.tmp 2) rfl gl rfl 33 #[.int .i64 l.ph, .int .i64 l.sg, .int .i64 l.sk, .int .i64 l.wd] _ L3.out Try.underlying33 rfl (by kernel_rfl) ?_)
        | (go_at_call 30; (with_reducible refine (impl_ValidLink.calls l.ph l.sg l.sk l.wd _ _ (linkV_impl l)).mono ?_); rintro e w2 ⟨rfl, hb⟩; rw [HV.out]; have L2 := Aside0.mk (blk_below L1.out hb); have B2 := Aside0.mk (below_step B1.out hb); clear hb)
        | (go_at_call 31; (with_reducible refine (valid_ratio' ratio _).mono ?_); rintro e w3 ⟨rfl, hb⟩; rw [HR.out]; have L3 := Aside0.mk (blk_below L2.out hb); have B3 := Aside0.mk (below_step B2.out hb); clear hb)
        | (go_at_call 32; (with_reducible refine (foB.calls l ratio _ _ _ HA1.out).mono ?_); rintro e w4 ⟨rfl, hb⟩; have L4 := Aside0.mk (blk_below L3.out hb); have B4 := Aside0.mk (below_step B3.out hb); clear hb))
      go_ret2
      exact ⟨by first | rfl | (rw [HRES.out]; rfl) | rw [HRES.out], B4.out⟩
set_option maxHeartbeats 6400000 in
set_option maxRecDepth 100000 in
theorem impl_safe_ans (l : Lnk) (ratio : Int) (w : World) :
    Calls Try.prog 18 #[.agg #[.int .i64 l.ph, .int .i64 l.sg, .int .i64 l.sk, .int .i64 l.wd], .int .i64 ratio] w fun e w' => e = .returned (.bool (linkV l && (ratioV ratio && !(ansL l ratio true).2))) ∧ Below w.heap.size w w' := by
  cases hv : linkV l with
  | false =>
    have HV := Aside0.mk hv
    have HRES := HV
    rw [Bool.false_and]
    clear hv
    go_enter Try.func18, Try.ntmps18
    go_wp2_with (first
      | ((with_reducible refine gate_dst (N := 2) rfl ?_); refine box_event ?hg (N := 2) ?hd (cs := #[.int .i64 l.ph, .int .i64 l.sg, .int .i64 l.sk, .int .i64 l.wd]) (t := 33) ?hr ?_; (case hd => rfl); (case hg => rfl); (case hr => first | (go_simp; done) | (go_simp; rfl)); intro gl hgl W1 hbox hb; have L1 := Aside0.mk (show W1.heap[gl]? = some (boxL l) from hbox); have B1 := Aside0.mk hb; clear hbox hb hgl)
      | ((with_reducible refine gate_dst (N := 7) rfl ?_); refine load_row_event rfl 33 (.tmp 2) rfl gl rfl 33 #[.int .i64 l.ph, .int .i64 l.sg, .int .i64 l.sk, .int .i64 l.wd] _ L1.out Try.underlying33 rfl (by kernel_rfl) ?_)
      | (go_at_call 30; (with_reducible refine (impl_ValidLink.calls l.ph l.sg l.sk l.wd _ _ (linkV_impl l)).mono ?_); rintro e w2 ⟨rfl, hb⟩; rw [HV.out]; have L2 := Aside0.mk (blk_below L1.out hb); have B2 := Aside0.mk (below_step B1.out hb); clear hb))
    go_ret
    exact ⟨by first | rfl | (rw [HRES.out]; rfl) | rw [HRES.out], B2.out⟩
  | true =>
    have HV := Aside0.mk hv
    cases hr : ratioV ratio with
    | false =>
      have HR := Aside0.mk hr
      have HRES := HR
      rw [Bool.false_and, Bool.and_false]
      clear hv hr
      go_enter Try.func18, Try.ntmps18
      go_wp2_with (first
        | ((with_reducible refine gate_dst (N := 2) rfl ?_); refine box_event ?hg (N := 2) ?hd (cs := #[.int .i64 l.ph, .int .i64 l.sg, .int .i64 l.sk, .int .i64 l.wd]) (t := 33) ?hr ?_; (case hd => rfl); (case hg => rfl); (case hr => first | (go_simp; done) | (go_simp; rfl)); intro gl hgl W1 hbox hb; have L1 := Aside0.mk (show W1.heap[gl]? = some (boxL l) from hbox); have B1 := Aside0.mk hb; clear hbox hb hgl)
        | ((with_reducible refine gate_dst (N := 7) rfl ?_); refine load_row_event rfl 33 (.tmp 2) rfl gl rfl 33 #[.int .i64 l.ph, .int .i64 l.sg, .int .i64 l.sk, .int .i64 l.wd] _ L1.out Try.underlying33 rfl (by kernel_rfl) ?_)
        | (go_at_call 30; (with_reducible refine (impl_ValidLink.calls l.ph l.sg l.sk l.wd _ _ (linkV_impl l)).mono ?_); rintro e w2 ⟨rfl, hb⟩; rw [HV.out]; have L2 := Aside0.mk (blk_below L1.out hb); have B2 := Aside0.mk (below_step B1.out hb); clear hb)
        | (go_at_call 31; (with_reducible refine (valid_ratio' ratio _).mono ?_); rintro e w3 ⟨rfl, hb⟩; rw [HR.out]; have L3 := Aside0.mk (blk_below L2.out hb); have B3 := Aside0.mk (below_step B2.out hb); clear hb))
      go_ret
      exact ⟨by first | rfl | (rw [HRES.out]; rfl) | rw [HRES.out], B3.out⟩
    | true =>
      have HR := Aside0.mk hr
      have HRES := HR
      obtain ⟨ha1, ha2, -⟩ := ansL_fault hv hr
      obtain ⟨⟨o, b⟩, hob⟩ : ∃ q, ansL l ratio true = q := ⟨_, rfl⟩
      rw [hob] at ha1 ha2
      have HA1 := Aside0.mk ha2
      rw [hob, Bool.true_and, Bool.true_and]
      clear hv hr ha1 ha2 hob
      go_enter Try.func18, Try.ntmps18
      go_wp2_with (first
        | ((with_reducible refine gate_dst (N := 2) rfl ?_); refine box_event ?hg (N := 2) ?hd (cs := #[.int .i64 l.ph, .int .i64 l.sg, .int .i64 l.sk, .int .i64 l.wd]) (t := 33) ?hr ?_; (case hd => rfl); (case hg => rfl); (case hr => first | (go_simp; done) | (go_simp; rfl)); intro gl hgl W1 hbox hb; have L1 := Aside0.mk (show W1.heap[gl]? = some (boxL l) from hbox); have B1 := Aside0.mk hb; clear hbox hb hgl)
        | ((with_reducible refine gate_dst (N := 7) rfl ?_); refine load_row_event rfl 33 (.tmp 2) rfl gl rfl 33 #[.int .i64 l.ph, .int .i64 l.sg, .int .i64 l.sk, .int .i64 l.wd] _ L1.out Try.underlying33 rfl (by kernel_rfl) ?_)
        | ((with_reducible refine gate_dst (N := 16) rfl ?_); refine load_row_event rfl 33 (.tmp 2) rfl gl rfl 33 #[.int .i64 l.ph, .int .i64 l.sg, .int .i64 l.sk, .int .i64 l.wd] _ L3.out Try.underlying33 rfl (by kernel_rfl) ?_)
        | (go_at_call 30; (with_reducible refine (impl_ValidLink.calls l.ph l.sg l.sk l.wd _ _ (linkV_impl l)).mono ?_); rintro e w2 ⟨rfl, hb⟩; rw [HV.out]; have L2 := Aside0.mk (blk_below L1.out hb); have B2 := Aside0.mk (below_step B1.out hb); clear hb)
        | (go_at_call 31; (with_reducible refine (valid_ratio' ratio _).mono ?_); rintro e w3 ⟨rfl, hb⟩; rw [HR.out]; have L3 := Aside0.mk (blk_below L2.out hb); have B3 := Aside0.mk (below_step B2.out hb); clear hb)
        | (go_at_call 32; (with_reducible refine (foB.calls l ratio _ _ _ HA1.out).mono ?_); rintro e w4 ⟨rfl, hb⟩; have L4 := Aside0.mk (blk_below L3.out hb); have B4 := Aside0.mk (below_step B3.out hb); clear hb))
      go_ret
      exact ⟨by first | rfl | (rw [HRES.out]; rfl) | rw [HRES.out], B4.out⟩
set_option maxHeartbeats 6400000 in
set_option maxRecDepth 100000 in
theorem spec_safe_ans (l : Lnk) (ratio : Int) (w : World) :
    Calls Try.prog 17 #[.agg #[.int .i64 l.ph, .int .i64 l.sg, .int .i64 l.sk, .int .i64 l.wd], .int .i64 ratio] w fun e w' => e = .returned (.bool (linkV l && (ratioV ratio && !(ansL l ratio true).2))) ∧ Below w.heap.size w w' := by
  cases hv : linkV l with
  | false =>
    have HV := Aside0.mk hv
    have HRES := HV
    rw [Bool.false_and]
    clear hv
    go_enter Try.func17, Try.ntmps17
    go_wp2_with (first
      | ((with_reducible refine gate_dst (N := 2) rfl ?_); refine box_event ?hg (N := 2) ?hd (cs := #[.int .i64 l.ph, .int .i64 l.sg, .int .i64 l.sk, .int .i64 l.wd]) (t := 33) ?hr ?_; (case hd => rfl); (case hg => rfl); (case hr => first | (go_simp; done) | (go_simp; rfl)); intro gl hgl W1 hbox hb; have L1 := Aside0.mk (show W1.heap[gl]? = some (boxL l) from hbox); have B1 := Aside0.mk hb; clear hbox hb hgl)
      | (go_at_call 27; (with_reducible refine (valid_link gl l _ L1.out).mono ?_); rintro e w2 ⟨rfl, hb⟩; rw [HV.out]; have L2 := Aside0.mk (blk_below L1.out hb); have B2 := Aside0.mk (below_step B1.out hb); clear hb))
    go_ret
    exact ⟨by first | rfl | (rw [HRES.out]; rfl) | rw [HRES.out], B2.out⟩
  | true =>
    have HV := Aside0.mk hv
    cases hr : ratioV ratio with
    | false =>
      have HR := Aside0.mk hr
      have HRES := HR
      rw [Bool.false_and, Bool.and_false]
      clear hv hr
      go_enter Try.func17, Try.ntmps17
      go_wp2_with (first
        | ((with_reducible refine gate_dst (N := 2) rfl ?_); refine box_event ?hg (N := 2) ?hd (cs := #[.int .i64 l.ph, .int .i64 l.sg, .int .i64 l.sk, .int .i64 l.wd]) (t := 33) ?hr ?_; (case hd => rfl); (case hg => rfl); (case hr => first | (go_simp; done) | (go_simp; rfl)); intro gl hgl W1 hbox hb; have L1 := Aside0.mk (show W1.heap[gl]? = some (boxL l) from hbox); have B1 := Aside0.mk hb; clear hbox hb hgl)
        | (go_at_call 27; (with_reducible refine (valid_link gl l _ L1.out).mono ?_); rintro e w2 ⟨rfl, hb⟩; rw [HV.out]; have L2 := Aside0.mk (blk_below L1.out hb); have B2 := Aside0.mk (below_step B1.out hb); clear hb)
        | (go_at_call 28; (with_reducible refine (valid_ratio ratio _).mono ?_); rintro e w3 ⟨rfl, hb⟩; rw [HR.out]; have L3 := Aside0.mk (blk_below L2.out hb); have B3 := Aside0.mk (below_step B2.out hb); clear hb))
      go_ret
      exact ⟨by first | rfl | (rw [HRES.out]; rfl) | rw [HRES.out], B3.out⟩
    | true =>
      have HR := Aside0.mk hr
      have HRES := HR
      rw [Bool.true_and, Bool.true_and]
      obtain ⟨b, hb⟩ : ∃ b, (!(ansL l ratio true).2) = b := ⟨_, rfl⟩
      have HS := Aside0.mk hb
      rw [hb]
      clear hv hr hb
      go_enter Try.func17, Try.ntmps17
      go_wp2_with (first
        | ((with_reducible refine gate_dst (N := 2) rfl ?_); refine box_event ?hg (N := 2) ?hd (cs := #[.int .i64 l.ph, .int .i64 l.sg, .int .i64 l.sk, .int .i64 l.wd]) (t := 33) ?hr ?_; (case hd => rfl); (case hg => rfl); (case hr => first | (go_simp; done) | (go_simp; rfl)); intro gl hgl W1 hbox hb; have L1 := Aside0.mk (show W1.heap[gl]? = some (boxL l) from hbox); have B1 := Aside0.mk hb; clear hbox hb hgl)
        | (go_at_call 27; (with_reducible refine (valid_link gl l _ L1.out).mono ?_); rintro e w2 ⟨rfl, hb⟩; rw [HV.out]; have L2 := Aside0.mk (blk_below L1.out hb); have B2 := Aside0.mk (below_step B1.out hb); clear hb)
        | (go_at_call 28; (with_reducible refine (valid_ratio ratio _).mono ?_); rintro e w3 ⟨rfl, hb⟩; rw [HR.out]; have L3 := Aside0.mk (blk_below L2.out hb); have B3 := Aside0.mk (below_step B2.out hb); clear hb)
        | (go_at_call 34; (with_reducible refine (l05Safe_ans gl l ratio _ L3.out HV.out HR.out).mono ?_); rintro e w4 ⟨rfl, hb⟩; rw [HS.out]; have L4 := Aside0.mk (blk_below L3.out hb); have B4 := Aside0.mk (below_step B3.out hb); clear hb))
      go_ret
      exact ⟨by first | rfl | (rw [HRES.out]; rfl) | rw [HRES.out], B4.out⟩
set_option maxHeartbeats 6400000 in
set_option maxRecDepth 100000 in
theorem spec_fewest_ans (l : Lnk) (ratio : Int) (w : World) :
    Calls Try.prog 19 #[.agg #[.int .i64 l.ph, .int .i64 l.sg, .int .i64 l.sk, .int .i64 l.wd], .int .i64 ratio] w fun e w' => e = .returned (.tuple #[.string (if (linkV l && (ratioV ratio && !(ansL l ratio true).2)) = true then ansL l ratio false else (ByteArray.empty, false)).1, .bool (if (linkV l && (ratioV ratio && !(ansL l ratio true).2)) = true then ansL l ratio false else (ByteArray.empty, false)).2]) ∧ Below w.heap.size w w' := by
  cases hv : linkV l with
  | false =>
    have HV := Aside0.mk hv
    have HRES := HV
    rw [if_neg (by simp)]
    clear hv
    go_enter Try.func19, Try.ntmps19
    go_wp2_with (first
      | ((with_reducible refine gate_dst (N := 2) rfl ?_); refine box_event ?hg (N := 2) ?hd (cs := #[.int .i64 l.ph, .int .i64 l.sg, .int .i64 l.sk, .int .i64 l.wd]) (t := 33) ?hr ?_; (case hd => rfl); (case hg => rfl); (case hr => first | (go_simp; done) | (go_simp; rfl)); intro gl hgl W1 hbox hb; have L1 := Aside0.mk (show W1.heap[gl]? = some (boxL l) from hbox); have B1 := Aside0.mk hb; clear hbox hb hgl)
      | (go_at_call 27; (with_reducible refine (valid_link gl l _ L1.out).mono ?_); rintro e w2 ⟨rfl, hb⟩; rw [HV.out]; have L2 := Aside0.mk (blk_below L1.out hb); have B2 := Aside0.mk (below_step B1.out hb); clear hb))
    go_ret2
    exact ⟨by first | rfl | (rw [HRES.out]; rfl) | rw [HRES.out], B2.out⟩
  | true =>
    have HV := Aside0.mk hv
    cases hr : ratioV ratio with
    | false =>
      have HR := Aside0.mk hr
      have HRES := HR
      rw [if_neg (by simp)]
      clear hv hr
      go_enter Try.func19, Try.ntmps19
      go_wp2_with (first
        | ((with_reducible refine gate_dst (N := 2) rfl ?_); refine box_event ?hg (N := 2) ?hd (cs := #[.int .i64 l.ph, .int .i64 l.sg, .int .i64 l.sk, .int .i64 l.wd]) (t := 33) ?hr ?_; (case hd => rfl); (case hg => rfl); (case hr => first | (go_simp; done) | (go_simp; rfl)); intro gl hgl W1 hbox hb; have L1 := Aside0.mk (show W1.heap[gl]? = some (boxL l) from hbox); have B1 := Aside0.mk hb; clear hbox hb hgl)
        | (go_at_call 27; (with_reducible refine (valid_link gl l _ L1.out).mono ?_); rintro e w2 ⟨rfl, hb⟩; rw [HV.out]; have L2 := Aside0.mk (blk_below L1.out hb); have B2 := Aside0.mk (below_step B1.out hb); clear hb)
        | (go_at_call 28; (with_reducible refine (valid_ratio ratio _).mono ?_); rintro e w3 ⟨rfl, hb⟩; rw [HR.out]; have L3 := Aside0.mk (blk_below L2.out hb); have B3 := Aside0.mk (below_step B2.out hb); clear hb))
      go_ret2
      exact ⟨by first | rfl | (rw [HRES.out]; rfl) | rw [HRES.out], B3.out⟩
    | true =>
      have HR := Aside0.mk hr
      have HRES := HR
      cases hs : (ansL l ratio true).2 with
      | true =>
        have HS := Aside0.mk (show (!(ansL l ratio true).2) = false by rw [hs]; rfl)
        rw [if_neg (by simp)]
        clear hv hr hs
        go_enter Try.func19, Try.ntmps19
        go_wp2_with (first
          | ((with_reducible refine gate_dst (N := 2) rfl ?_); refine box_event ?hg (N := 2) ?hd (cs := #[.int .i64 l.ph, .int .i64 l.sg, .int .i64 l.sk, .int .i64 l.wd]) (t := 33) ?hr ?_; (case hd => rfl); (case hg => rfl); (case hr => first | (go_simp; done) | (go_simp; rfl)); intro gl hgl W1 hbox hb; have L1 := Aside0.mk (show W1.heap[gl]? = some (boxL l) from hbox); have B1 := Aside0.mk hb; clear hbox hb hgl)
          | (go_at_call 27; (with_reducible refine (valid_link gl l _ L1.out).mono ?_); rintro e w2 ⟨rfl, hb⟩; rw [HV.out]; have L2 := Aside0.mk (blk_below L1.out hb); have B2 := Aside0.mk (below_step B1.out hb); clear hb)
          | (go_at_call 28; (with_reducible refine (valid_ratio ratio _).mono ?_); rintro e w3 ⟨rfl, hb⟩; rw [HR.out]; have L3 := Aside0.mk (blk_below L2.out hb); have B3 := Aside0.mk (below_step B2.out hb); clear hb)
          | (go_at_call 34; (with_reducible refine (l05Safe_ans gl l ratio _ L3.out HV.out HR.out).mono ?_); rintro e w4 ⟨rfl, hb⟩; rw [HS.out]; have L4 := Aside0.mk (blk_below L3.out hb); have B4 := Aside0.mk (below_step B3.out hb); clear hb))
        go_ret2
        exact ⟨by first | rfl | (rw [HRES.out]; rfl) | rw [HRES.out], B4.out⟩
      | false =>
        have HS := Aside0.mk (show (!(ansL l ratio true).2) = true by rw [hs]; rfl)
        rw [if_pos (by simp)]
        have ha2 := (ansL_words hv hr hs).1
        obtain ⟨⟨o, b⟩, hob⟩ : ∃ q, ansL l ratio false = q := ⟨_, rfl⟩
        rw [hob] at ha2 ⊢
        have HA2 := Aside0.mk ha2
        clear hv hr hs ha2 hob
        go_enter Try.func19, Try.ntmps19
        go_wp2_with (first
          | ((with_reducible refine gate_dst (N := 2) rfl ?_); refine box_event ?hg (N := 2) ?hd (cs := #[.int .i64 l.ph, .int .i64 l.sg, .int .i64 l.sk, .int .i64 l.wd]) (t := 33) ?hr ?_; (case hd => rfl); (case hg => rfl); (case hr => first | (go_simp; done) | (go_simp; rfl)); intro gl hgl W1 hbox hb; have L1 := Aside0.mk (show W1.heap[gl]? = some (boxL l) from hbox); have B1 := Aside0.mk hb; clear hbox hb hgl)
          | (go_at_call 27; (with_reducible refine (valid_link gl l _ L1.out).mono ?_); rintro e w2 ⟨rfl, hb⟩; rw [HV.out]; have L2 := Aside0.mk (blk_below L1.out hb); have B2 := Aside0.mk (below_step B1.out hb); clear hb)
          | (go_at_call 28; (with_reducible refine (valid_ratio ratio _).mono ?_); rintro e w3 ⟨rfl, hb⟩; rw [HR.out]; have L3 := Aside0.mk (blk_below L2.out hb); have B3 := Aside0.mk (below_step B2.out hb); clear hb)
          | (go_at_call 34; (with_reducible refine (l05Safe_ans gl l ratio _ L3.out HV.out HR.out).mono ?_); rintro e w4 ⟨rfl, hb⟩; rw [HS.out]; have L4 := Aside0.mk (blk_below L3.out hb); have B4 := Aside0.mk (below_step B3.out hb); clear hb)
          | (go_at_call 29; (with_reducible refine (lkF.calls_false bigN gl l ratio _ _ _ L4.out HA2.out).mono ?_); rintro e w5 ⟨rfl, hb⟩; have L5 := Aside0.mk (blk_below L4.out hb); have B5 := Aside0.mk (below_step B4.out hb); clear hb))
        go_ret2
        exact ⟨by first | rfl | (rw [HRES.out]; rfl) | rw [HRES.out], B5.out⟩
set_option maxHeartbeats 6400000 in
set_option maxRecDepth 100000 in
theorem impl_fewest_ans (l : Lnk) (ratio : Int) (w : World) :
    Calls Try.prog 20 #[.agg #[.int .i64 l.ph, .int .i64 l.sg, .int .i64 l.sk, .int .i64 l.wd], .int .i64 ratio] w fun e w' => e = .returned (.tuple #[.string (if (linkV l && (ratioV ratio && !(ansL l ratio true).2)) = true then ansL l ratio false else (ByteArray.empty, false)).1, .bool (if (linkV l && (ratioV ratio && !(ansL l ratio true).2)) = true then ansL l ratio false else (ByteArray.empty, false)).2]) ∧ Below w.heap.size w w' := by
  cases hq : (linkV l && (ratioV ratio && !(ansL l ratio true).2)) with
  | false =>
    have HS := Aside0.mk hq
    have HRES := HS
    rw [if_neg (by simp)]
    clear hq
    go_enter Try.func20, Try.ntmps20
    go_wp2_with (first
      | ((with_reducible refine gate_dst (N := 2) rfl ?_); refine box_event ?hg (N := 2) ?hd (cs := #[.int .i64 l.ph, .int .i64 l.sg, .int .i64 l.sk, .int .i64 l.wd]) (t := 33) ?hr ?_; (case hd => rfl); (case hg => rfl); (case hr => first | (go_simp; done) | (go_simp; rfl)); intro gl hgl W1 hbox hb; have L1 := Aside0.mk (show W1.heap[gl]? = some (boxL l) from hbox); have B1 := Aside0.mk hb; clear hbox hb hgl)
      | ((with_reducible refine gate_dst (N := 6) rfl ?_); refine load_row_event rfl 33 (.tmp 2) rfl gl rfl 33 #[.int .i64 l.ph, .int .i64 l.sg, .int .i64 l.sk, .int .i64 l.wd] _ L1.out Try.underlying33 rfl (by kernel_rfl) ?_)
      | (go_at_call 18; (with_reducible refine (impl_safe_ans l ratio _).mono ?_); rintro e w2 ⟨rfl, hb⟩; rw [HS.out]; have L2 := Aside0.mk (blk_below L1.out hb); have B2 := Aside0.mk (below_step B1.out hb); clear hb))
    go_ret2
    exact ⟨by first | rfl | (rw [HRES.out]; rfl) | rw [HRES.out], B2.out⟩
  | true =>
    have HS := Aside0.mk hq
    have HRES := HS
    rw [if_pos rfl]
    simp only [Bool.and_eq_true, Bool.not_eq_true'] at hq
    obtain ⟨hv, hr, hs⟩ := hq
    have ha2 := (ansL_words hv hr hs).2
    obtain ⟨⟨o, b⟩, hob⟩ : ∃ q, ansL l ratio false = q := ⟨_, rfl⟩
    rw [hob] at ha2 ⊢
    have HA2 := Aside0.mk ha2
    clear hv hr hs ha2 hob
    go_enter Try.func20, Try.ntmps20
    go_wp2_with (first
      | ((with_reducible refine gate_dst (N := 2) rfl ?_); refine box_event ?hg (N := 2) ?hd (cs := #[.int .i64 l.ph, .int .i64 l.sg, .int .i64 l.sk, .int .i64 l.wd]) (t := 33) ?hr ?_; (case hd => rfl); (case hg => rfl); (case hr => first | (go_simp; done) | (go_simp; rfl)); intro gl hgl W1 hbox hb; have L1 := Aside0.mk (show W1.heap[gl]? = some (boxL l) from hbox); have B1 := Aside0.mk hb; clear hbox hb hgl)
      | ((with_reducible refine gate_dst (N := 6) rfl ?_); refine load_row_event rfl 33 (.tmp 2) rfl gl rfl 33 #[.int .i64 l.ph, .int .i64 l.sg, .int .i64 l.sk, .int .i64 l.wd] _ L1.out Try.underlying33 rfl (by kernel_rfl) ?_)
      | (go_at_call 18; (with_reducible refine (impl_safe_ans l ratio _).mono ?_); rintro e w2 ⟨rfl, hb⟩; rw [HS.out]; have L2 := Aside0.mk (blk_below L1.out hb); have B2 := Aside0.mk (below_step B1.out hb); clear hb)
      | ((with_reducible refine gate_dst (N := 10) rfl ?_); refine load_row_event rfl 33 (.tmp 2) rfl gl rfl 33 #[.int .i64 l.ph, .int .i64 l.sg, .int .i64 l.sk, .int .i64 l.wd] _ L2.out Try.underlying33 rfl (by kernel_rfl) ?_)
      | (go_at_call 32; (with_reducible refine (foW.calls gl l ratio _ _ _ L2.out HA2.out).mono ?_); rintro e w3 ⟨rfl, hb⟩; have L3 := Aside0.mk (blk_below L2.out hb); have B3 := Aside0.mk (below_step B2.out hb); clear hb))
    go_ret2
    exact ⟨by first | rfl | (rw [HRES.out]; rfl) | rw [HRES.out], B3.out⟩
end Go.Proofs.Ytgmnbpdfdagniaa.A
-- Printed by this session's oprint.py through the kit's printer.
namespace Go.Proofs.Ytgmnbpdfdagniaa.A
open Go.RowKit Go.Proofs.YtgmnbpdfdagniaaW.PrintWords Go.Proofs.YtgmnbpdfdagniaaW.PrintLast Go.Proofs.YtgmnbpdfdagniaaW.PrintMore
attribute [local go_sem] max2_int min2_int max_two min_two max_three min_three max_four min_four   -- for this text's walks alone
set_option linter.unusedVariables false
set_option linter.unusedSimpArgs false

/-! ### spec_FirstFault: function 14 -/
-- given: proved by hand (spec_firstfault.tpl)
def spec_FirstFault.f (a0_0 : Int) (a0_1 : Int) (a0_2 : Int) (a0_3 : Int) (a1 : Int) : Option (ByteArray × Bool) := some (if linkV (⟨a0_0, a0_1, a0_2, a0_3⟩ : Lnk) = true ∧ ratioV a1 = true then ansL (⟨a0_0, a0_1, a0_2, a0_3⟩ : Lnk) a1 true else (ByteArray.empty, false))
theorem spec_FirstFault.calls (a0_0 : Int) (a0_1 : Int) (a0_2 : Int) (a0_3 : Int) (a1 : Int) (r1 : ByteArray) (r2 : Bool) (w : World) (h : spec_FirstFault.f a0_0 a0_1 a0_2 a0_3 a1 = some (r1, r2)) :
    Calls Try.prog 14 #[.agg #[.int .i64 a0_0, .int .i64 a0_1, .int .i64 a0_2, .int .i64 a0_3], .int .i64 a1] w fun e w' => e = .returned (.tuple #[.string r1, .bool r2]) ∧ Below w.heap.size w w' := by
  unfold spec_FirstFault.f at h
  have h1 := Option.some.inj h
  have h2 : r1 = (if linkV (⟨a0_0, a0_1, a0_2, a0_3⟩ : Lnk) = true ∧ ratioV a1 = true then ansL (⟨a0_0, a0_1, a0_2, a0_3⟩ : Lnk) a1 true else (ByteArray.empty, false)).1 := by rw [h1]
  have h3 : r2 = (if linkV (⟨a0_0, a0_1, a0_2, a0_3⟩ : Lnk) = true ∧ ratioV a1 = true then ansL (⟨a0_0, a0_1, a0_2, a0_3⟩ : Lnk) a1 true else (ByteArray.empty, false)).2 := by rw [h1]
  rw [h2, h3]
  exact spec_first_ans (⟨a0_0, a0_1, a0_2, a0_3⟩ : Lnk) a1 w

end Go.Proofs.Ytgmnbpdfdagniaa.A
-- Printed by this session's oprint.py through the kit's printer.
namespace Go.Proofs.Ytgmnbpdfdagniaa.A
open Go.RowKit Go.Proofs.YtgmnbpdfdagniaaW.PrintWords Go.Proofs.YtgmnbpdfdagniaaW.PrintLast Go.Proofs.YtgmnbpdfdagniaaW.PrintMore
attribute [local go_sem] max2_int min2_int max_two min_two max_three min_three max_four min_four   -- for this text's walks alone
set_option linter.unusedVariables false
set_option linter.unusedSimpArgs false

/-! ### impl_FirstFault: function 16 -/
-- given: proved by hand (impl_firstfault.tpl)
def impl_FirstFault.f (a0_0 : Int) (a0_1 : Int) (a0_2 : Int) (a0_3 : Int) (a1 : Int) : Option (ByteArray × Bool) := some (if linkV (⟨a0_0, a0_1, a0_2, a0_3⟩ : Lnk) = true ∧ ratioV a1 = true then ansL (⟨a0_0, a0_1, a0_2, a0_3⟩ : Lnk) a1 true else (ByteArray.empty, false))
theorem impl_FirstFault.calls (a0_0 : Int) (a0_1 : Int) (a0_2 : Int) (a0_3 : Int) (a1 : Int) (r1 : ByteArray) (r2 : Bool) (w : World) (h : impl_FirstFault.f a0_0 a0_1 a0_2 a0_3 a1 = some (r1, r2)) :
    Calls Try.prog 16 #[.agg #[.int .i64 a0_0, .int .i64 a0_1, .int .i64 a0_2, .int .i64 a0_3], .int .i64 a1] w fun e w' => e = .returned (.tuple #[.string r1, .bool r2]) ∧ Below w.heap.size w w' := by
  unfold impl_FirstFault.f at h
  have h1 := Option.some.inj h
  have h2 : r1 = (if linkV (⟨a0_0, a0_1, a0_2, a0_3⟩ : Lnk) = true ∧ ratioV a1 = true then ansL (⟨a0_0, a0_1, a0_2, a0_3⟩ : Lnk) a1 true else (ByteArray.empty, false)).1 := by rw [h1]
  have h3 : r2 = (if linkV (⟨a0_0, a0_1, a0_2, a0_3⟩ : Lnk) = true ∧ ratioV a1 = true then ansL (⟨a0_0, a0_1, a0_2, a0_3⟩ : Lnk) a1 true else (ByteArray.empty, false)).2 := by rw [h1]
  rw [h2, h3]
  exact impl_first_ans (⟨a0_0, a0_1, a0_2, a0_3⟩ : Lnk) a1 w

end Go.Proofs.Ytgmnbpdfdagniaa.A
-- Printed by this session's oprint.py through the kit's printer.
namespace Go.Proofs.Ytgmnbpdfdagniaa.A
open Go.RowKit Go.Proofs.YtgmnbpdfdagniaaW.PrintWords Go.Proofs.YtgmnbpdfdagniaaW.PrintLast Go.Proofs.YtgmnbpdfdagniaaW.PrintMore
attribute [local go_sem] max2_int min2_int max_two min_two max_three min_three max_four min_four   -- for this text's walks alone
set_option linter.unusedVariables false
set_option linter.unusedSimpArgs false

/-! ### laws_FnExactFirstFault: function 5 -/
def laws_FnExactFirstFault.f (a0_0 : Int) (a0_1 : Int) (a0_2 : Int) (a0_3 : Int) (a1 : Int) : Option (Bool) := (laws_toLink.f a0_0 a0_1 a0_2 a0_3).bind fun bt124 => ((spec_FirstFault.f bt124.1 bt124.2.1 bt124.2.2.1 bt124.2.2.2 a1).bind fun bt128 => ((laws_toLink.f a0_0 a0_1 a0_2 a0_3).bind fun bt130 => ((impl_FirstFault.f bt130.1 bt130.2.1 bt130.2.2.1 bt130.2.2.2 a1).bind fun bt134 => (if bt134.1.toList = bt128.1.toList then (if (bt134.2 != bt128.2) = true then (some false) else (some true)) else (some false)))))
set_option maxHeartbeats 8000000 in
set_option maxRecDepth 100000 in
theorem laws_FnExactFirstFault.calls (a0_0 : Int) (a0_1 : Int) (a0_2 : Int) (a0_3 : Int) (a1 : Int) (r : Bool) (w : World) (h : laws_FnExactFirstFault.f a0_0 a0_1 a0_2 a0_3 a1 = some r) :
    Calls Try.prog 5 #[.agg #[.int .i64 a0_0, .int .i64 a0_1, .int .i64 a0_2, .int .i64 a0_3], .int .i64 a1] w fun e w' => e = .returned (.bool r) ∧ Below w.heap.size w w' := by
  have hu31 := Try.underlying31
  have HB := Aside0.mk (Below.refl w.heap.size w)
  have H : ((laws_toLink.f a0_0 a0_1 a0_2 a0_3).bind fun bt124 => ((spec_FirstFault.f bt124.1 bt124.2.1 bt124.2.2.1 bt124.2.2.2 a1).bind fun bt128 => ((laws_toLink.f a0_0 a0_1 a0_2 a0_3).bind fun bt130 => ((impl_FirstFault.f bt130.1 bt130.2.1 bt130.2.2.1 bt130.2.2.2 a1).bind fun bt134 => (if bt134.1.toList = bt128.1.toList then (if (bt134.2 != bt128.2) = true then (some false) else (some true)) else (some false)))))) = some r := h
  clear h
  replace H := Option.bind_eq_some_iff.mp H
  obtain ⟨⟨t124, t125, t126, t127⟩, A30, H⟩ := H
  replace H : ((spec_FirstFault.f t124 t125 t126 t127 a1).bind fun bt128 => ((laws_toLink.f a0_0 a0_1 a0_2 a0_3).bind fun bt130 => ((impl_FirstFault.f bt130.1 bt130.2.1 bt130.2.2.1 bt130.2.2.2 a1).bind fun bt134 => (if bt134.1.toList = bt128.1.toList then (if (bt134.2 != bt128.2) = true then (some false) else (some true)) else (some false))))) = some r := H
  have A3 := Aside0.mk A30
  clear A30
  replace H := Option.bind_eq_some_iff.mp H
  obtain ⟨⟨t128, t129⟩, A40, H⟩ := H
  replace H : ((laws_toLink.f a0_0 a0_1 a0_2 a0_3).bind fun bt130 => ((impl_FirstFault.f bt130.1 bt130.2.1 bt130.2.2.1 bt130.2.2.2 a1).bind fun bt134 => (if bt134.1.toList = t128.toList then (if (bt134.2 != t129) = true then (some false) else (some true)) else (some false)))) = some r := H
  have A4 := Aside0.mk A40
  clear A40
  replace H := Option.bind_eq_some_iff.mp H
  obtain ⟨⟨t130, t131, t132, t133⟩, A50, H⟩ := H
  replace H : ((impl_FirstFault.f t130 t131 t132 t133 a1).bind fun bt134 => (if bt134.1.toList = t128.toList then (if (bt134.2 != t129) = true then (some false) else (some true)) else (some false))) = some r := H
  have A5 := Aside0.mk A50
  clear A50
  replace H := Option.bind_eq_some_iff.mp H
  obtain ⟨⟨t134, t135⟩, A60, H⟩ := H
  replace H : (if t134.toList = t128.toList then (if (t135 != t129) = true then (some false) else (some true)) else (some false)) = some r := H
  have A6 := Aside0.mk A60
  clear A60
  by_cases c7 : t134.toList = t128.toList
  · rw [if_pos c7] at H
    have c7b0 : (t134.toList == t128.toList) = true := beq_iff_eq.mpr c7
    have c7b1 : (t134.toList != t128.toList) = false := bne_eq_false_iff_eq.mpr c7
    clear c7
    by_cases c8 : (t135 != t129) = true
    · rw [if_pos c8] at H
      have c8b0 : (t135 != t129) = true := c8
      (try (have c8b1 : decide (t135 = t129) = false := by simpa using c8))
      (try (have c8b2 : (t135 == t129) = false := by simpa using c8))
      (try (have c8b3 : ¬ (t135 = t129) := by simpa using c8))
      clear c8
      obtain rfl := Option.some.inj H
      go_enter Try.func5, Try.ntmps5
      go_wp2_with (first | ((with_reducible refine gate_dst (N := 2) rfl ?_); refine box_event ?hg (N := 2) ?hd (cs := #[.int .i64 a0_0, .int .i64 a0_1, .int .i64 a0_2, .int .i64 a0_3]) (t := 31) ?hr ?_; (case hd => rfl); (case hg => rfl); (case hr => first | (go_simp; done) | (go_simp; rfl)); intro gb123 hg w9 hbox hb; have n0_ := Aside0.mk (below_step (by repeat (first | (with_reducible first | exact HB.out | apply below_alloc | apply pw_below_drewN | apply below_drew1) | exact HB.out)) hb); have n1_ := Aside0.mk (hbox); have n2_ := Aside0.mk ((by rw [hg]; exact (below_size (by repeat (first | (with_reducible first | exact HB.out | apply below_alloc | apply pw_below_drewN | apply below_drew1) | exact HB.out))) : w.heap.size ≤ gb123)); have n3_ := Aside0.mk ((by rw [hg]; exact (below_size (by repeat (first | (with_reducible first | exact HB.out | apply below_alloc | apply pw_below_drewN | apply below_drew1) | exact HB.out))) : w.heap.size ≤ gb123)); clear HB; have HB := n0_; have BK123 := n1_; have GW123 := n2_; have GE123 := n3_; clear n0_ n1_ n2_ n3_; clear hb hbox hg; have hcz10_0 : w9.cell? ⟨gb123, 0, none⟩ = some (.int .i64 a0_0) := (blk_cell BK123.out 0).trans rfl; have hcz10_1 : w9.cell? ⟨gb123, 1, none⟩ = some (.int .i64 a0_1) := (blk_cell BK123.out 1).trans rfl; have hcz10_2 : w9.cell? ⟨gb123, 2, none⟩ = some (.int .i64 a0_2) := (blk_cell BK123.out 2).trans rfl; have hcz10_3 : w9.cell? ⟨gb123, 3, none⟩ = some (.int .i64 a0_3) := (blk_cell BK123.out 3).trans rfl; have hfz10_0 := blk_frozen BK123.out 0; have hfz10_1 := blk_frozen BK123.out 1; have hfz10_2 := blk_frozen BK123.out 2; have hfz10_3 := blk_frozen BK123.out 3) | ((with_reducible refine gate_callee (f := 15) rfl ?_); refine goesL_ (some 11) rfl rfl Try.func15 (by kernel_rfl) rfl #[.agg #[.int .i64 a0_0, .int .i64 a0_1, .int .i64 a0_2, .int .i64 a0_3]] rfl (by (try simp only [List.map_toArray, List.map_cons, List.map_nil]); first | done | rfl | (simp only [List.length_drop, List.length_take]; rfl)) ?_; (with_reducible refine (laws_toLink.calls a0_0 a0_1 a0_2 a0_3 t124 t125 t126 t127 _ A3.out).mono ?_); rintro e w11 ⟨rfl, hb⟩; refine ⟨_, rfl, ?_⟩; have n0_ := Aside0.mk (blk_below (g := gb123) (o := .cells #[.int .i64 a0_0, .int .i64 a0_1, .int .i64 a0_2, .int .i64 a0_3] 31 (0, 0)) (by (with_reducible repeat (first | refine blk_drewN ?_ _ | refine blk_drew ?_ | refine blk_alloc ?_ _)); exact BK123.out) hb); have n1_ := Aside0.mk (below_step (by repeat (first | (with_reducible first | exact HB.out | apply below_alloc | apply pw_below_drewN | apply below_drew1 | refine below_set ?_ GE123.out) | exact HB.out)) hb); clear BK123; clear HB; have BK123 := n0_; have HB := n1_; clear n0_ n1_; (try clear hb); (try clear hb2); (try clear hk); (try clear hi)) | ((with_reducible refine gate_callee (f := 14) rfl ?_); refine goesL_ (some 13) rfl rfl Try.func14 (by kernel_rfl) rfl #[.agg #[.int .i64 t124, .int .i64 t125, .int .i64 t126, .int .i64 t127], .int .i64 a1] rfl (by (try simp only [List.map_toArray, List.map_cons, List.map_nil]); first | done | rfl | (simp only [List.length_drop, List.length_take]; rfl)) ?_; (with_reducible refine (spec_FirstFault.calls t124 t125 t126 t127 a1 t128 t129 _ A4.out).mono ?_); rintro e w12 ⟨rfl, hb⟩; refine ⟨_, rfl, ?_⟩; have n0_ := Aside0.mk (blk_below (g := gb123) (o := .cells #[.int .i64 a0_0, .int .i64 a0_1, .int .i64 a0_2, .int .i64 a0_3] 31 (0, 0)) (by (with_reducible repeat (first | refine blk_drewN ?_ _ | refine blk_drew ?_ | refine blk_alloc ?_ _)); exact BK123.out) hb); have n1_ := Aside0.mk (below_step (by repeat (first | (with_reducible first | exact HB.out | apply below_alloc | apply pw_below_drewN | apply below_drew1 | refine below_set ?_ GE123.out) | exact HB.out)) hb); clear BK123; clear HB; have BK123 := n0_; have HB := n1_; clear n0_ n1_; (try clear hb); (try clear hb2); (try clear hk); (try clear hi); have hcz13_0 : w12.cell? ⟨gb123, 0, none⟩ = some (.int .i64 a0_0) := (blk_cell BK123.out 0).trans rfl; have hcz13_1 : w12.cell? ⟨gb123, 1, none⟩ = some (.int .i64 a0_1) := (blk_cell BK123.out 1).trans rfl; have hcz13_2 : w12.cell? ⟨gb123, 2, none⟩ = some (.int .i64 a0_2) := (blk_cell BK123.out 2).trans rfl; have hcz13_3 : w12.cell? ⟨gb123, 3, none⟩ = some (.int .i64 a0_3) := (blk_cell BK123.out 3).trans rfl; have hfz13_0 := blk_frozen BK123.out 0; have hfz13_1 := blk_frozen BK123.out 1; have hfz13_2 := blk_frozen BK123.out 2; have hfz13_3 := blk_frozen BK123.out 3) | ((with_reducible refine gate_callee (f := 15) rfl ?_); refine goesL_ (some 18) rfl rfl Try.func15 (by kernel_rfl) rfl #[.agg #[.int .i64 a0_0, .int .i64 a0_1, .int .i64 a0_2, .int .i64 a0_3]] rfl (by (try simp only [List.map_toArray, List.map_cons, List.map_nil]); first | done | rfl | (simp only [List.length_drop, List.length_take]; rfl)) ?_; (with_reducible refine (laws_toLink.calls a0_0 a0_1 a0_2 a0_3 t130 t131 t132 t133 _ A5.out).mono ?_); rintro e w14 ⟨rfl, hb⟩; refine ⟨_, rfl, ?_⟩; have n0_ := Aside0.mk (blk_below (g := gb123) (o := .cells #[.int .i64 a0_0, .int .i64 a0_1, .int .i64 a0_2, .int .i64 a0_3] 31 (0, 0)) (by (with_reducible repeat (first | refine blk_drewN ?_ _ | refine blk_drew ?_ | refine blk_alloc ?_ _)); exact BK123.out) hb); have n1_ := Aside0.mk (below_step (by repeat (first | (with_reducible first | exact HB.out | apply below_alloc | apply pw_below_drewN | apply below_drew1 | refine below_set ?_ GE123.out) | exact HB.out)) hb); clear BK123; clear HB; have BK123 := n0_; have HB := n1_; clear n0_ n1_; (try clear hb); (try clear hb2); (try clear hk); (try clear hi)) | ((with_reducible refine gate_callee (f := 16) rfl ?_); refine goesL_ (some 20) rfl rfl Try.func16 (by kernel_rfl) rfl #[.agg #[.int .i64 t130, .int .i64 t131, .int .i64 t132, .int .i64 t133], .int .i64 a1] rfl (by (try simp only [List.map_toArray, List.map_cons, List.map_nil]); first | done | rfl | (simp only [List.length_drop, List.length_take]; rfl)) ?_; (with_reducible refine (impl_FirstFault.calls t130 t131 t132 t133 a1 t134 t135 _ A6.out).mono ?_); rintro e w15 ⟨rfl, hb⟩; refine ⟨_, rfl, ?_⟩; have n0_ := Aside0.mk (blk_below (g := gb123) (o := .cells #[.int .i64 a0_0, .int .i64 a0_1, .int .i64 a0_2, .int .i64 a0_3] 31 (0, 0)) (by (with_reducible repeat (first | refine blk_drewN ?_ _ | refine blk_drew ?_ | refine blk_alloc ?_ _)); exact BK123.out) hb); have n1_ := Aside0.mk (below_step (by repeat (first | (with_reducible first | exact HB.out | apply below_alloc | apply pw_below_drewN | apply below_drew1 | refine below_set ?_ GE123.out) | exact HB.out)) hb); clear BK123; clear HB; have BK123 := n0_; have HB := n1_; clear n0_ n1_; (try clear hb); (try clear hb2); (try clear hk); (try clear hi)))
      go_ret
      exact ⟨by first | rfl | (simp [errW_none, errW_some] <;> rfl) | (simp [*, errW_none, errW_some] <;> rfl), by repeat (first | (with_reducible first | exact HB.out | apply below_alloc | apply pw_below_drewN | apply below_drew1 | refine below_set ?_ GE123.out) | exact HB.out)⟩
    · rw [if_neg c8] at H
      have c8b0 : (t135 != t129) = false := by simpa using c8
      (try (have c8b1 : decide (t135 = t129) = true := by simpa using c8))
      (try (have c8b2 : (t135 == t129) = true := by simpa using c8))
      clear c8
      obtain rfl := Option.some.inj H
      go_enter Try.func5, Try.ntmps5
      go_wp2_with (first | ((with_reducible refine gate_dst (N := 2) rfl ?_); refine box_event ?hg (N := 2) ?hd (cs := #[.int .i64 a0_0, .int .i64 a0_1, .int .i64 a0_2, .int .i64 a0_3]) (t := 31) ?hr ?_; (case hd => rfl); (case hg => rfl); (case hr => first | (go_simp; done) | (go_simp; rfl)); intro gb123 hg w16 hbox hb; have n0_ := Aside0.mk (below_step (by repeat (first | (with_reducible first | exact HB.out | apply below_alloc | apply pw_below_drewN | apply below_drew1) | exact HB.out)) hb); have n1_ := Aside0.mk (hbox); have n2_ := Aside0.mk ((by rw [hg]; exact (below_size (by repeat (first | (with_reducible first | exact HB.out | apply below_alloc | apply pw_below_drewN | apply below_drew1) | exact HB.out))) : w.heap.size ≤ gb123)); have n3_ := Aside0.mk ((by rw [hg]; exact (below_size (by repeat (first | (with_reducible first | exact HB.out | apply below_alloc | apply pw_below_drewN | apply below_drew1) | exact HB.out))) : w.heap.size ≤ gb123)); clear HB; have HB := n0_; have BK123 := n1_; have GW123 := n2_; have GE123 := n3_; clear n0_ n1_ n2_ n3_; clear hb hbox hg; have hcz17_0 : w16.cell? ⟨gb123, 0, none⟩ = some (.int .i64 a0_0) := (blk_cell BK123.out 0).trans rfl; have hcz17_1 : w16.cell? ⟨gb123, 1, none⟩ = some (.int .i64 a0_1) := (blk_cell BK123.out 1).trans rfl; have hcz17_2 : w16.cell? ⟨gb123, 2, none⟩ = some (.int .i64 a0_2) := (blk_cell BK123.out 2).trans rfl; have hcz17_3 : w16.cell? ⟨gb123, 3, none⟩ = some (.int .i64 a0_3) := (blk_cell BK123.out 3).trans rfl; have hfz17_0 := blk_frozen BK123.out 0; have hfz17_1 := blk_frozen BK123.out 1; have hfz17_2 := blk_frozen BK123.out 2; have hfz17_3 := blk_frozen BK123.out 3) | ((with_reducible refine gate_callee (f := 15) rfl ?_); refine goesL_ (some 11) rfl rfl Try.func15 (by kernel_rfl) rfl #[.agg #[.int .i64 a0_0, .int .i64 a0_1, .int .i64 a0_2, .int .i64 a0_3]] rfl (by (try simp only [List.map_toArray, List.map_cons, List.map_nil]); first | done | rfl | (simp only [List.length_drop, List.length_take]; rfl)) ?_; (with_reducible refine (laws_toLink.calls a0_0 a0_1 a0_2 a0_3 t124 t125 t126 t127 _ A3.out).mono ?_); rintro e w18 ⟨rfl, hb⟩; refine ⟨_, rfl, ?_⟩; have n0_ := Aside0.mk (blk_below (g := gb123) (o := .cells #[.int .i64 a0_0, .int .i64 a0_1, .int .i64 a0_2, .int .i64 a0_3] 31 (0, 0)) (by (with_reducible repeat (first | refine blk_drewN ?_ _ | refine blk_drew ?_ | refine blk_alloc ?_ _)); exact BK123.out) hb); have n1_ := Aside0.mk (below_step (by repeat (first | (with_reducible first | exact HB.out | apply below_alloc | apply pw_below_drewN | apply below_drew1 | refine below_set ?_ GE123.out) | exact HB.out)) hb); clear BK123; clear HB; have BK123 := n0_; have HB := n1_; clear n0_ n1_; (try clear hb); (try clear hb2); (try clear hk); (try clear hi)) | ((with_reducible refine gate_callee (f := 14) rfl ?_); refine goesL_ (some 13) rfl rfl Try.func14 (by kernel_rfl) rfl #[.agg #[.int .i64 t124, .int .i64 t125, .int .i64 t126, .int .i64 t127], .int .i64 a1] rfl (by (try simp only [List.map_toArray, List.map_cons, List.map_nil]); first | done | rfl | (simp only [List.length_drop, List.length_take]; rfl)) ?_; (with_reducible refine (spec_FirstFault.calls t124 t125 t126 t127 a1 t128 t129 _ A4.out).mono ?_); rintro e w19 ⟨rfl, hb⟩; refine ⟨_, rfl, ?_⟩; have n0_ := Aside0.mk (blk_below (g := gb123) (o := .cells #[.int .i64 a0_0, .int .i64 a0_1, .int .i64 a0_2, .int .i64 a0_3] 31 (0, 0)) (by (with_reducible repeat (first | refine blk_drewN ?_ _ | refine blk_drew ?_ | refine blk_alloc ?_ _)); exact BK123.out) hb); have n1_ := Aside0.mk (below_step (by repeat (first | (with_reducible first | exact HB.out | apply below_alloc | apply pw_below_drewN | apply below_drew1 | refine below_set ?_ GE123.out) | exact HB.out)) hb); clear BK123; clear HB; have BK123 := n0_; have HB := n1_; clear n0_ n1_; (try clear hb); (try clear hb2); (try clear hk); (try clear hi); have hcz20_0 : w19.cell? ⟨gb123, 0, none⟩ = some (.int .i64 a0_0) := (blk_cell BK123.out 0).trans rfl; have hcz20_1 : w19.cell? ⟨gb123, 1, none⟩ = some (.int .i64 a0_1) := (blk_cell BK123.out 1).trans rfl; have hcz20_2 : w19.cell? ⟨gb123, 2, none⟩ = some (.int .i64 a0_2) := (blk_cell BK123.out 2).trans rfl; have hcz20_3 : w19.cell? ⟨gb123, 3, none⟩ = some (.int .i64 a0_3) := (blk_cell BK123.out 3).trans rfl; have hfz20_0 := blk_frozen BK123.out 0; have hfz20_1 := blk_frozen BK123.out 1; have hfz20_2 := blk_frozen BK123.out 2; have hfz20_3 := blk_frozen BK123.out 3) | ((with_reducible refine gate_callee (f := 15) rfl ?_); refine goesL_ (some 18) rfl rfl Try.func15 (by kernel_rfl) rfl #[.agg #[.int .i64 a0_0, .int .i64 a0_1, .int .i64 a0_2, .int .i64 a0_3]] rfl (by (try simp only [List.map_toArray, List.map_cons, List.map_nil]); first | done | rfl | (simp only [List.length_drop, List.length_take]; rfl)) ?_; (with_reducible refine (laws_toLink.calls a0_0 a0_1 a0_2 a0_3 t130 t131 t132 t133 _ A5.out).mono ?_); rintro e w21 ⟨rfl, hb⟩; refine ⟨_, rfl, ?_⟩; have n0_ := Aside0.mk (blk_below (g := gb123) (o := .cells #[.int .i64 a0_0, .int .i64 a0_1, .int .i64 a0_2, .int .i64 a0_3] 31 (0, 0)) (by (with_reducible repeat (first | refine blk_drewN ?_ _ | refine blk_drew ?_ | refine blk_alloc ?_ _)); exact BK123.out) hb); have n1_ := Aside0.mk (below_step (by repeat (first | (with_reducible first | exact HB.out | apply below_alloc | apply pw_below_drewN | apply below_drew1 | refine below_set ?_ GE123.out) | exact HB.out)) hb); clear BK123; clear HB; have BK123 := n0_; have HB := n1_; clear n0_ n1_; (try clear hb); (try clear hb2); (try clear hk); (try clear hi)) | ((with_reducible refine gate_callee (f := 16) rfl ?_); refine goesL_ (some 20) rfl rfl Try.func16 (by kernel_rfl) rfl #[.agg #[.int .i64 t130, .int .i64 t131, .int .i64 t132, .int .i64 t133], .int .i64 a1] rfl (by (try simp only [List.map_toArray, List.map_cons, List.map_nil]); first | done | rfl | (simp only [List.length_drop, List.length_take]; rfl)) ?_; (with_reducible refine (impl_FirstFault.calls t130 t131 t132 t133 a1 t134 t135 _ A6.out).mono ?_); rintro e w22 ⟨rfl, hb⟩; refine ⟨_, rfl, ?_⟩; have n0_ := Aside0.mk (blk_below (g := gb123) (o := .cells #[.int .i64 a0_0, .int .i64 a0_1, .int .i64 a0_2, .int .i64 a0_3] 31 (0, 0)) (by (with_reducible repeat (first | refine blk_drewN ?_ _ | refine blk_drew ?_ | refine blk_alloc ?_ _)); exact BK123.out) hb); have n1_ := Aside0.mk (below_step (by repeat (first | (with_reducible first | exact HB.out | apply below_alloc | apply pw_below_drewN | apply below_drew1 | refine below_set ?_ GE123.out) | exact HB.out)) hb); clear BK123; clear HB; have BK123 := n0_; have HB := n1_; clear n0_ n1_; (try clear hb); (try clear hb2); (try clear hk); (try clear hi)))
      go_ret
      exact ⟨by first | rfl | (simp [errW_none, errW_some] <;> rfl) | (simp [*, errW_none, errW_some] <;> rfl), by repeat (first | (with_reducible first | exact HB.out | apply below_alloc | apply pw_below_drewN | apply below_drew1 | refine below_set ?_ GE123.out) | exact HB.out)⟩
  · rw [if_neg c7] at H
    have c7b0 : (t134.toList == t128.toList) = false := beq_eq_false_iff_ne.mpr c7
    have c7b1 : (t134.toList != t128.toList) = true := bne_iff_ne.mpr c7
    obtain rfl := Option.some.inj H
    go_enter Try.func5, Try.ntmps5
    go_wp2_with (first | ((with_reducible refine gate_dst (N := 2) rfl ?_); refine box_event ?hg (N := 2) ?hd (cs := #[.int .i64 a0_0, .int .i64 a0_1, .int .i64 a0_2, .int .i64 a0_3]) (t := 31) ?hr ?_; (case hd => rfl); (case hg => rfl); (case hr => first | (go_simp; done) | (go_simp; rfl)); intro gb123 hg w23 hbox hb; have n0_ := Aside0.mk (below_step (by repeat (first | (with_reducible first | exact HB.out | apply below_alloc | apply pw_below_drewN | apply below_drew1) | exact HB.out)) hb); have n1_ := Aside0.mk (hbox); have n2_ := Aside0.mk ((by rw [hg]; exact (below_size (by repeat (first | (with_reducible first | exact HB.out | apply below_alloc | apply pw_below_drewN | apply below_drew1) | exact HB.out))) : w.heap.size ≤ gb123)); have n3_ := Aside0.mk ((by rw [hg]; exact (below_size (by repeat (first | (with_reducible first | exact HB.out | apply below_alloc | apply pw_below_drewN | apply below_drew1) | exact HB.out))) : w.heap.size ≤ gb123)); clear HB; have HB := n0_; have BK123 := n1_; have GW123 := n2_; have GE123 := n3_; clear n0_ n1_ n2_ n3_; clear hb hbox hg; have hcz24_0 : w23.cell? ⟨gb123, 0, none⟩ = some (.int .i64 a0_0) := (blk_cell BK123.out 0).trans rfl; have hcz24_1 : w23.cell? ⟨gb123, 1, none⟩ = some (.int .i64 a0_1) := (blk_cell BK123.out 1).trans rfl; have hcz24_2 : w23.cell? ⟨gb123, 2, none⟩ = some (.int .i64 a0_2) := (blk_cell BK123.out 2).trans rfl; have hcz24_3 : w23.cell? ⟨gb123, 3, none⟩ = some (.int .i64 a0_3) := (blk_cell BK123.out 3).trans rfl; have hfz24_0 := blk_frozen BK123.out 0; have hfz24_1 := blk_frozen BK123.out 1; have hfz24_2 := blk_frozen BK123.out 2; have hfz24_3 := blk_frozen BK123.out 3) | ((with_reducible refine gate_callee (f := 15) rfl ?_); refine goesL_ (some 11) rfl rfl Try.func15 (by kernel_rfl) rfl #[.agg #[.int .i64 a0_0, .int .i64 a0_1, .int .i64 a0_2, .int .i64 a0_3]] rfl (by (try simp only [List.map_toArray, List.map_cons, List.map_nil]); first | done | rfl | (simp only [List.length_drop, List.length_take]; rfl)) ?_; (with_reducible refine (laws_toLink.calls a0_0 a0_1 a0_2 a0_3 t124 t125 t126 t127 _ A3.out).mono ?_); rintro e w25 ⟨rfl, hb⟩; refine ⟨_, rfl, ?_⟩; have n0_ := Aside0.mk (blk_below (g := gb123) (o := .cells #[.int .i64 a0_0, .int .i64 a0_1, .int .i64 a0_2, .int .i64 a0_3] 31 (0, 0)) (by (with_reducible repeat (first | refine blk_drewN ?_ _ | refine blk_drew ?_ | refine blk_alloc ?_ _)); exact BK123.out) hb); have n1_ := Aside0.mk (below_step (by repeat (first | (with_reducible first | exact HB.out | apply below_alloc | apply pw_below_drewN | apply below_drew1 | refine below_set ?_ GE123.out) | exact HB.out)) hb); clear BK123; clear HB; have BK123 := n0_; have HB := n1_; clear n0_ n1_; (try clear hb); (try clear hb2); (try clear hk); (try clear hi)) | ((with_reducible refine gate_callee (f := 14) rfl ?_); refine goesL_ (some 13) rfl rfl Try.func14 (by kernel_rfl) rfl #[.agg #[.int .i64 t124, .int .i64 t125, .int .i64 t126, .int .i64 t127], .int .i64 a1] rfl (by (try simp only [List.map_toArray, List.map_cons, List.map_nil]); first | done | rfl | (simp only [List.length_drop, List.length_take]; rfl)) ?_; (with_reducible refine (spec_FirstFault.calls t124 t125 t126 t127 a1 t128 t129 _ A4.out).mono ?_); rintro e w26 ⟨rfl, hb⟩; refine ⟨_, rfl, ?_⟩; have n0_ := Aside0.mk (blk_below (g := gb123) (o := .cells #[.int .i64 a0_0, .int .i64 a0_1, .int .i64 a0_2, .int .i64 a0_3] 31 (0, 0)) (by (with_reducible repeat (first | refine blk_drewN ?_ _ | refine blk_drew ?_ | refine blk_alloc ?_ _)); exact BK123.out) hb); have n1_ := Aside0.mk (below_step (by repeat (first | (with_reducible first | exact HB.out | apply below_alloc | apply pw_below_drewN | apply below_drew1 | refine below_set ?_ GE123.out) | exact HB.out)) hb); clear BK123; clear HB; have BK123 := n0_; have HB := n1_; clear n0_ n1_; (try clear hb); (try clear hb2); (try clear hk); (try clear hi); have hcz27_0 : w26.cell? ⟨gb123, 0, none⟩ = some (.int .i64 a0_0) := (blk_cell BK123.out 0).trans rfl; have hcz27_1 : w26.cell? ⟨gb123, 1, none⟩ = some (.int .i64 a0_1) := (blk_cell BK123.out 1).trans rfl; have hcz27_2 : w26.cell? ⟨gb123, 2, none⟩ = some (.int .i64 a0_2) := (blk_cell BK123.out 2).trans rfl; have hcz27_3 : w26.cell? ⟨gb123, 3, none⟩ = some (.int .i64 a0_3) := (blk_cell BK123.out 3).trans rfl; have hfz27_0 := blk_frozen BK123.out 0; have hfz27_1 := blk_frozen BK123.out 1; have hfz27_2 := blk_frozen BK123.out 2; have hfz27_3 := blk_frozen BK123.out 3) | ((with_reducible refine gate_callee (f := 15) rfl ?_); refine goesL_ (some 18) rfl rfl Try.func15 (by kernel_rfl) rfl #[.agg #[.int .i64 a0_0, .int .i64 a0_1, .int .i64 a0_2, .int .i64 a0_3]] rfl (by (try simp only [List.map_toArray, List.map_cons, List.map_nil]); first | done | rfl | (simp only [List.length_drop, List.length_take]; rfl)) ?_; (with_reducible refine (laws_toLink.calls a0_0 a0_1 a0_2 a0_3 t130 t131 t132 t133 _ A5.out).mono ?_); rintro e w28 ⟨rfl, hb⟩; refine ⟨_, rfl, ?_⟩; have n0_ := Aside0.mk (blk_below (g := gb123) (o := .cells #[.int .i64 a0_0, .int .i64 a0_1, .int .i64 a0_2, .int .i64 a0_3] 31 (0, 0)) (by (with_reducible repeat (first | refine blk_drewN ?_ _ | refine blk_drew ?_ | refine blk_alloc ?_ _)); exact BK123.out) hb); have n1_ := Aside0.mk (below_step (by repeat (first | (with_reducible first | exact HB.out | apply below_alloc | apply pw_below_drewN | apply below_drew1 | refine below_set ?_ GE123.out) | exact HB.out)) hb); clear BK123; clear HB; have BK123 := n0_; have HB := n1_; clear n0_ n1_; (try clear hb); (try clear hb2); (try clear hk); (try clear hi)) | ((with_reducible refine gate_callee (f := 16) rfl ?_); refine goesL_ (some 20) rfl rfl Try.func16 (by kernel_rfl) rfl #[.agg #[.int .i64 t130, .int .i64 t131, .int .i64 t132, .int .i64 t133], .int .i64 a1] rfl (by (try simp only [List.map_toArray, List.map_cons, List.map_nil]); first | done | rfl | (simp only [List.length_drop, List.length_take]; rfl)) ?_; (with_reducible refine (impl_FirstFault.calls t130 t131 t132 t133 a1 t134 t135 _ A6.out).mono ?_); rintro e w29 ⟨rfl, hb⟩; refine ⟨_, rfl, ?_⟩; have n0_ := Aside0.mk (blk_below (g := gb123) (o := .cells #[.int .i64 a0_0, .int .i64 a0_1, .int .i64 a0_2, .int .i64 a0_3] 31 (0, 0)) (by (with_reducible repeat (first | refine blk_drewN ?_ _ | refine blk_drew ?_ | refine blk_alloc ?_ _)); exact BK123.out) hb); have n1_ := Aside0.mk (below_step (by repeat (first | (with_reducible first | exact HB.out | apply below_alloc | apply pw_below_drewN | apply below_drew1 | refine below_set ?_ GE123.out) | exact HB.out)) hb); clear BK123; clear HB; have BK123 := n0_; have HB := n1_; clear n0_ n1_; (try clear hb); (try clear hb2); (try clear hk); (try clear hi)))
    go_ret
    exact ⟨by first | rfl | (simp [errW_none, errW_some] <;> rfl) | (simp [*, errW_none, errW_some] <;> rfl), by repeat (first | (with_reducible first | exact HB.out | apply below_alloc | apply pw_below_drewN | apply below_drew1 | refine below_set ?_ GE123.out) | exact HB.out)⟩

end Go.Proofs.Ytgmnbpdfdagniaa.A
/- What is left to prove of the law FnExactFirstFault, about numbers and lists alone. Written by this session's row2.py. No conditions. -/
namespace Go.Proofs.Ytgmnbpdfdagniaa.A
open Go.RowKit Go.Proofs.YtgmnbpdfdagniaaW.PrintWords Go.Proofs.YtgmnbpdfdagniaaW.PrintLast Go.Proofs.Ytgmnbpdfdagniaa.O
def laws_FnExactFirstFault.Pure : Prop := ∀ (x0 : S31) (x1 : Int), Wf_T31 x0 → Wf_i64 x1 → laws_FnExactFirstFault.f x0.f0 x0.f1 x0.f2 x0.f3 x1 = some true
end Go.Proofs.Ytgmnbpdfdagniaa.A
/- The pure side of FnExactFirstFault: for each link and ratio both sides give the same answer. No conditions. -/
namespace Go.Proofs.Ytgmnbpdfdagniaa.Pure
set_option linter.unusedVariables false
set_option linter.unusedSimpArgs false
open Go.RowKit Go.Proofs.Ytgmnbpdfdagniaa.A Go.Proofs.YtgmnbpdfdagniaaW.PrintWords Go.Proofs.YtgmnbpdfdagniaaW.PrintLast Go.Proofs.YtgmnbpdfdagniaaW.PrintMore
theorem FnExactFirstFault : laws_FnExactFirstFault.Pure := by
  intro x r hw hr
  unfold laws_FnExactFirstFault.f laws_toLink.f spec_FirstFault.f impl_FirstFault.f
  simp
end Go.Proofs.Ytgmnbpdfdagniaa.Pure
