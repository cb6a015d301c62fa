/- Texts of this claim, put together by this session's pack2.py: each part is introduced by its own comment. No conditions. -/
import Derived.Test.YtjpjlobpglmoiaaDoorQ23
import Derived.Test.YtjpjlobpglmoiaaDoorQ24
import Derived.Test.YtjpjlobpglmoiaaDoorD5
import Derived.Test.YtjpjlobpglmoiaaDoorQ27
-- Printed by this session's oprint.py through the kit's printer.
namespace Go.Proofs.YtjpjlobpglmoiaaDoor.A
open Go.RowKit Go.Proofs.YtjpjlobpglmoiaaDoorW.PrintWords Go.Proofs.YtjpjlobpglmoiaaDoorW.PrintLast Go.Proofs.YtjpjlobpglmoiaaDoorW.PrintMore
attribute [local go_sem] max2_int min2_int max_two min_two max_three min_three max_four min_four   -- for this text's walks alone
set_option linter.unusedVariables false
set_option linter.unusedSimpArgs false

/-! ### spec_B10Lines: function 24 -/
-- given: proved by hand (b10lines.tpl)
theorem LI.app {w0 : World} {gs g : Nat} {l : List Int} {at_ seed : Int} {A0 A1 : Option Addr} {c0 c1 : Nat} {N V : List ByteArray} {W W' : World} {v : Value} {xs : List ByteArray} {b : Nat} {ok : Nat → Prop} (h : LI w0 gs g l at_ seed A0 A1 c0 c1 N V W) (hR : Kd.R Kd.string 9 W b ok v xs) (hB : Below w0.heap.size w0 W') (hg : W.grownBy W' v.ownBlock) : LI w0 gs g l at_ seed A0 A1 c0 c1 N V W' :=
  ⟨h.s.grown hg (h.s.own_ne hR (by decide)), hB, blk_grown h.blk hg (fun e => R_own_ne hR h.blk (by decide) g e rfl), h.C, h.hc⟩
def linesL : Nat → List Int → Int → Int → Int → List ByteArray → List ByteArray → Option (List ByteArray)
  | 0, _, _, _, _, _, _ => none
  | K + 1, l, k, at_, seed, N, out => if 0 < k then (lineF K l at_ seed N).bind fun r => if out.length < 1000 then linesL K l (wrap64 (k - 1)) r.2.1 r.2.2 N (out ++ [r.1]) else none else some out
def spec_B10Lines.f (k : Nat) (l0 : List Int) (N V : List ByteArray) : Option (List ByteArray) := (spec_l00From.f l0).bind fun s => (spec_l00Src_pick.f s.1 s.2.1 s.2.2 7).bind fun p => linesL k s.1 p.1 p.2.1 p.2.2 N []
theorem linesL.mono : ∀ k l n at_ seed N out, LeO (linesL k l n at_ seed N out) (linesL (k + 1) l n at_ seed N out)
  | 0, _, _, _, _, _, _ => LeO.none _
  | k + 1, l, n, at_, seed, N, out => by
    rw [linesL, linesL]
    repeat' first
      | (with_reducible exact LeO.refl _)
      | (with_reducible exact LeO.none _)
      | (with_reducible exact linesL.mono _ _ _ _ _ _ _)
      | (with_reducible exact lineF.mono _ _ _ _ _)
      | (with_reducible refine LeO.ite ?_ ?_)
      | (with_reducible refine LeO.bind ?_ (fun _ => ?_))
theorem spec_B10Lines.mono : ∀ a0 a1 a2 k, LeO (spec_B10Lines.f k a0 a1 a2) (spec_B10Lines.f (k + 1) a0 a1 a2) := fun a0 a1 a2 k => LeO.bind (LeO.refl _) (fun _ => LeO.bind (LeO.refl _) (fun _ => linesL.mono _ _ _ _ _ _ _))
set_option maxHeartbeats 3200000 in
set_option maxRecDepth 100000 in
theorem spec_B10Lines.calls (k : Nat) (A0 : Option Addr) (c0 : Nat) (l0 : List Int) (A1 : Option Addr) (c1 : Nat) (l1 : List ByteArray) (A2 : Option Addr) (c2 : Nat) (l2 : List ByteArray) (r : List ByteArray) (w : World) (hr0 : Kd.C (Kd.int .u8) w A0 l0.length l0) (hc0 : l0.length ≤ c0) (hr1 : Kd.C Kd.string w A1 l1.length l1) (hc1 : l1.length ≤ c1) (hr2 : Kd.C Kd.string w A2 l2.length l2) (hc2 : l2.length ≤ c2) (h : spec_B10Lines.f k l0 l1 l2 = some r) :
    Calls Tryd.prog 24 #[.slice A0 l0.length c0, .agg #[.slice A1 l1.length c1, .slice A2 l2.length c2]] w fun e w' => ∃ v0_ : Value, e = .returned v0_ ∧ Kd.R Kd.string 9 w' w.heap.size (fun _ => True) v0_ r ∧ Below w.heap.size w w' := by
  have hu27 := Tryd.underlying27
  replace h := Option.bind_eq_some_iff.1 h
  obtain ⟨⟨l, a0, s0⟩, h1, h⟩ := h
  replace h := Option.bind_eq_some_iff.1 h
  obtain ⟨⟨n, a1, s1⟩, h2, h⟩ := h
  have H := Aside0.mk (show linesL k l n a1 s1 l1 [] = some r from h)
  have H1 := Aside0.mk h1
  have H2 := Aside0.mk (show spec_l00Src_pick.f l a0 s0 7 = some (n, a1, s1) from h2)
  have HB := Aside0.mk (below_alloc (Below.refl w.heap.size w) (.cells #[.slice A1 l1.length c1, .slice A2 l2.length c2] 27 (0, 0)))
  have HK := Aside0.mk (blk_new w (.cells #[.slice A1 l1.length c1, .slice A2 l2.length c2] 27 (0, 0)))
  have HC0 := Aside0.mk hr0
  have HC1 := Aside0.mk hr1
  have HA0 := Aside0.mk hc0
  have HA1 := Aside0.mk hc1
  clear h h1 h2 hr0 hr1 hr2 hc0 hc1 hc2
  go_enter Tryd.func24, Tryd.ntmps24
  go_wp2_with (first
    | (go_at_call 40; (with_reducible refine (spec_l00From.calls A0 c0 l0 l a0 s0 w _ ?hB ?hC ?hc H1.out).mono ?_); (case hB => exact HB.out); (case hC => exact HC0.out); (case hc => exact HA0.out); rintro e W1 ⟨gs, rfl, hI, hB, hb⟩; have L1 := Aside0.mk (show LI w gs w.heap.size l a0 s0 A1 A2 c1 c2 l1 l2 W1 from ⟨hI, hB, (hb.block _ (blk_lt HK.out)).trans HK.out, HC1.out, HA1.out⟩); clear hI hB hb)
    | ((with_reducible refine gate_dst (N := 10) rfl ?_); refine Kd.R_lit Kd.string w.heap.size 9 ?hg (N := 10) ?hd (w0 := w) (xs := ([] : List ByteArray)) (inner := []) (ok := fun _ => True) (okp := fun _ => False) ?hr ?hp (fun _ hk => hk.elim) trivial L1.out.bel L1.out.bel.size (by simp) ?_; (case hd => rfl); (case hg => rfl); (case hr => first | (go_simp; done) | (go_simp; rfl)); (case hp => exact Reps.none _ _); intro v10 W2 ho hb hg_ hnew_; have R2 := Aside0.mk (Kd.R_tight rfl ho); have L2 := Aside0.mk (L1.out.grown hb hg_); clear ho hb hg_ hnew_)
    | (go_at_call 41; (with_reducible refine (spec_l00Src_pick.calls gs l a0 s0 7 n a1 s1 w _ ?hI ?hB H2.out).mono ?_); (case hI => exact L2.out.s); (case hB => exact L2.out.bel); rintro e W3 ⟨rfl, hI, hB, hK⟩; have L3 := Aside0.mk (L2.out.draw hI hB hK); have R3 := Aside0.mk (Kd.R_keep (g := gs) R2.out hK (fun k e e2 => L2.out.s.own_ne R2.out (by decide) (e2 ▸ e))); clear hI hB hK))
  clear L1 L2 R2 H1 H2
  go_loopg [6, 7] k (fun kq v6 v7 wr => ∃ (n a s : Int) (out : List ByteArray), v7 = .int .i64 n ∧ Aside0 (linesL kq l n a s l1 out = some r) ∧ Aside0 (LI w gs w.heap.size l a s A1 A2 c1 c2 l1 l2 wr) ∧ Aside0 (Kd.R Kd.string 9 wr w.heap.size (fun k => some k = v6.ownBlock) v6 out))
  case atStart => exact ⟨n, a1, s1, [], rfl, H, L3, R3⟩
  case round =>
    clear H L3 R3
    obtain ⟨n, a, s, out, rfl, HA, HL, HR⟩ := hrel
    cases gk with
    | zero => exact absurd HA.out (by simp [linesL])
    | succ k1 =>
      have hA := HA.out
      clear HA
      rw [linesL] at hA
      by_cases hn : 0 < n
      · rw [if_pos hn] at hA
        have hnb := decide_eq_true hn
        replace hA := Option.bind_eq_some_iff.1 hA
        obtain ⟨⟨x, a2, s2⟩, h1, hA⟩ := hA
        dsimp only at hA
        have H1 := Aside0.mk h1
        by_cases hl : out.length < 1000
        · rw [if_pos hl] at hA
          have HLn := Aside0.mk hl
          have HA := Aside0.mk hA
          clear h1 hn hl hA
          go_wp2_with (first
            | (go_at_call 42; (with_reducible refine (lineF.calls k1 gs w.heap.size l a s A1 A2 c1 c2 l1 l2 x a2 s2 w _ ?hL H1.out).mono ?_); (case hL => exact HL.out); rintro e W4 ⟨rfl, hI, hK⟩; have L4 := Aside0.mk hI; have R4 := Aside0.mk (Kd.R_keep (g := gs) HR.out hK (fun k e e2 => HL.out.s.own_ne HR.out (by decide) (e2 ▸ e))); clear hI hK)
            | ((with_reducible refine gate_builtin (b := .append) (xs := #[.tmp 17, .tmp 20]) rfl ?_); at_builtin; refine Kd.R_append Kd.string (w0 := w) w.heap.size rfl (.tmp 17) (.tmp 20) 22 9 (.string ⟨#[]⟩) 16 rfl Tryd.underlying22 info9 rfl (by decide) (by omega) u6 out x [.string x] (fun _ => True) (fun _ => False) rfl rfl ?aP (fun _ hk => hk.elim) ?aF ?aO ?aB ?aS ?aL ?_; (case aP => exact rfl); (case aF => exact fun _ _ => trivial); (case aO => exact Kd.R_mono R4.out (fun _ _ => trivial)); (case aB => exact L4.out.bel); (case aS => exact L4.out.bel.size); (case aL => have := HLn.out; omega); intro v21 W5 ho hb hg_ hat_; have L5 := Aside0.mk (L4.out.app R4.out hb hg_); have R5 := Aside0.mk (Kd.R_tight rfl ho); clear ho hb hg_ hat_))
          go_roundg k1
          case measure => omega
          case rel => exact ⟨_, _, _, _, rfl, HA, L5, R5⟩
        · rw [if_neg hl] at hA; cases hA
      · rw [if_neg hn] at hA
        have hnb := decide_eq_false hn
        have hr := Option.some.inj hA
        subst hr
        clear hA hn
        go_wp2
        go_ret
        exact ⟨_, rfl, Kd.R_mono HR.out (fun _ _ => trivial), HL.out.bel⟩

end Go.Proofs.YtjpjlobpglmoiaaDoor.A
/- The reference draws short lines without newlines. No conditions. -/
namespace Go.Proofs.YtjpjlobpglmoiaaDoor.Pure
set_option linter.unusedVariables false
set_option linter.unusedSimpArgs false
open Go.RowKit Go.Proofs.YtjpjlobpglmoiaaDoor.A Go.Proofs.YtjpjlobpglmoiaaDoorW.PrintWords Go.Proofs.YtjpjlobpglmoiaaDoorW.PrintLast Go.Proofs.YtjpjlobpglmoiaaDoorW.PrintMore
/-- A text without newlines, of at most m bytes. -/
def okL (x : ByteArray) (m : Nat) : Prop := (10 : UInt8) ∉ x.data.toList ∧ x.size ≤ m
theorem okL.app {x y : ByteArray} {a b : Nat} (h : okL x a) (k : okL y b) : okL (x ++ y) (a + b) := by
  refine ⟨fun z => ?_, by rw [size_app]; have := h.2; have := k.2; omega⟩
  rw [app_list] at z
  rcases List.mem_append.1 z with z | z
  · exact h.1 z
  · exact k.1 z
theorem okL.up {x : ByteArray} {a b : Nat} (h : okL x a) (hb : a ≤ b) : okL x b := ⟨h.1, by have := h.2; omega⟩
theorem okL.nl {x : ByteArray} {a : Nat} (h : okL x a) : hasNl x = false := by
  unfold hasNl
  rw [List.contains_eq_mem, decide_eq_false_iff_not]
  exact h.1
theorem ok_name {x : ByteArray} (h : nameB x = true) : okL x 10 := by
  unfold nameB at h
  rw [Bool.and_eq_true] at h
  refine ⟨fun z => ?_, (of_decide_eq_true h.2).2⟩
  have := of_decide_eq_true (List.all_eq_true.1 h.1 _ z)
  exact absurd this (by decide)
theorem ok_dec (n : Int) (h0 : 0 ≤ n) (h1 : n ≤ 64900) : okL (dec n) 5 := ⟨fun z => absurd (dec_ge n h0 _ z) (by decide), (dec_size n h0 h1).2⟩
theorem ok_levels {xs : List Int} (h : ∀ x ∈ xs, x = 48 ∨ x = 49) : okL (strOfNums xs) xs.length := by
  refine ⟨fun z => ?_, by rw [strn_size]; exact Nat.le_refl _⟩
  unfold strOfNums at z
  simp only [List.toList_toArray, List.mem_map] at z
  obtain ⟨x, hx, he⟩ := z
  rcases h x hx with rfl | rfl <;> exact absurd he (by decide)
theorem ok_names4 : ∀ x ∈ names4, okL x 10 := by
  intro x hx
  simp only [names4, List.mem_cons, List.not_mem_nil, or_false] at hx
  rcases hx with rfl | rfl | rfl | rfl <;> exact ⟨by decide, by decide⟩
theorem ok_fresh6 : ∀ x ∈ fresh6, okL x 10 := by
  intro x hx
  simp only [fresh6, List.mem_cons, List.not_mem_nil, or_false] at hx
  rcases hx with rfl | rfl | rfl | rfl | rfl | rfl <;> exact ⟨by decide, by decide⟩
theorem ok_cmds16 : ∀ x ∈ cmds16, okL x 20 := by
  intro x hx
  simp only [cmds16, List.mem_cons, List.not_mem_nil, or_false] at hx
  rcases hx with rfl | rfl | rfl | rfl | rfl | rfl | rfl | rfl | rfl | rfl | rfl | rfl | rfl | rfl | rfl | rfl <;> exact ⟨by decide, by decide⟩
theorem ok_words6 : ∀ x ∈ words6, okL x 10 := by
  intro x hx
  simp only [words6, List.mem_cons, List.not_mem_nil, or_false] at hx
  rcases hx with rfl | rfl | rfl | rfl | rfl | rfl <;> exact ⟨by decide, by decide⟩
theorem ok_words5 : ∀ x ∈ words5, okL x 10 := by
  intro x hx
  simp only [words5, List.mem_cons, List.not_mem_nil, or_false] at hx
  rcases hx with rfl | rfl | rfl | rfl | rfl <;> exact ⟨by decide, by decide⟩
theorem nameF_any {l : List Int} (h : U8 l) {N : List ByteArray} (hN : ∀ x ∈ N, nameB x = true) (h6 : N.length ≤ 6) (at_ seed : Int) (h0 : 0 ≤ at_ ∧ at_ ≤ 70000) : ∃ x a s, nameF l at_ seed N = some (x, a, s) ∧ okL x 10 ∧ (at_ ≤ a ∧ a ≤ at_ + 2) := by
  unfold nameF
  by_cases c : 0 < N.length
  · rw [if_pos c]
    obtain ⟨b, a1, s1, e1, p0, p1⟩ := one_any h at_ seed 8 h0.1 (by omega) (by omega) (by omega)
    rw [e1]
    simp only [Option.bind_some]
    cases b
    · obtain ⟨x, a, s, e, hx, q0, q1⟩ := text_any h a1 s1 N (by omega) (by omega) (by omega)
      exact ⟨x, a, s, by rw [if_neg (by decide), e], ok_name (hN x hx), by omega⟩
    · obtain ⟨x, a, s, e, hx, q0, q1⟩ := text_any h a1 s1 names4 (by omega) (by decide) (by decide)
      exact ⟨x, a, s, by rw [if_pos rfl, e], ok_names4 x hx, by omega⟩
  · rw [if_neg c]
    obtain ⟨x, a, s, e, hx, q0, q1⟩ := text_any h at_ seed names4 (by omega) (by decide) (by decide)
    exact ⟨x, a, s, e, ok_names4 x hx, by omega⟩
theorem kSet : okL (⟨#[115, 101, 116, 32]⟩ : ByteArray) 4 := ⟨by decide, by decide⟩
theorem kSp : okL (⟨#[32]⟩ : ByteArray) 1 := ⟨by decide, by decide⟩
theorem kDiv : okL (⟨#[100, 105, 118, 105, 100, 101, 32]⟩ : ByteArray) 7 := ⟨by decide, by decide⟩
theorem kJoin : okL (⟨#[106, 111, 105, 110, 32]⟩ : ByteArray) 5 := ⟨by decide, by decide⟩
theorem kSwi : okL (⟨#[115, 119, 105, 116, 99, 104, 32]⟩ : ByteArray) 7 := ⟨by decide, by decide⟩
theorem kNot : okL (⟨#[110, 111, 116, 32]⟩ : ByteArray) 4 := ⟨by decide, by decide⟩
theorem kCnt : okL (⟨#[99, 111, 117, 110, 116, 32]⟩ : ByteArray) 6 := ⟨by decide, by decide⟩
theorem kNone : okL (⟨#[110, 111, 110, 101]⟩ : ByteArray) 4 := ⟨by decide, by decide⟩
theorem ev_lineF {l : List Int} (h : U8 l) {N : List ByteArray} (hN : ∀ x ∈ N, nameB x = true) (h6 : N.length ≤ 6) (at_ seed : Int) (h0 : 0 ≤ at_ ∧ at_ ≤ 60000) : ∃ r a s, okL r 200 ∧ (at_ ≤ a ∧ a ≤ at_ + 200) ∧ Ev (fun k => lineF k l at_ seed N) (r, a, s) := by
  obtain ⟨nm, a1, s1, e1, k1, p1⟩ := nameF_any h hN h6 at_ seed (by omega)
  obtain ⟨fr, a2, s2, e2, k2, p2, p2'⟩ := text_any h a1 s1 fresh6 (by omega) (by decide) (by decide)
  have k2 := ok_fresh6 fr k2
  obtain ⟨P, a3, s3, e3, v0, v1, p3, p3'⟩ := pick_any h a2 s2 8 (by omega) (by omega) (by omega) (by omega)
  have hz : nm.size ≤ 1000 ∧ fr.size ≤ 1000 := ⟨by have := k1.2; omega, by have := k2.2; omega⟩
  unfold lineF
  simp only [e1, e2, e3, Option.bind_some, if_pos hz]
  by_cases c0 : P = 0
  · simp only [if_pos c0]
    obtain ⟨x, a, s, e, hx, q0, q1⟩ := text_any h a3 s3 cmds16 (by omega) (by decide) (by decide)
    exact ⟨x, a, s, (ok_cmds16 x hx).up (by omega), by omega, ev_const (fun _ => e)⟩
  simp only [if_neg c0]
  by_cases c1 : P = 1
  · simp only [if_pos c1]
    obtain ⟨xs, a, s, x1, x0, x2, x3⟩ := ev_drawGood h a3 s3 30 (by omega) (by omega)
    have kx := ok_levels x2
    obtain ⟨sh, hsh, ksh⟩ : ∃ sh, spec_l11Show.f (strOfNums xs) = some sh ∧ okL sh 30 := by
      unfold spec_l11Show.f
      by_cases c : (strOfNums xs).toList = ([] : List UInt8)
      · exact ⟨_, if_pos c, kNone.up (by omega)⟩
      · exact ⟨_, if_neg c, kx.up (by omega)⟩
    refine ⟨_, a, s, (((kSet.app k2).app kSp).app ksh).up (by omega), by omega, Ev.bind x3 ?_⟩
    simp only [hsh, Option.bind_some, if_pos (show sh.size ≤ 1000 by have := ksh.2; omega)]
    exact Ev.now _
  simp only [if_neg c1]
  by_cases c2 : P = 2
  · simp only [if_pos c2]
    obtain ⟨x, a, s, e, hx, q0, q1⟩ := text_any h a3 s3 words6 (by omega) (by decide) (by decide)
    have kx := ok_words6 x hx
    simp only [e, Option.bind_some, if_pos (show x.size ≤ 1000 by have := kx.2; omega)]
    exact ⟨_, a, s, (kx.app k1).up (by omega), by omega, Ev.now _⟩
  simp only [if_neg c2]
  by_cases c3 : P = 3
  · simp only [if_pos c3]
    obtain ⟨x, a4, s4, e, hx, q0, q1⟩ := text_any h a3 s3 words5 (by omega) (by decide) (by decide)
    have kx := ok_words5 x hx
    obtain ⟨v, a, s, e4, w0, w1, q2, q3⟩ := pick_any h a4 s4 6 (by omega) (by omega) (by omega) (by omega)
    have kd := ok_dec v (by omega) (by omega)
    simp only [e, e4, Option.bind_some]
    refine ⟨_, a, s, (((((kx.app k2).app kSp).app k1).app kSp).app kd).up (by omega), by omega, Ev.bind (ev_dec v (by omega) (by omega)) ?_⟩
    simp only [if_pos (show x.size ≤ 1000 ∧ (dec v).size ≤ 1000 from ⟨by have := kx.2; omega, by have := kd.2; omega⟩)]
    exact Ev.now _
  simp only [if_neg c3]
  by_cases c4 : P = 4
  · simp only [if_pos c4]
    obtain ⟨v, a4, s4, e, w0, w1, q2, q3⟩ := pick_any h a3 s3 5 (by omega) (by omega) (by omega) (by omega)
    have ev1 : wrap64 (1 + v) = 1 + v := w64 (by omega) (by omega)
    have ev2 : wrap64 (1 + v + 1) = v + 2 := by rw [w64 (by omega) (by omega)]; omega
    obtain ⟨u, a, s, e4, y0, y1, q4, q5⟩ := pick_any h a4 s4 (v + 2) (by omega) (by omega) (by omega) (by omega)
    have kd := ok_dec (1 + v) (by omega) (by omega)
    have ku := ok_dec u (by omega) (by omega)
    simp only [e, ev1, ev2, e4, Option.bind_some]
    refine ⟨_, a, s, (((((((kDiv.app k2).app kSp).app k1).app kSp).app kd).app kSp).app ku).up (by omega), by omega, Ev.bind (ev_dec (1 + v) (by omega) (by omega)) (Ev.bind (ev_dec u (by omega) (by omega)) ?_)⟩
    simp only [if_pos (show (dec (1 + v)).size ≤ 1000 ∧ (dec u).size ≤ 1000 from ⟨by have := kd.2; omega, by have := ku.2; omega⟩)]
    exact Ev.now _
  simp only [if_neg c4]
  by_cases c5 : P = 5
  · simp only [if_pos c5]
    obtain ⟨o, a4, s4, e, ko, q1⟩ := nameF_any h hN h6 a3 s3 (by omega)
    obtain ⟨v, a, s, e4, w0, w1, q2, q3⟩ := pick_any h a4 s4 4 (by omega) (by omega) (by omega) (by omega)
    have kd := ok_dec v (by omega) (by omega)
    simp only [e, e4, Option.bind_some]
    refine ⟨_, a, s, (((((((kJoin.app k2).app kSp).app k1).app kSp).app ko).app kSp).app kd).up (by omega), by omega, Ev.bind (ev_dec v (by omega) (by omega)) ?_⟩
    simp only [if_pos (show o.size ≤ 1000 ∧ (dec v).size ≤ 1000 from ⟨by have := ko.2; omega, by have := kd.2; omega⟩)]
    exact Ev.now _
  simp only [if_neg c5]
  by_cases c6 : P = 6
  · simp only [if_pos c6]
    obtain ⟨o, a4, s4, e, ko, q1⟩ := nameF_any h hN h6 a3 s3 (by omega)
    obtain ⟨t, a, s, e4, kt, q2⟩ := nameF_any h hN h6 a4 s4 (by omega)
    simp only [e, e4, Option.bind_some, if_pos (show o.size ≤ 1000 ∧ t.size ≤ 1000 from ⟨by have := ko.2; omega, by have := kt.2; omega⟩)]
    exact ⟨_, a, s, (((((((kSwi.app k2).app kSp).app k1).app kSp).app ko).app kSp).app kt).up (by omega), by omega, Ev.now _⟩
  simp only [if_neg c6]
  obtain ⟨b, a4, s4, e, q0, q1⟩ := one_any h a3 s3 2 (by omega) (by omega) (by omega) (by omega)
  simp only [e, Option.bind_some]
  cases b
  · simp only [Bool.false_eq_true, if_false]
    obtain ⟨v, a, s, e4, w0, w1, q2, q3⟩ := pick_any h a4 s4 9 (by omega) (by omega) (by omega) (by omega)
    have ev1 : wrap64 (1 + v) = 1 + v := w64 (by omega) (by omega)
    have kd := ok_dec (1 + v) (by omega) (by omega)
    simp only [e4, ev1, Option.bind_some]
    refine ⟨_, a, s, (((kCnt.app k1).app kSp).app kd).up (by omega), by omega, Ev.bind (ev_dec (1 + v) (by omega) (by omega)) ?_⟩
    simp only [if_pos (show (dec (1 + v)).size ≤ 1000 by have := kd.2; omega)]
    exact Ev.now _
  · simp only [if_true]
    exact ⟨_, a4, s4, (((kNot.app k2).app kSp).app k1).up (by omega), by omega, Ev.now _⟩
theorem ev_linesL {l : List Int} (h : U8 l) {N : List ByteArray} (hN : ∀ x ∈ N, nameB x = true) (h6 : N.length ≤ 6) : ∀ (d : Nat) (at_ seed : Int) (out : List ByteArray), 0 ≤ at_ → at_ + 200 * d ≤ 60000 → out.length + d ≤ 10 → (∀ x ∈ out, okL x 200) → ∃ L, L.length = out.length + d ∧ (∀ x ∈ L, okL x 200) ∧ Ev (fun k => linesL k l (d : Int) at_ seed N out) L
  | 0, at_, seed, out, g0, g1, g2, g3 => ⟨out, rfl, g3, Ev.step (f := fun _ => some out) (fun k => by rw [linesL, if_neg (by omega)]) (Ev.now _)⟩
  | d + 1, at_, seed, out, g0, g1, g2, g3 => by
    obtain ⟨r, a, s, kr, p, hr⟩ := ev_lineF h hN h6 at_ seed (by omega)
    obtain ⟨L, h1, h2, h3⟩ := ev_linesL h hN h6 d a s (out ++ [r]) (by omega) (by omega) (by rw [List.length_append, List.length_singleton]; omega) (fun x hx => by
      rcases List.mem_append.1 hx with hx | hx
      · exact g3 x hx
      · rw [List.mem_singleton.1 hx]; exact kr)
    have hw : wrap64 (((d + 1 : Nat) : Int) - 1) = (d : Int) := by rw [w64 (by omega) (by omega)]; omega
    have hlt : out.length < 1000 := by omega
    refine ⟨L, by rw [h1, List.length_append, List.length_singleton]; omega, h2, Ev.step (f := fun k => (lineF k l at_ seed N).bind fun r => if out.length < 1000 then linesL k l (d : Int) r.2.1 r.2.2 N (out ++ [r.1]) else none) (fun k => ?_) (Ev.bind hr ?_)⟩
    · rw [linesL, if_pos (by omega), hw]
    · simp only [if_pos hlt]; exact h3
theorem b10Lines {l : List Int} (h : U8 l) {N V : List ByteArray} (hN : ∀ x ∈ N, nameB x = true) (h6 : N.length ≤ 6) : ∃ L, L.length ≤ 6 ∧ (∀ x ∈ L, okL x 200) ∧ Ev (fun k => spec_B10Lines.f k l N V) L := by
  obtain ⟨m, s, e, v0, v1⟩ := pick_small h 0 0 7 (by omega) (by omega) (by omega) (by omega)
  obtain ⟨m, rfl⟩ := Int.eq_ofNat_of_zero_le v0
  obtain ⟨L, h1, h2, h3⟩ := ev_linesL h hN h6 m (0 + 1) s [] (by omega) (by omega) (by simp; omega) (fun x hx => by simp at hx)
  refine ⟨L, by rw [h1]; simp; omega, h2, ?_⟩
  unfold spec_B10Lines.f spec_l00From.f
  simp only [Option.bind_some, e]
  exact h3
end Go.Proofs.YtjpjlobpglmoiaaDoor.Pure
