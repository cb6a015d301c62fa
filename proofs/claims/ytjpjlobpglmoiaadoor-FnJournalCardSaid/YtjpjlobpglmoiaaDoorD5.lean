/- The reference's drawing of a line, walked. No conditions. -/
import Derived.Test.YtjpjlobpglmoiaaDoorQ24
import Derived.Test.YtjpjlobpglmoiaaDoorQ23
namespace Go.Proofs.YtjpjlobpglmoiaaDoor.A
open Go.RowKit Go.Proofs.YtjpjlobpglmoiaaDoorW.PrintWords Go.Proofs.YtjpjlobpglmoiaaDoorW.PrintLast Go.Proofs.YtjpjlobpglmoiaaDoorW.PrintMore
set_option linter.unusedVariables false
set_option linter.unusedSimpArgs false
def fresh6 : List ByteArray := [⟨#[97]⟩, ⟨#[98]⟩, ⟨#[110, 101, 119]⟩, ⟨#[120]⟩, ⟨#[99, 108, 111, 99, 107]⟩, ⟨#[81]⟩]
theorem reps_fresh6 {W : World} {base : Nat} (okp : Nat → Prop) : Reps (Kd.string.M W base okp) 1 fresh6 [.string ⟨#[97]⟩, .string ⟨#[98]⟩, .string ⟨#[110, 101, 119]⟩, .string ⟨#[120]⟩, .string ⟨#[99, 108, 111, 99, 107]⟩, .string ⟨#[81]⟩] := Reps.one rfl (Reps.one rfl (Reps.one rfl (Reps.one rfl (Reps.one rfl (Reps.one rfl (Reps.none _ _))))))
def cmds16 : List ByteArray := [⟨#[]⟩, ⟨#[119, 104, 97, 116]⟩, ⟨#[115, 101, 116]⟩, ⟨#[115, 101, 116, 32, 97]⟩, ⟨#[115, 101, 116, 32, 97, 32, 50]⟩, ⟨#[115, 101, 116, 32, 97, 32, 110, 111, 110, 101]⟩, ⟨#[115, 101, 116, 32, 97, 32]⟩, ⟨#[115, 104, 111, 119]⟩, ⟨#[100, 105, 118, 105, 100, 101, 32, 98, 32, 97, 32, 51]⟩, ⟨#[100, 105, 118, 105, 100, 101, 32, 98, 32, 97, 32, 48, 32, 49]⟩, ⟨#[106, 111, 105, 110, 32, 98, 32, 97, 32, 97, 32, 52]⟩, ⟨#[115, 119, 105, 116, 99, 104, 32, 98, 32, 97, 32, 97]⟩, ⟨#[99, 111, 117, 110, 116, 32, 97, 32, 48]⟩, ⟨#[100, 101, 108, 97, 121, 32, 98, 32, 97, 32, 45, 49]⟩, ⟨#[116, 111, 103, 103, 108, 101, 32, 98, 32, 97, 32, 120]⟩, ⟨#[114, 117, 110, 115, 32, 32, 97]⟩]
theorem reps_cmds16 {W : World} {base : Nat} (okp : Nat → Prop) : Reps (Kd.string.M W base okp) 1 cmds16 [.string ⟨#[]⟩, .string ⟨#[119, 104, 97, 116]⟩, .string ⟨#[115, 101, 116]⟩, .string ⟨#[115, 101, 116, 32, 97]⟩, .string ⟨#[115, 101, 116, 32, 97, 32, 50]⟩, .string ⟨#[115, 101, 116, 32, 97, 32, 110, 111, 110, 101]⟩, .string ⟨#[115, 101, 116, 32, 97, 32]⟩, .string ⟨#[115, 104, 111, 119]⟩, .string ⟨#[100, 105, 118, 105, 100, 101, 32, 98, 32, 97, 32, 51]⟩, .string ⟨#[100, 105, 118, 105, 100, 101, 32, 98, 32, 97, 32, 48, 32, 49]⟩, .string ⟨#[106, 111, 105, 110, 32, 98, 32, 97, 32, 97, 32, 52]⟩, .string ⟨#[115, 119, 105, 116, 99, 104, 32, 98, 32, 97, 32, 97]⟩, .string ⟨#[99, 111, 117, 110, 116, 32, 97, 32, 48]⟩, .string ⟨#[100, 101, 108, 97, 121, 32, 98, 32, 97, 32, 45, 49]⟩, .string ⟨#[116, 111, 103, 103, 108, 101, 32, 98, 32, 97, 32, 120]⟩, .string ⟨#[114, 117, 110, 115, 32, 32, 97]⟩] := Reps.one rfl (Reps.one rfl (Reps.one rfl (Reps.one rfl (Reps.one rfl (Reps.one rfl (Reps.one rfl (Reps.one rfl (Reps.one rfl (Reps.one rfl (Reps.one rfl (Reps.one rfl (Reps.one rfl (Reps.one rfl (Reps.one rfl (Reps.one rfl (Reps.none _ _))))))))))))))))
def words6 : List ByteArray := [⟨#[115, 104, 111, 119, 32]⟩, ⟨#[100, 114, 111, 112, 32]⟩, ⟨#[114, 117, 110, 115, 32]⟩, ⟨#[117, 112, 115, 32]⟩, ⟨#[112, 117, 108, 115, 101, 115, 32]⟩, ⟨#[100, 117, 116, 121, 32]⟩]
theorem reps_words6 {W : World} {base : Nat} (okp : Nat → Prop) : Reps (Kd.string.M W base okp) 1 words6 [.string ⟨#[115, 104, 111, 119, 32]⟩, .string ⟨#[100, 114, 111, 112, 32]⟩, .string ⟨#[114, 117, 110, 115, 32]⟩, .string ⟨#[117, 112, 115, 32]⟩, .string ⟨#[112, 117, 108, 115, 101, 115, 32]⟩, .string ⟨#[100, 117, 116, 121, 32]⟩] := Reps.one rfl (Reps.one rfl (Reps.one rfl (Reps.one rfl (Reps.one rfl (Reps.one rfl (Reps.none _ _))))))
def words5 : List ByteArray := [⟨#[100, 101, 108, 97, 121, 32]⟩, ⟨#[114, 101, 112, 101, 97, 116, 32]⟩, ⟨#[116, 111, 103, 103, 108, 101, 32]⟩, ⟨#[115, 101, 116, 116, 108, 101, 32]⟩, ⟨#[115, 116, 114, 101, 116, 99, 104, 32]⟩]
theorem reps_words5 {W : World} {base : Nat} (okp : Nat → Prop) : Reps (Kd.string.M W base okp) 1 words5 [.string ⟨#[100, 101, 108, 97, 121, 32]⟩, .string ⟨#[114, 101, 112, 101, 97, 116, 32]⟩, .string ⟨#[116, 111, 103, 103, 108, 101, 32]⟩, .string ⟨#[115, 101, 116, 116, 108, 101, 32]⟩, .string ⟨#[115, 116, 114, 101, 116, 99, 104, 32]⟩] := Reps.one rfl (Reps.one rfl (Reps.one rfl (Reps.one rfl (Reps.one rfl (Reps.none _ _)))))
def lineF (K : Nat) (l : List Int) (at_ seed : Int) (N : List ByteArray) : Option (ByteArray × Int × Int) :=
  (nameF l at_ seed N).bind fun a => (spec_l00Src_text.f l a.2.1 a.2.2 fresh6).bind fun b => (spec_l00Src_pick.f l b.2.1 b.2.2 8).bind fun p =>
  if a.1.size ≤ 1000 ∧ b.1.size ≤ 1000 then
    if p.1 = 0 then spec_l00Src_text.f l p.2.1 p.2.2 cmds16
    else if p.1 = 1 then (spec_l01DrawGood.f K l p.2.1 p.2.2 30).bind fun w => (spec_l11Show.f w.1).bind fun sh => if sh.size ≤ 1000 then some (((((⟨#[115, 101, 116, 32]⟩ : ByteArray) ++ b.1) ++ (⟨#[32]⟩ : ByteArray)) ++ sh), w.2.1, w.2.2) else none
    else if p.1 = 2 then (spec_l00Src_text.f l p.2.1 p.2.2 words6).bind fun w => if w.1.size ≤ 1000 then some (w.1 ++ a.1, w.2.1, w.2.2) else none
    else if p.1 = 3 then (spec_l00Src_text.f l p.2.1 p.2.2 words5).bind fun w => (spec_l00Src_pick.f l w.2.1 w.2.2 6).bind fun v => (spec_l01Dec.f K v.1).bind fun d => if w.1.size ≤ 1000 ∧ d.size ≤ 1000 then some ((((((w.1 ++ b.1) ++ (⟨#[32]⟩ : ByteArray)) ++ a.1) ++ (⟨#[32]⟩ : ByteArray)) ++ d), v.2.1, v.2.2) else none
    else if p.1 = 4 then (spec_l00Src_pick.f l p.2.1 p.2.2 5).bind fun v => (spec_l01Dec.f K (wrap64 (1 + v.1))).bind fun d => (spec_l00Src_pick.f l v.2.1 v.2.2 (wrap64 (wrap64 (1 + v.1) + 1))).bind fun u => (spec_l01Dec.f K u.1).bind fun e => if d.size ≤ 1000 ∧ e.size ≤ 1000 then some (((((((((⟨#[100, 105, 118, 105, 100, 101, 32]⟩ : ByteArray) ++ b.1) ++ (⟨#[32]⟩ : ByteArray)) ++ a.1) ++ (⟨#[32]⟩ : ByteArray)) ++ d) ++ (⟨#[32]⟩ : ByteArray)) ++ e), u.2.1, u.2.2) else none
    else if p.1 = 5 then (nameF l p.2.1 p.2.2 N).bind fun o => (spec_l00Src_pick.f l o.2.1 o.2.2 4).bind fun v => (spec_l01Dec.f K v.1).bind fun d => if o.1.size ≤ 1000 ∧ d.size ≤ 1000 then some (((((((((⟨#[106, 111, 105, 110, 32]⟩ : ByteArray) ++ b.1) ++ (⟨#[32]⟩ : ByteArray)) ++ a.1) ++ (⟨#[32]⟩ : ByteArray)) ++ o.1) ++ (⟨#[32]⟩ : ByteArray)) ++ d), v.2.1, v.2.2) else none
    else if p.1 = 6 then (nameF l p.2.1 p.2.2 N).bind fun o => (nameF l o.2.1 o.2.2 N).bind fun t => if o.1.size ≤ 1000 ∧ t.1.size ≤ 1000 then some (((((((((⟨#[115, 119, 105, 116, 99, 104, 32]⟩ : ByteArray) ++ b.1) ++ (⟨#[32]⟩ : ByteArray)) ++ a.1) ++ (⟨#[32]⟩ : ByteArray)) ++ o.1) ++ (⟨#[32]⟩ : ByteArray)) ++ t.1), t.2.1, t.2.2) else none
    else (spec_l00Src_one.f l p.2.1 p.2.2 2).bind fun o => if o.1 = true then some (((((⟨#[110, 111, 116, 32]⟩ : ByteArray) ++ b.1) ++ (⟨#[32]⟩ : ByteArray)) ++ a.1), o.2.1, o.2.2)
      else (spec_l00Src_pick.f l o.2.1 o.2.2 9).bind fun v => (spec_l01Dec.f K (wrap64 (1 + v.1))).bind fun d => if d.size ≤ 1000 then some (((((⟨#[99, 111, 117, 110, 116, 32]⟩ : ByteArray) ++ a.1) ++ (⟨#[32]⟩ : ByteArray)) ++ d), v.2.1, v.2.2) else none
  else none
theorem cz4 : (⟨#[115, 101, 116, 32]⟩ : ByteArray).size = 4 := rfl
theorem cz1 : (⟨#[32]⟩ : ByteArray).size = 1 := rfl
theorem cz7 : (⟨#[100, 105, 118, 105, 100, 101, 32]⟩ : ByteArray).size = 7 := rfl
theorem cz5 : (⟨#[106, 111, 105, 110, 32]⟩ : ByteArray).size = 5 := rfl
theorem cz7b : (⟨#[115, 119, 105, 116, 99, 104, 32]⟩ : ByteArray).size = 7 := rfl
theorem cz4b : (⟨#[110, 111, 116, 32]⟩ : ByteArray).size = 4 := rfl
theorem cz6 : (⟨#[99, 111, 117, 110, 116, 32]⟩ : ByteArray).size = 6 := rfl
theorem lineF.mono : ∀ l at_ seed N k, LeO (lineF k l at_ seed N) (lineF (k + 1) l at_ seed N) := by
  intro l at_ seed N k
  unfold lineF
  repeat' first
    | (with_reducible exact LeO.refl _)
    | (with_reducible exact LeO.none _)
    | (with_reducible exact spec_l01DrawGood.mono _ _ _ _ _)
    | (with_reducible exact spec_l01Dec.mono _ _)
    | (with_reducible refine LeO.ite ?_ ?_)
    | (with_reducible refine LeO.bind ?_ (fun _ => ?_))
set_option maxHeartbeats 6400000 in
set_option maxRecDepth 100000 in
theorem lineF.calls (K gs g : Nat) (l : List Int) (at_ seed : Int) (A0 A1 : Option Addr) (c0 c1 : Nat) (N V : List ByteArray) (r : ByteArray) (a' s' : Int) (w0 w : World) (hL : LI w0 gs g l at_ seed A0 A1 c0 c1 N V w) (h : lineF K l at_ seed N = some (r, a', s')) :
    Calls Tryd.prog 42 #[.pointer (some ⟨gs, 0, none⟩), .pointer (some ⟨g, 0, none⟩)] w fun e w' => e = .returned (.string r) ∧ LI w0 gs g l a' s' A0 A1 c0 c1 N V w' ∧ KeepBut w w' gs none := by
  have HL := Aside0.mk hL
  have KB := Aside0.mk (KeepBut.refl w gs none)
  clear hL
  unfold lineF at h
  replace h := Option.bind_eq_some_iff.1 h
  obtain ⟨⟨nm, a1, s1⟩, h1, h⟩ := h
  replace h := Option.bind_eq_some_iff.1 h
  obtain ⟨⟨fr, a2, s2⟩, h2, h⟩ := h
  replace h := Option.bind_eq_some_iff.1 h
  obtain ⟨⟨P, a3, s3⟩, h3, h⟩ := h
  dsimp only at h1 h2 h3 h
  have H1 := Aside0.mk h1
  have H2 := Aside0.mk h2
  have H3 := Aside0.mk h3
  clear h1 h2 h3
  have hz : nm.size ≤ 1000 ∧ fr.size ≤ 1000 := Classical.byContradiction (fun z => by rw [if_neg z] at h; cases h)
  rw [if_pos hz] at h
  obtain ⟨hz1, hz2⟩ := hz
  by_cases p0 : P = 0
  · rw [if_pos p0] at h
    have b0 : (P == 0) = true := beq_iff_eq.2 p0
    have H4 := Aside0.mk h
    clear h
    clear hz1 hz2
    go_enter Tryd.func42, Tryd.ntmps42
    go_wp2_with (first
      | (go_at_call 57; (with_reducible refine (nameF.calls gs g l at_ seed A0 A1 c0 c1 N V nm a1 s1 w0 _ ?hL H1.out).mono ?_); (case hL => exact HL.out); rintro e WL1 ⟨rfl, hI, hK⟩; have L1 := Aside0.mk hI; have KB := Aside0.mk (KB.out.trans hK (.inl rfl)); clear hI hK)
      | ((with_reducible refine gate_dst (N := 17) rfl ?_); refine Kd.R_lit Kd.string w0.heap.size 9 ?hg (N := 17) ?hd (w0 := w0) (xs := fresh6) (inner := [.string ⟨#[97]⟩, .string ⟨#[98]⟩, .string ⟨#[110, 101, 119]⟩, .string ⟨#[120]⟩, .string ⟨#[99, 108, 111, 99, 107]⟩, .string ⟨#[81]⟩]) (ok := fun k_ => k_ ≠ gs) (okp := fun _ => False) ?hr ?hp (fun _ hk => hk.elim) ?hf L1.out.bel L1.out.bel.size (by decide) ?_; (case hd => rfl); (case hg => rfl); (case hr => first | (go_simp; done) | (go_simp; rfl)); (case hp => exact reps_fresh6 _); (case hf => have h_ := L1.out.s.lt; omega); intro vL2 WL2 ho hb hg_ hnew_; obtain ⟨bL2, pL2, e_, -, -, -⟩ := Kd.R_form ho (by decide); subst e_; have CL2 := Aside0.mk (Kd.R_reads' ho).2; have FL2 := Aside0.mk (show ∀ ad, (some (⟨bL2, 0, none⟩ : Addr)) = some ad → 0 < fresh6.length → ad.block ≠ gs from (fun ad e_ _ => by (injection e_ with e_; subst e_; exact ho.1 bL2 (by simp [Value.ownBlock])))); have hbl_ := (L1.out.grown hb hg_); have L2 := Aside0.mk hbl_; have KB := Aside0.mk (KB.out.trans (KeepBut.of_grown hg_ gs) (.inl rfl)); clear ho hb hg_ hnew_ hbl_)
      | (go_at_call 58; (with_reducible refine (spec_l00Src_text.calls gs l a1 s1 (some ⟨bL2, 0, none⟩) pL2 fresh6 fr a2 s2 w0 _ ?hI ?hB ?hC ?hc ?hf H2.out).mono ?_); (case hI => exact L2.out.s); (case hB => exact L2.out.bel); (case hC => exact CL2.out.2); (case hc => exact CL2.out.1); (case hf => exact FL2.out); rintro e WL3 ⟨rfl, hI, hB, hK⟩; have L3 := Aside0.mk (L2.out.draw hI hB hK); have KB := Aside0.mk (KB.out.trans hK (.inl rfl)); clear hI hB hK; have zL3 : WL3.cell? ⟨g, 0, none⟩ = some (.slice A0 N.length c0) := (blk_cell L3.out.blk 0).trans rfl)
      | (go_at_call 41; (with_reducible refine (spec_l00Src_pick.calls gs l a2 s2 8 P a3 s3 w0 _ ?hI ?hB H3.out).mono ?_); (case hI => exact L3.out.s); (case hB => exact L3.out.bel); rintro e WL4 ⟨rfl, hI, hB, hK⟩; have L4 := Aside0.mk (L3.out.draw hI hB hK); have KB := Aside0.mk (KB.out.trans hK (.inl rfl)); clear hI hB hK; have zL4 : WL4.cell? ⟨g, 0, none⟩ = some (.slice A0 N.length c0) := (blk_cell L4.out.blk 0).trans rfl)
      | ((with_reducible refine gate_dst (N := 24) rfl ?_); refine Kd.R_lit Kd.string w0.heap.size 9 ?hg (N := 24) ?hd (w0 := w0) (xs := cmds16) (inner := [.string ⟨#[]⟩, .string ⟨#[119, 104, 97, 116]⟩, .string ⟨#[115, 101, 116]⟩, .string ⟨#[115, 101, 116, 32, 97]⟩, .string ⟨#[115, 101, 116, 32, 97, 32, 50]⟩, .string ⟨#[115, 101, 116, 32, 97, 32, 110, 111, 110, 101]⟩, .string ⟨#[115, 101, 116, 32, 97, 32]⟩, .string ⟨#[115, 104, 111, 119]⟩, .string ⟨#[100, 105, 118, 105, 100, 101, 32, 98, 32, 97, 32, 51]⟩, .string ⟨#[100, 105, 118, 105, 100, 101, 32, 98, 32, 97, 32, 48, 32, 49]⟩, .string ⟨#[106, 111, 105, 110, 32, 98, 32, 97, 32, 97, 32, 52]⟩, .string ⟨#[115, 119, 105, 116, 99, 104, 32, 98, 32, 97, 32, 97]⟩, .string ⟨#[99, 111, 117, 110, 116, 32, 97, 32, 48]⟩, .string ⟨#[100, 101, 108, 97, 121, 32, 98, 32, 97, 32, 45, 49]⟩, .string ⟨#[116, 111, 103, 103, 108, 101, 32, 98, 32, 97, 32, 120]⟩, .string ⟨#[114, 117, 110, 115, 32, 32, 97]⟩]) (ok := fun k_ => k_ ≠ gs) (okp := fun _ => False) ?hr ?hp (fun _ hk => hk.elim) ?hf L4.out.bel L4.out.bel.size (by decide) ?_; (case hd => rfl); (case hg => rfl); (case hr => first | (go_simp; done) | (go_simp; rfl)); (case hp => exact reps_cmds16 _); (case hf => have h_ := L4.out.s.lt; omega); intro vL5 WL5 ho hb hg_ hnew_; obtain ⟨bL5, pL5, e_, -, -, -⟩ := Kd.R_form ho (by decide); subst e_; have CL5 := Aside0.mk (Kd.R_reads' ho).2; have FL5 := Aside0.mk (show ∀ ad, (some (⟨bL5, 0, none⟩ : Addr)) = some ad → 0 < cmds16.length → ad.block ≠ gs from (fun ad e_ _ => by (injection e_ with e_; subst e_; exact ho.1 bL5 (by simp [Value.ownBlock])))); have hbl_ := (L4.out.grown hb hg_); have L5 := Aside0.mk hbl_; have KB := Aside0.mk (KB.out.trans (KeepBut.of_grown hg_ gs) (.inl rfl)); clear ho hb hg_ hnew_ hbl_)
      | (go_at_call 58; (with_reducible refine (spec_l00Src_text.calls gs l a3 s3 (some ⟨bL5, 0, none⟩) pL5 cmds16 r a' s' w0 _ ?hI ?hB ?hC ?hc ?hf H4.out).mono ?_); (case hI => exact L5.out.s); (case hB => exact L5.out.bel); (case hC => exact CL5.out.2); (case hc => exact CL5.out.1); (case hf => exact FL5.out); rintro e WL6 ⟨rfl, hI, hB, hK⟩; have L6 := Aside0.mk (L5.out.draw hI hB hK); have KB := Aside0.mk (KB.out.trans hK (.inl rfl)); clear hI hB hK; have zL6 : WL6.cell? ⟨g, 0, none⟩ = some (.slice A0 N.length c0) := (blk_cell L6.out.blk 0).trans rfl))
    go_ret
    exact ⟨rfl, L6.out, KB.out⟩
  rw [if_neg p0] at h
  have b0 : (P == 0) = false := beq_eq_false_iff_ne.2 p0
  by_cases p1 : P = 1
  · rw [if_pos p1] at h
    have b1 : (P == 1) = true := beq_iff_eq.2 p1
    replace h := Option.bind_eq_some_iff.1 h
    obtain ⟨⟨wv, a4, s4⟩, h4, h⟩ := h
    (try dsimp only at h4 h)
    have H4 := Aside0.mk h4
    clear h4
    replace h := Option.bind_eq_some_iff.1 h
    obtain ⟨sh, h5, h⟩ := h
    (try dsimp only at h5 h)
    have H5 := Aside0.mk h5
    clear h5
    have hz3 : sh.size ≤ 1000 := Classical.byContradiction (fun z => by rw [if_neg z] at h; cases h)
    rw [if_pos hz3] at h
    have hr := Option.some.inj h
    simp only [Prod.mk.injEq] at hr
    obtain ⟨hr, rfl, rfl⟩ := hr
    have HR := Aside0.mk hr
    clear h hr
    have q0a : 4 + fr.size ≤ 9223372036854775807 := by (try simp only [size_app, cz4, cz1, cz7, cz5, cz7b, cz4b, cz6]); omega
    have c0a := eq_true q0a; have e0a := decide_eq_true q0a; have f0a := eq_false (Nat.not_lt.2 q0a)
    have q1a : ((⟨#[115, 101, 116, 32]⟩ : ByteArray) ++ fr).size + 1 ≤ 9223372036854775807 := by (try simp only [size_app, cz4, cz1, cz7, cz5, cz7b, cz4b, cz6]); omega
    have c1a := eq_true q1a; have e1a := decide_eq_true q1a; have f1a := eq_false (Nat.not_lt.2 q1a)
    have q1b : 4 + fr.size + 1 ≤ 9223372036854775807 := by (try simp only [size_app, cz4, cz1, cz7, cz5, cz7b, cz4b, cz6]); omega
    have c1b := eq_true q1b; have e1b := decide_eq_true q1b; have f1b := eq_false (Nat.not_lt.2 q1b)
    have q2a : (((⟨#[115, 101, 116, 32]⟩ : ByteArray) ++ fr) ++ (⟨#[32]⟩ : ByteArray)).size + sh.size ≤ 9223372036854775807 := by (try simp only [size_app, cz4, cz1, cz7, cz5, cz7b, cz4b, cz6]); omega
    have c2a := eq_true q2a; have e2a := decide_eq_true q2a; have f2a := eq_false (Nat.not_lt.2 q2a)
    have q2b : 4 + fr.size + 1 + sh.size ≤ 9223372036854775807 := by (try simp only [size_app, cz4, cz1, cz7, cz5, cz7b, cz4b, cz6]); omega
    have c2b := eq_true q2b; have e2b := decide_eq_true q2b; have f2b := eq_false (Nat.not_lt.2 q2b)
    clear q0a q1a q1b q2a q2b
    clear hz1 hz2
    go_enter Tryd.func42, Tryd.ntmps42
    go_wp2_with (first
      | (go_at_call 57; (with_reducible refine (nameF.calls gs g l at_ seed A0 A1 c0 c1 N V nm a1 s1 w0 _ ?hL H1.out).mono ?_); (case hL => exact HL.out); rintro e WL1 ⟨rfl, hI, hK⟩; have L1 := Aside0.mk hI; have KB := Aside0.mk (KB.out.trans hK (.inl rfl)); clear hI hK)
      | ((with_reducible refine gate_dst (N := 17) rfl ?_); refine Kd.R_lit Kd.string w0.heap.size 9 ?hg (N := 17) ?hd (w0 := w0) (xs := fresh6) (inner := [.string ⟨#[97]⟩, .string ⟨#[98]⟩, .string ⟨#[110, 101, 119]⟩, .string ⟨#[120]⟩, .string ⟨#[99, 108, 111, 99, 107]⟩, .string ⟨#[81]⟩]) (ok := fun k_ => k_ ≠ gs) (okp := fun _ => False) ?hr ?hp (fun _ hk => hk.elim) ?hf L1.out.bel L1.out.bel.size (by decide) ?_; (case hd => rfl); (case hg => rfl); (case hr => first | (go_simp; done) | (go_simp; rfl)); (case hp => exact reps_fresh6 _); (case hf => have h_ := L1.out.s.lt; omega); intro vL2 WL2 ho hb hg_ hnew_; obtain ⟨bL2, pL2, e_, -, -, -⟩ := Kd.R_form ho (by decide); subst e_; have CL2 := Aside0.mk (Kd.R_reads' ho).2; have FL2 := Aside0.mk (show ∀ ad, (some (⟨bL2, 0, none⟩ : Addr)) = some ad → 0 < fresh6.length → ad.block ≠ gs from (fun ad e_ _ => by (injection e_ with e_; subst e_; exact ho.1 bL2 (by simp [Value.ownBlock])))); have hbl_ := (L1.out.grown hb hg_); have L2 := Aside0.mk hbl_; have KB := Aside0.mk (KB.out.trans (KeepBut.of_grown hg_ gs) (.inl rfl)); clear ho hb hg_ hnew_ hbl_)
      | (go_at_call 58; (with_reducible refine (spec_l00Src_text.calls gs l a1 s1 (some ⟨bL2, 0, none⟩) pL2 fresh6 fr a2 s2 w0 _ ?hI ?hB ?hC ?hc ?hf H2.out).mono ?_); (case hI => exact L2.out.s); (case hB => exact L2.out.bel); (case hC => exact CL2.out.2); (case hc => exact CL2.out.1); (case hf => exact FL2.out); rintro e WL3 ⟨rfl, hI, hB, hK⟩; have L3 := Aside0.mk (L2.out.draw hI hB hK); have KB := Aside0.mk (KB.out.trans hK (.inl rfl)); clear hI hB hK; have zL3 : WL3.cell? ⟨g, 0, none⟩ = some (.slice A0 N.length c0) := (blk_cell L3.out.blk 0).trans rfl)
      | (go_at_call 41; (with_reducible refine (spec_l00Src_pick.calls gs l a2 s2 8 P a3 s3 w0 _ ?hI ?hB H3.out).mono ?_); (case hI => exact L3.out.s); (case hB => exact L3.out.bel); rintro e WL4 ⟨rfl, hI, hB, hK⟩; have L4 := Aside0.mk (L3.out.draw hI hB hK); have KB := Aside0.mk (KB.out.trans hK (.inl rfl)); clear hI hB hK; have zL4 : WL4.cell? ⟨g, 0, none⟩ = some (.slice A0 N.length c0) := (blk_cell L4.out.blk 0).trans rfl)
      | (go_at_call 60; (with_reducible refine (spec_l01DrawGood.calls K gs l a3 s3 30 wv a4 s4 w0 _ ?hI ?hB H4.out).mono ?_); (case hI => exact L4.out.s); (case hB => exact L4.out.bel); rintro e WL5 ⟨rfl, hI, hB, hK⟩; have L5 := Aside0.mk (L4.out.draw hI hB hK); have KB := Aside0.mk (KB.out.trans hK (.inl rfl)); clear hI hB hK; have zL5 : WL5.cell? ⟨g, 0, none⟩ = some (.slice A0 N.length c0) := (blk_cell L5.out.blk 0).trans rfl)
      | (go_at_call 59; (with_reducible refine (spec_l11Show.calls wv sh _ H5.out).mono ?_); rintro e WL6 ⟨rfl, hd⟩; have hb := below_drawn (Below.refl _ _) hd; have L6 := Aside0.mk (L5.out.below hb); have KB := Aside0.mk (KB.out.trans (KeepBut.of_below hb gs none) (.inl rfl)); clear hd hb))
    go_ret
    exact ⟨by rw [← HR.out]; rfl, L6.out, KB.out⟩
  rw [if_neg p1] at h
  have b1 : (P == 1) = false := beq_eq_false_iff_ne.2 p1
  by_cases p2 : P = 2
  · rw [if_pos p2] at h
    have b2 : (P == 2) = true := beq_iff_eq.2 p2
    replace h := Option.bind_eq_some_iff.1 h
    obtain ⟨⟨wd, a4, s4⟩, h4, h⟩ := h
    (try dsimp only at h4 h)
    have H4 := Aside0.mk h4
    clear h4
    have hz3 : wd.size ≤ 1000 := Classical.byContradiction (fun z => by rw [if_neg z] at h; cases h)
    rw [if_pos hz3] at h
    have hr := Option.some.inj h
    simp only [Prod.mk.injEq] at hr
    obtain ⟨hr, rfl, rfl⟩ := hr
    have HR := Aside0.mk hr
    clear h hr
    have q0a : wd.size + nm.size ≤ 9223372036854775807 := by (try simp only [size_app, cz4, cz1, cz7, cz5, cz7b, cz4b, cz6]); omega
    have c0a := eq_true q0a; have e0a := decide_eq_true q0a; have f0a := eq_false (Nat.not_lt.2 q0a)
    clear q0a
    clear hz1 hz2
    go_enter Tryd.func42, Tryd.ntmps42
    go_wp2_with (first
      | (go_at_call 57; (with_reducible refine (nameF.calls gs g l at_ seed A0 A1 c0 c1 N V nm a1 s1 w0 _ ?hL H1.out).mono ?_); (case hL => exact HL.out); rintro e WL1 ⟨rfl, hI, hK⟩; have L1 := Aside0.mk hI; have KB := Aside0.mk (KB.out.trans hK (.inl rfl)); clear hI hK)
      | ((with_reducible refine gate_dst (N := 17) rfl ?_); refine Kd.R_lit Kd.string w0.heap.size 9 ?hg (N := 17) ?hd (w0 := w0) (xs := fresh6) (inner := [.string ⟨#[97]⟩, .string ⟨#[98]⟩, .string ⟨#[110, 101, 119]⟩, .string ⟨#[120]⟩, .string ⟨#[99, 108, 111, 99, 107]⟩, .string ⟨#[81]⟩]) (ok := fun k_ => k_ ≠ gs) (okp := fun _ => False) ?hr ?hp (fun _ hk => hk.elim) ?hf L1.out.bel L1.out.bel.size (by decide) ?_; (case hd => rfl); (case hg => rfl); (case hr => first | (go_simp; done) | (go_simp; rfl)); (case hp => exact reps_fresh6 _); (case hf => have h_ := L1.out.s.lt; omega); intro vL2 WL2 ho hb hg_ hnew_; obtain ⟨bL2, pL2, e_, -, -, -⟩ := Kd.R_form ho (by decide); subst e_; have CL2 := Aside0.mk (Kd.R_reads' ho).2; have FL2 := Aside0.mk (show ∀ ad, (some (⟨bL2, 0, none⟩ : Addr)) = some ad → 0 < fresh6.length → ad.block ≠ gs from (fun ad e_ _ => by (injection e_ with e_; subst e_; exact ho.1 bL2 (by simp [Value.ownBlock])))); have hbl_ := (L1.out.grown hb hg_); have L2 := Aside0.mk hbl_; have KB := Aside0.mk (KB.out.trans (KeepBut.of_grown hg_ gs) (.inl rfl)); clear ho hb hg_ hnew_ hbl_)
      | (go_at_call 58; (with_reducible refine (spec_l00Src_text.calls gs l a1 s1 (some ⟨bL2, 0, none⟩) pL2 fresh6 fr a2 s2 w0 _ ?hI ?hB ?hC ?hc ?hf H2.out).mono ?_); (case hI => exact L2.out.s); (case hB => exact L2.out.bel); (case hC => exact CL2.out.2); (case hc => exact CL2.out.1); (case hf => exact FL2.out); rintro e WL3 ⟨rfl, hI, hB, hK⟩; have L3 := Aside0.mk (L2.out.draw hI hB hK); have KB := Aside0.mk (KB.out.trans hK (.inl rfl)); clear hI hB hK; have zL3 : WL3.cell? ⟨g, 0, none⟩ = some (.slice A0 N.length c0) := (blk_cell L3.out.blk 0).trans rfl)
      | (go_at_call 41; (with_reducible refine (spec_l00Src_pick.calls gs l a2 s2 8 P a3 s3 w0 _ ?hI ?hB H3.out).mono ?_); (case hI => exact L3.out.s); (case hB => exact L3.out.bel); rintro e WL4 ⟨rfl, hI, hB, hK⟩; have L4 := Aside0.mk (L3.out.draw hI hB hK); have KB := Aside0.mk (KB.out.trans hK (.inl rfl)); clear hI hB hK; have zL4 : WL4.cell? ⟨g, 0, none⟩ = some (.slice A0 N.length c0) := (blk_cell L4.out.blk 0).trans rfl)
      | ((with_reducible refine gate_dst (N := 38) rfl ?_); refine Kd.R_lit Kd.string w0.heap.size 9 ?hg (N := 38) ?hd (w0 := w0) (xs := words6) (inner := [.string ⟨#[115, 104, 111, 119, 32]⟩, .string ⟨#[100, 114, 111, 112, 32]⟩, .string ⟨#[114, 117, 110, 115, 32]⟩, .string ⟨#[117, 112, 115, 32]⟩, .string ⟨#[112, 117, 108, 115, 101, 115, 32]⟩, .string ⟨#[100, 117, 116, 121, 32]⟩]) (ok := fun k_ => k_ ≠ gs) (okp := fun _ => False) ?hr ?hp (fun _ hk => hk.elim) ?hf L4.out.bel L4.out.bel.size (by decide) ?_; (case hd => rfl); (case hg => rfl); (case hr => first | (go_simp; done) | (go_simp; rfl)); (case hp => exact reps_words6 _); (case hf => have h_ := L4.out.s.lt; omega); intro vL5 WL5 ho hb hg_ hnew_; obtain ⟨bL5, pL5, e_, -, -, -⟩ := Kd.R_form ho (by decide); subst e_; have CL5 := Aside0.mk (Kd.R_reads' ho).2; have FL5 := Aside0.mk (show ∀ ad, (some (⟨bL5, 0, none⟩ : Addr)) = some ad → 0 < words6.length → ad.block ≠ gs from (fun ad e_ _ => by (injection e_ with e_; subst e_; exact ho.1 bL5 (by simp [Value.ownBlock])))); have hbl_ := (L4.out.grown hb hg_); have L5 := Aside0.mk hbl_; have KB := Aside0.mk (KB.out.trans (KeepBut.of_grown hg_ gs) (.inl rfl)); clear ho hb hg_ hnew_ hbl_)
      | (go_at_call 58; (with_reducible refine (spec_l00Src_text.calls gs l a3 s3 (some ⟨bL5, 0, none⟩) pL5 words6 wd a4 s4 w0 _ ?hI ?hB ?hC ?hc ?hf H4.out).mono ?_); (case hI => exact L5.out.s); (case hB => exact L5.out.bel); (case hC => exact CL5.out.2); (case hc => exact CL5.out.1); (case hf => exact FL5.out); rintro e WL6 ⟨rfl, hI, hB, hK⟩; have L6 := Aside0.mk (L5.out.draw hI hB hK); have KB := Aside0.mk (KB.out.trans hK (.inl rfl)); clear hI hB hK; have zL6 : WL6.cell? ⟨g, 0, none⟩ = some (.slice A0 N.length c0) := (blk_cell L6.out.blk 0).trans rfl))
    go_ret
    exact ⟨by rw [← HR.out]; rfl, L6.out, KB.out⟩
  rw [if_neg p2] at h
  have b2 : (P == 2) = false := beq_eq_false_iff_ne.2 p2
  by_cases p3 : P = 3
  · rw [if_pos p3] at h
    have b3 : (P == 3) = true := beq_iff_eq.2 p3
    replace h := Option.bind_eq_some_iff.1 h
    obtain ⟨⟨wd, a4, s4⟩, h4, h⟩ := h
    (try dsimp only at h4 h)
    have H4 := Aside0.mk h4
    clear h4
    replace h := Option.bind_eq_some_iff.1 h
    obtain ⟨⟨v, a5, s5⟩, h5, h⟩ := h
    (try dsimp only at h5 h)
    have H5 := Aside0.mk h5
    clear h5
    replace h := Option.bind_eq_some_iff.1 h
    obtain ⟨d, h6, h⟩ := h
    (try dsimp only at h6 h)
    have H6 := Aside0.mk h6
    clear h6
    have hz3 : wd.size ≤ 1000 ∧ d.size ≤ 1000 := Classical.byContradiction (fun z => by rw [if_neg z] at h; cases h)
    rw [if_pos hz3] at h
    obtain ⟨y1, y2⟩ := hz3
    have hr := Option.some.inj h
    simp only [Prod.mk.injEq] at hr
    obtain ⟨hr, rfl, rfl⟩ := hr
    have HR := Aside0.mk hr
    clear h hr
    have q0a : wd.size + fr.size ≤ 9223372036854775807 := by (try simp only [size_app, cz4, cz1, cz7, cz5, cz7b, cz4b, cz6]); omega
    have c0a := eq_true q0a; have e0a := decide_eq_true q0a; have f0a := eq_false (Nat.not_lt.2 q0a)
    have q1a : (wd ++ fr).size + 1 ≤ 9223372036854775807 := by (try simp only [size_app, cz4, cz1, cz7, cz5, cz7b, cz4b, cz6]); omega
    have c1a := eq_true q1a; have e1a := decide_eq_true q1a; have f1a := eq_false (Nat.not_lt.2 q1a)
    have q1b : wd.size + fr.size + 1 ≤ 9223372036854775807 := by (try simp only [size_app, cz4, cz1, cz7, cz5, cz7b, cz4b, cz6]); omega
    have c1b := eq_true q1b; have e1b := decide_eq_true q1b; have f1b := eq_false (Nat.not_lt.2 q1b)
    have q2a : ((wd ++ fr) ++ (⟨#[32]⟩ : ByteArray)).size + nm.size ≤ 9223372036854775807 := by (try simp only [size_app, cz4, cz1, cz7, cz5, cz7b, cz4b, cz6]); omega
    have c2a := eq_true q2a; have e2a := decide_eq_true q2a; have f2a := eq_false (Nat.not_lt.2 q2a)
    have q2b : wd.size + fr.size + 1 + nm.size ≤ 9223372036854775807 := by (try simp only [size_app, cz4, cz1, cz7, cz5, cz7b, cz4b, cz6]); omega
    have c2b := eq_true q2b; have e2b := decide_eq_true q2b; have f2b := eq_false (Nat.not_lt.2 q2b)
    have q3a : (((wd ++ fr) ++ (⟨#[32]⟩ : ByteArray)) ++ nm).size + 1 ≤ 9223372036854775807 := by (try simp only [size_app, cz4, cz1, cz7, cz5, cz7b, cz4b, cz6]); omega
    have c3a := eq_true q3a; have e3a := decide_eq_true q3a; have f3a := eq_false (Nat.not_lt.2 q3a)
    have q3b : wd.size + fr.size + 1 + nm.size + 1 ≤ 9223372036854775807 := by (try simp only [size_app, cz4, cz1, cz7, cz5, cz7b, cz4b, cz6]); omega
    have c3b := eq_true q3b; have e3b := decide_eq_true q3b; have f3b := eq_false (Nat.not_lt.2 q3b)
    have q4a : ((((wd ++ fr) ++ (⟨#[32]⟩ : ByteArray)) ++ nm) ++ (⟨#[32]⟩ : ByteArray)).size + d.size ≤ 9223372036854775807 := by (try simp only [size_app, cz4, cz1, cz7, cz5, cz7b, cz4b, cz6]); omega
    have c4a := eq_true q4a; have e4a := decide_eq_true q4a; have f4a := eq_false (Nat.not_lt.2 q4a)
    have q4b : wd.size + fr.size + 1 + nm.size + 1 + d.size ≤ 9223372036854775807 := by (try simp only [size_app, cz4, cz1, cz7, cz5, cz7b, cz4b, cz6]); omega
    have c4b := eq_true q4b; have e4b := decide_eq_true q4b; have f4b := eq_false (Nat.not_lt.2 q4b)
    clear q0a q1a q1b q2a q2b q3a q3b q4a q4b
    clear hz1 hz2
    go_enter Tryd.func42, Tryd.ntmps42
    go_wp2_with (first
      | (go_at_call 57; (with_reducible refine (nameF.calls gs g l at_ seed A0 A1 c0 c1 N V nm a1 s1 w0 _ ?hL H1.out).mono ?_); (case hL => exact HL.out); rintro e WL1 ⟨rfl, hI, hK⟩; have L1 := Aside0.mk hI; have KB := Aside0.mk (KB.out.trans hK (.inl rfl)); clear hI hK)
      | ((with_reducible refine gate_dst (N := 17) rfl ?_); refine Kd.R_lit Kd.string w0.heap.size 9 ?hg (N := 17) ?hd (w0 := w0) (xs := fresh6) (inner := [.string ⟨#[97]⟩, .string ⟨#[98]⟩, .string ⟨#[110, 101, 119]⟩, .string ⟨#[120]⟩, .string ⟨#[99, 108, 111, 99, 107]⟩, .string ⟨#[81]⟩]) (ok := fun k_ => k_ ≠ gs) (okp := fun _ => False) ?hr ?hp (fun _ hk => hk.elim) ?hf L1.out.bel L1.out.bel.size (by decide) ?_; (case hd => rfl); (case hg => rfl); (case hr => first | (go_simp; done) | (go_simp; rfl)); (case hp => exact reps_fresh6 _); (case hf => have h_ := L1.out.s.lt; omega); intro vL2 WL2 ho hb hg_ hnew_; obtain ⟨bL2, pL2, e_, -, -, -⟩ := Kd.R_form ho (by decide); subst e_; have CL2 := Aside0.mk (Kd.R_reads' ho).2; have FL2 := Aside0.mk (show ∀ ad, (some (⟨bL2, 0, none⟩ : Addr)) = some ad → 0 < fresh6.length → ad.block ≠ gs from (fun ad e_ _ => by (injection e_ with e_; subst e_; exact ho.1 bL2 (by simp [Value.ownBlock])))); have hbl_ := (L1.out.grown hb hg_); have L2 := Aside0.mk hbl_; have KB := Aside0.mk (KB.out.trans (KeepBut.of_grown hg_ gs) (.inl rfl)); clear ho hb hg_ hnew_ hbl_)
      | (go_at_call 58; (with_reducible refine (spec_l00Src_text.calls gs l a1 s1 (some ⟨bL2, 0, none⟩) pL2 fresh6 fr a2 s2 w0 _ ?hI ?hB ?hC ?hc ?hf H2.out).mono ?_); (case hI => exact L2.out.s); (case hB => exact L2.out.bel); (case hC => exact CL2.out.2); (case hc => exact CL2.out.1); (case hf => exact FL2.out); rintro e WL3 ⟨rfl, hI, hB, hK⟩; have L3 := Aside0.mk (L2.out.draw hI hB hK); have KB := Aside0.mk (KB.out.trans hK (.inl rfl)); clear hI hB hK; have zL3 : WL3.cell? ⟨g, 0, none⟩ = some (.slice A0 N.length c0) := (blk_cell L3.out.blk 0).trans rfl)
      | (go_at_call 41; (with_reducible refine (spec_l00Src_pick.calls gs l a2 s2 8 P a3 s3 w0 _ ?hI ?hB H3.out).mono ?_); (case hI => exact L3.out.s); (case hB => exact L3.out.bel); rintro e WL4 ⟨rfl, hI, hB, hK⟩; have L4 := Aside0.mk (L3.out.draw hI hB hK); have KB := Aside0.mk (KB.out.trans hK (.inl rfl)); clear hI hB hK; have zL4 : WL4.cell? ⟨g, 0, none⟩ = some (.slice A0 N.length c0) := (blk_cell L4.out.blk 0).trans rfl)
      | ((with_reducible refine gate_dst (N := 46) rfl ?_); refine Kd.R_lit Kd.string w0.heap.size 9 ?hg (N := 46) ?hd (w0 := w0) (xs := words5) (inner := [.string ⟨#[100, 101, 108, 97, 121, 32]⟩, .string ⟨#[114, 101, 112, 101, 97, 116, 32]⟩, .string ⟨#[116, 111, 103, 103, 108, 101, 32]⟩, .string ⟨#[115, 101, 116, 116, 108, 101, 32]⟩, .string ⟨#[115, 116, 114, 101, 116, 99, 104, 32]⟩]) (ok := fun k_ => k_ ≠ gs) (okp := fun _ => False) ?hr ?hp (fun _ hk => hk.elim) ?hf L4.out.bel L4.out.bel.size (by decide) ?_; (case hd => rfl); (case hg => rfl); (case hr => first | (go_simp; done) | (go_simp; rfl)); (case hp => exact reps_words5 _); (case hf => have h_ := L4.out.s.lt; omega); intro vL5 WL5 ho hb hg_ hnew_; obtain ⟨bL5, pL5, e_, -, -, -⟩ := Kd.R_form ho (by decide); subst e_; have CL5 := Aside0.mk (Kd.R_reads' ho).2; have FL5 := Aside0.mk (show ∀ ad, (some (⟨bL5, 0, none⟩ : Addr)) = some ad → 0 < words5.length → ad.block ≠ gs from (fun ad e_ _ => by (injection e_ with e_; subst e_; exact ho.1 bL5 (by simp [Value.ownBlock])))); have hbl_ := (L4.out.grown hb hg_); have L5 := Aside0.mk hbl_; have KB := Aside0.mk (KB.out.trans (KeepBut.of_grown hg_ gs) (.inl rfl)); clear ho hb hg_ hnew_ hbl_)
      | (go_at_call 58; (with_reducible refine (spec_l00Src_text.calls gs l a3 s3 (some ⟨bL5, 0, none⟩) pL5 words5 wd a4 s4 w0 _ ?hI ?hB ?hC ?hc ?hf H4.out).mono ?_); (case hI => exact L5.out.s); (case hB => exact L5.out.bel); (case hC => exact CL5.out.2); (case hc => exact CL5.out.1); (case hf => exact FL5.out); rintro e WL6 ⟨rfl, hI, hB, hK⟩; have L6 := Aside0.mk (L5.out.draw hI hB hK); have KB := Aside0.mk (KB.out.trans hK (.inl rfl)); clear hI hB hK; have zL6 : WL6.cell? ⟨g, 0, none⟩ = some (.slice A0 N.length c0) := (blk_cell L6.out.blk 0).trans rfl)
      | (go_at_call 41; (with_reducible refine (spec_l00Src_pick.calls gs l a4 s4 6 v a5 s5 w0 _ ?hI ?hB H5.out).mono ?_); (case hI => exact L6.out.s); (case hB => exact L6.out.bel); rintro e WL7 ⟨rfl, hI, hB, hK⟩; have L7 := Aside0.mk (L6.out.draw hI hB hK); have KB := Aside0.mk (KB.out.trans hK (.inl rfl)); clear hI hB hK; have zL7 : WL7.cell? ⟨g, 0, none⟩ = some (.slice A0 N.length c0) := (blk_cell L7.out.blk 0).trans rfl)
      | (go_at_call 37; (with_reducible refine (spec_l01Dec.calls K v d _ H6.out).mono ?_); rintro e WL8 ⟨rfl, hb⟩; have L8 := Aside0.mk (L7.out.below hb); have KB := Aside0.mk (KB.out.trans (KeepBut.of_below hb gs none) (.inl rfl)); clear hb))
    go_ret
    exact ⟨by rw [← HR.out]; rfl, L8.out, KB.out⟩
  rw [if_neg p3] at h
  have b3 : (P == 3) = false := beq_eq_false_iff_ne.2 p3
  by_cases p4 : P = 4
  · rw [if_pos p4] at h
    have b4 : (P == 4) = true := beq_iff_eq.2 p4
    replace h := Option.bind_eq_some_iff.1 h
    obtain ⟨⟨v, a4, s4⟩, h4, h⟩ := h
    (try dsimp only at h4 h)
    have H4 := Aside0.mk h4
    clear h4
    replace h := Option.bind_eq_some_iff.1 h
    obtain ⟨d, h5, h⟩ := h
    (try dsimp only at h5 h)
    have H5 := Aside0.mk h5
    clear h5
    replace h := Option.bind_eq_some_iff.1 h
    obtain ⟨⟨u, a5, s5⟩, h6, h⟩ := h
    (try dsimp only at h6 h)
    have H6 := Aside0.mk h6
    clear h6
    replace h := Option.bind_eq_some_iff.1 h
    obtain ⟨e, h7, h⟩ := h
    (try dsimp only at h7 h)
    have H7 := Aside0.mk h7
    clear h7
    have hz3 : d.size ≤ 1000 ∧ e.size ≤ 1000 := Classical.byContradiction (fun z => by rw [if_neg z] at h; cases h)
    rw [if_pos hz3] at h
    obtain ⟨y1, y2⟩ := hz3
    have hr := Option.some.inj h
    simp only [Prod.mk.injEq] at hr
    obtain ⟨hr, rfl, rfl⟩ := hr
    have HR := Aside0.mk hr
    clear h hr
    have q0a : 7 + fr.size ≤ 9223372036854775807 := by (try simp only [size_app, cz4, cz1, cz7, cz5, cz7b, cz4b, cz6]); omega
    have c0a := eq_true q0a; have e0a := decide_eq_true q0a; have f0a := eq_false (Nat.not_lt.2 q0a)
    have q1a : ((⟨#[100, 105, 118, 105, 100, 101, 32]⟩ : ByteArray) ++ fr).size + 1 ≤ 9223372036854775807 := by (try simp only [size_app, cz4, cz1, cz7, cz5, cz7b, cz4b, cz6]); omega
    have c1a := eq_true q1a; have e1a := decide_eq_true q1a; have f1a := eq_false (Nat.not_lt.2 q1a)
    have q1b : 7 + fr.size + 1 ≤ 9223372036854775807 := by (try simp only [size_app, cz4, cz1, cz7, cz5, cz7b, cz4b, cz6]); omega
    have c1b := eq_true q1b; have e1b := decide_eq_true q1b; have f1b := eq_false (Nat.not_lt.2 q1b)
    have q2a : (((⟨#[100, 105, 118, 105, 100, 101, 32]⟩ : ByteArray) ++ fr) ++ (⟨#[32]⟩ : ByteArray)).size + nm.size ≤ 9223372036854775807 := by (try simp only [size_app, cz4, cz1, cz7, cz5, cz7b, cz4b, cz6]); omega
    have c2a := eq_true q2a; have e2a := decide_eq_true q2a; have f2a := eq_false (Nat.not_lt.2 q2a)
    have q2b : 7 + fr.size + 1 + nm.size ≤ 9223372036854775807 := by (try simp only [size_app, cz4, cz1, cz7, cz5, cz7b, cz4b, cz6]); omega
    have c2b := eq_true q2b; have e2b := decide_eq_true q2b; have f2b := eq_false (Nat.not_lt.2 q2b)
    have q3a : ((((⟨#[100, 105, 118, 105, 100, 101, 32]⟩ : ByteArray) ++ fr) ++ (⟨#[32]⟩ : ByteArray)) ++ nm).size + 1 ≤ 9223372036854775807 := by (try simp only [size_app, cz4, cz1, cz7, cz5, cz7b, cz4b, cz6]); omega
    have c3a := eq_true q3a; have e3a := decide_eq_true q3a; have f3a := eq_false (Nat.not_lt.2 q3a)
    have q3b : 7 + fr.size + 1 + nm.size + 1 ≤ 9223372036854775807 := by (try simp only [size_app, cz4, cz1, cz7, cz5, cz7b, cz4b, cz6]); omega
    have c3b := eq_true q3b; have e3b := decide_eq_true q3b; have f3b := eq_false (Nat.not_lt.2 q3b)
    have q4a : (((((⟨#[100, 105, 118, 105, 100, 101, 32]⟩ : ByteArray) ++ fr) ++ (⟨#[32]⟩ : ByteArray)) ++ nm) ++ (⟨#[32]⟩ : ByteArray)).size + d.size ≤ 9223372036854775807 := by (try simp only [size_app, cz4, cz1, cz7, cz5, cz7b, cz4b, cz6]); omega
    have c4a := eq_true q4a; have e4a := decide_eq_true q4a; have f4a := eq_false (Nat.not_lt.2 q4a)
    have q4b : 7 + fr.size + 1 + nm.size + 1 + d.size ≤ 9223372036854775807 := by (try simp only [size_app, cz4, cz1, cz7, cz5, cz7b, cz4b, cz6]); omega
    have c4b := eq_true q4b; have e4b := decide_eq_true q4b; have f4b := eq_false (Nat.not_lt.2 q4b)
    have q5a : ((((((⟨#[100, 105, 118, 105, 100, 101, 32]⟩ : ByteArray) ++ fr) ++ (⟨#[32]⟩ : ByteArray)) ++ nm) ++ (⟨#[32]⟩ : ByteArray)) ++ d).size + 1 ≤ 9223372036854775807 := by (try simp only [size_app, cz4, cz1, cz7, cz5, cz7b, cz4b, cz6]); omega
    have c5a := eq_true q5a; have e5a := decide_eq_true q5a; have f5a := eq_false (Nat.not_lt.2 q5a)
    have q5b : 7 + fr.size + 1 + nm.size + 1 + d.size + 1 ≤ 9223372036854775807 := by (try simp only [size_app, cz4, cz1, cz7, cz5, cz7b, cz4b, cz6]); omega
    have c5b := eq_true q5b; have e5b := decide_eq_true q5b; have f5b := eq_false (Nat.not_lt.2 q5b)
    have q6a : (((((((⟨#[100, 105, 118, 105, 100, 101, 32]⟩ : ByteArray) ++ fr) ++ (⟨#[32]⟩ : ByteArray)) ++ nm) ++ (⟨#[32]⟩ : ByteArray)) ++ d) ++ (⟨#[32]⟩ : ByteArray)).size + e.size ≤ 9223372036854775807 := by (try simp only [size_app, cz4, cz1, cz7, cz5, cz7b, cz4b, cz6]); omega
    have c6a := eq_true q6a; have e6a := decide_eq_true q6a; have f6a := eq_false (Nat.not_lt.2 q6a)
    have q6b : 7 + fr.size + 1 + nm.size + 1 + d.size + 1 + e.size ≤ 9223372036854775807 := by (try simp only [size_app, cz4, cz1, cz7, cz5, cz7b, cz4b, cz6]); omega
    have c6b := eq_true q6b; have e6b := decide_eq_true q6b; have f6b := eq_false (Nat.not_lt.2 q6b)
    clear q0a q1a q1b q2a q2b q3a q3b q4a q4b q5a q5b q6a q6b
    clear hz1 hz2
    go_enter Tryd.func42, Tryd.ntmps42
    go_wp2_with (first
      | (go_at_call 57; (with_reducible refine (nameF.calls gs g l at_ seed A0 A1 c0 c1 N V nm a1 s1 w0 _ ?hL H1.out).mono ?_); (case hL => exact HL.out); rintro e WL1 ⟨rfl, hI, hK⟩; have L1 := Aside0.mk hI; have KB := Aside0.mk (KB.out.trans hK (.inl rfl)); clear hI hK)
      | ((with_reducible refine gate_dst (N := 17) rfl ?_); refine Kd.R_lit Kd.string w0.heap.size 9 ?hg (N := 17) ?hd (w0 := w0) (xs := fresh6) (inner := [.string ⟨#[97]⟩, .string ⟨#[98]⟩, .string ⟨#[110, 101, 119]⟩, .string ⟨#[120]⟩, .string ⟨#[99, 108, 111, 99, 107]⟩, .string ⟨#[81]⟩]) (ok := fun k_ => k_ ≠ gs) (okp := fun _ => False) ?hr ?hp (fun _ hk => hk.elim) ?hf L1.out.bel L1.out.bel.size (by decide) ?_; (case hd => rfl); (case hg => rfl); (case hr => first | (go_simp; done) | (go_simp; rfl)); (case hp => exact reps_fresh6 _); (case hf => have h_ := L1.out.s.lt; omega); intro vL2 WL2 ho hb hg_ hnew_; obtain ⟨bL2, pL2, e_, -, -, -⟩ := Kd.R_form ho (by decide); subst e_; have CL2 := Aside0.mk (Kd.R_reads' ho).2; have FL2 := Aside0.mk (show ∀ ad, (some (⟨bL2, 0, none⟩ : Addr)) = some ad → 0 < fresh6.length → ad.block ≠ gs from (fun ad e_ _ => by (injection e_ with e_; subst e_; exact ho.1 bL2 (by simp [Value.ownBlock])))); have hbl_ := (L1.out.grown hb hg_); have L2 := Aside0.mk hbl_; have KB := Aside0.mk (KB.out.trans (KeepBut.of_grown hg_ gs) (.inl rfl)); clear ho hb hg_ hnew_ hbl_)
      | (go_at_call 58; (with_reducible refine (spec_l00Src_text.calls gs l a1 s1 (some ⟨bL2, 0, none⟩) pL2 fresh6 fr a2 s2 w0 _ ?hI ?hB ?hC ?hc ?hf H2.out).mono ?_); (case hI => exact L2.out.s); (case hB => exact L2.out.bel); (case hC => exact CL2.out.2); (case hc => exact CL2.out.1); (case hf => exact FL2.out); rintro e WL3 ⟨rfl, hI, hB, hK⟩; have L3 := Aside0.mk (L2.out.draw hI hB hK); have KB := Aside0.mk (KB.out.trans hK (.inl rfl)); clear hI hB hK; have zL3 : WL3.cell? ⟨g, 0, none⟩ = some (.slice A0 N.length c0) := (blk_cell L3.out.blk 0).trans rfl)
      | (go_at_call 41; (with_reducible refine (spec_l00Src_pick.calls gs l a2 s2 8 P a3 s3 w0 _ ?hI ?hB H3.out).mono ?_); (case hI => exact L3.out.s); (case hB => exact L3.out.bel); rintro e WL4 ⟨rfl, hI, hB, hK⟩; have L4 := Aside0.mk (L3.out.draw hI hB hK); have KB := Aside0.mk (KB.out.trans hK (.inl rfl)); clear hI hB hK; have zL4 : WL4.cell? ⟨g, 0, none⟩ = some (.slice A0 N.length c0) := (blk_cell L4.out.blk 0).trans rfl)
      | (go_at_call 41; (with_reducible refine (spec_l00Src_pick.calls gs l a3 s3 5 v a4 s4 w0 _ ?hI ?hB H4.out).mono ?_); (case hI => exact L4.out.s); (case hB => exact L4.out.bel); rintro e WL5 ⟨rfl, hI, hB, hK⟩; have L5 := Aside0.mk (L4.out.draw hI hB hK); have KB := Aside0.mk (KB.out.trans hK (.inl rfl)); clear hI hB hK; have zL5 : WL5.cell? ⟨g, 0, none⟩ = some (.slice A0 N.length c0) := (blk_cell L5.out.blk 0).trans rfl)
      | (go_at_call 37; (with_reducible refine (spec_l01Dec.calls K (wrap64 (1 + v)) d _ H5.out).mono ?_); rintro e WL6 ⟨rfl, hb⟩; have L6 := Aside0.mk (L5.out.below hb); have KB := Aside0.mk (KB.out.trans (KeepBut.of_below hb gs none) (.inl rfl)); clear hb)
      | (go_at_call 41; (with_reducible refine (spec_l00Src_pick.calls gs l a4 s4 (wrap64 (wrap64 (1 + v) + 1)) u a5 s5 w0 _ ?hI ?hB H6.out).mono ?_); (case hI => exact L6.out.s); (case hB => exact L6.out.bel); rintro e WL7 ⟨rfl, hI, hB, hK⟩; have L7 := Aside0.mk (L6.out.draw hI hB hK); have KB := Aside0.mk (KB.out.trans hK (.inl rfl)); clear hI hB hK; have zL7 : WL7.cell? ⟨g, 0, none⟩ = some (.slice A0 N.length c0) := (blk_cell L7.out.blk 0).trans rfl)
      | (go_at_call 37; (with_reducible refine (spec_l01Dec.calls K u e _ H7.out).mono ?_); rintro e WL8 ⟨rfl, hb⟩; have L8 := Aside0.mk (L7.out.below hb); have KB := Aside0.mk (KB.out.trans (KeepBut.of_below hb gs none) (.inl rfl)); clear hb))
    go_ret
    exact ⟨by rw [← HR.out]; rfl, L8.out, KB.out⟩
  rw [if_neg p4] at h
  have b4 : (P == 4) = false := beq_eq_false_iff_ne.2 p4
  by_cases p5 : P = 5
  · rw [if_pos p5] at h
    have b5 : (P == 5) = true := beq_iff_eq.2 p5
    replace h := Option.bind_eq_some_iff.1 h
    obtain ⟨⟨o, a4, s4⟩, h4, h⟩ := h
    (try dsimp only at h4 h)
    have H4 := Aside0.mk h4
    clear h4
    replace h := Option.bind_eq_some_iff.1 h
    obtain ⟨⟨v, a5, s5⟩, h5, h⟩ := h
    (try dsimp only at h5 h)
    have H5 := Aside0.mk h5
    clear h5
    replace h := Option.bind_eq_some_iff.1 h
    obtain ⟨d, h6, h⟩ := h
    (try dsimp only at h6 h)
    have H6 := Aside0.mk h6
    clear h6
    have hz3 : o.size ≤ 1000 ∧ d.size ≤ 1000 := Classical.byContradiction (fun z => by rw [if_neg z] at h; cases h)
    rw [if_pos hz3] at h
    obtain ⟨y1, y2⟩ := hz3
    have hr := Option.some.inj h
    simp only [Prod.mk.injEq] at hr
    obtain ⟨hr, rfl, rfl⟩ := hr
    have HR := Aside0.mk hr
    clear h hr
    have q0a : 5 + fr.size ≤ 9223372036854775807 := by (try simp only [size_app, cz4, cz1, cz7, cz5, cz7b, cz4b, cz6]); omega
    have c0a := eq_true q0a; have e0a := decide_eq_true q0a; have f0a := eq_false (Nat.not_lt.2 q0a)
    have q1a : ((⟨#[106, 111, 105, 110, 32]⟩ : ByteArray) ++ fr).size + 1 ≤ 9223372036854775807 := by (try simp only [size_app, cz4, cz1, cz7, cz5, cz7b, cz4b, cz6]); omega
    have c1a := eq_true q1a; have e1a := decide_eq_true q1a; have f1a := eq_false (Nat.not_lt.2 q1a)
    have q1b : 5 + fr.size + 1 ≤ 9223372036854775807 := by (try simp only [size_app, cz4, cz1, cz7, cz5, cz7b, cz4b, cz6]); omega
    have c1b := eq_true q1b; have e1b := decide_eq_true q1b; have f1b := eq_false (Nat.not_lt.2 q1b)
    have q2a : (((⟨#[106, 111, 105, 110, 32]⟩ : ByteArray) ++ fr) ++ (⟨#[32]⟩ : ByteArray)).size + nm.size ≤ 9223372036854775807 := by (try simp only [size_app, cz4, cz1, cz7, cz5, cz7b, cz4b, cz6]); omega
    have c2a := eq_true q2a; have e2a := decide_eq_true q2a; have f2a := eq_false (Nat.not_lt.2 q2a)
    have q2b : 5 + fr.size + 1 + nm.size ≤ 9223372036854775807 := by (try simp only [size_app, cz4, cz1, cz7, cz5, cz7b, cz4b, cz6]); omega
    have c2b := eq_true q2b; have e2b := decide_eq_true q2b; have f2b := eq_false (Nat.not_lt.2 q2b)
    have q3a : ((((⟨#[106, 111, 105, 110, 32]⟩ : ByteArray) ++ fr) ++ (⟨#[32]⟩ : ByteArray)) ++ nm).size + 1 ≤ 9223372036854775807 := by (try simp only [size_app, cz4, cz1, cz7, cz5, cz7b, cz4b, cz6]); omega
    have c3a := eq_true q3a; have e3a := decide_eq_true q3a; have f3a := eq_false (Nat.not_lt.2 q3a)
    have q3b : 5 + fr.size + 1 + nm.size + 1 ≤ 9223372036854775807 := by (try simp only [size_app, cz4, cz1, cz7, cz5, cz7b, cz4b, cz6]); omega
    have c3b := eq_true q3b; have e3b := decide_eq_true q3b; have f3b := eq_false (Nat.not_lt.2 q3b)
    have q4a : (((((⟨#[106, 111, 105, 110, 32]⟩ : ByteArray) ++ fr) ++ (⟨#[32]⟩ : ByteArray)) ++ nm) ++ (⟨#[32]⟩ : ByteArray)).size + o.size ≤ 9223372036854775807 := by (try simp only [size_app, cz4, cz1, cz7, cz5, cz7b, cz4b, cz6]); omega
    have c4a := eq_true q4a; have e4a := decide_eq_true q4a; have f4a := eq_false (Nat.not_lt.2 q4a)
    have q4b : 5 + fr.size + 1 + nm.size + 1 + o.size ≤ 9223372036854775807 := by (try simp only [size_app, cz4, cz1, cz7, cz5, cz7b, cz4b, cz6]); omega
    have c4b := eq_true q4b; have e4b := decide_eq_true q4b; have f4b := eq_false (Nat.not_lt.2 q4b)
    have q5a : ((((((⟨#[106, 111, 105, 110, 32]⟩ : ByteArray) ++ fr) ++ (⟨#[32]⟩ : ByteArray)) ++ nm) ++ (⟨#[32]⟩ : ByteArray)) ++ o).size + 1 ≤ 9223372036854775807 := by (try simp only [size_app, cz4, cz1, cz7, cz5, cz7b, cz4b, cz6]); omega
    have c5a := eq_true q5a; have e5a := decide_eq_true q5a; have f5a := eq_false (Nat.not_lt.2 q5a)
    have q5b : 5 + fr.size + 1 + nm.size + 1 + o.size + 1 ≤ 9223372036854775807 := by (try simp only [size_app, cz4, cz1, cz7, cz5, cz7b, cz4b, cz6]); omega
    have c5b := eq_true q5b; have e5b := decide_eq_true q5b; have f5b := eq_false (Nat.not_lt.2 q5b)
    have q6a : (((((((⟨#[106, 111, 105, 110, 32]⟩ : ByteArray) ++ fr) ++ (⟨#[32]⟩ : ByteArray)) ++ nm) ++ (⟨#[32]⟩ : ByteArray)) ++ o) ++ (⟨#[32]⟩ : ByteArray)).size + d.size ≤ 9223372036854775807 := by (try simp only [size_app, cz4, cz1, cz7, cz5, cz7b, cz4b, cz6]); omega
    have c6a := eq_true q6a; have e6a := decide_eq_true q6a; have f6a := eq_false (Nat.not_lt.2 q6a)
    have q6b : 5 + fr.size + 1 + nm.size + 1 + o.size + 1 + d.size ≤ 9223372036854775807 := by (try simp only [size_app, cz4, cz1, cz7, cz5, cz7b, cz4b, cz6]); omega
    have c6b := eq_true q6b; have e6b := decide_eq_true q6b; have f6b := eq_false (Nat.not_lt.2 q6b)
    clear q0a q1a q1b q2a q2b q3a q3b q4a q4b q5a q5b q6a q6b
    clear hz1 hz2
    go_enter Tryd.func42, Tryd.ntmps42
    go_wp2_with (first
      | (go_at_call 57; (with_reducible refine (nameF.calls gs g l at_ seed A0 A1 c0 c1 N V nm a1 s1 w0 _ ?hL H1.out).mono ?_); (case hL => exact HL.out); rintro e WL1 ⟨rfl, hI, hK⟩; have L1 := Aside0.mk hI; have KB := Aside0.mk (KB.out.trans hK (.inl rfl)); clear hI hK)
      | ((with_reducible refine gate_dst (N := 17) rfl ?_); refine Kd.R_lit Kd.string w0.heap.size 9 ?hg (N := 17) ?hd (w0 := w0) (xs := fresh6) (inner := [.string ⟨#[97]⟩, .string ⟨#[98]⟩, .string ⟨#[110, 101, 119]⟩, .string ⟨#[120]⟩, .string ⟨#[99, 108, 111, 99, 107]⟩, .string ⟨#[81]⟩]) (ok := fun k_ => k_ ≠ gs) (okp := fun _ => False) ?hr ?hp (fun _ hk => hk.elim) ?hf L1.out.bel L1.out.bel.size (by decide) ?_; (case hd => rfl); (case hg => rfl); (case hr => first | (go_simp; done) | (go_simp; rfl)); (case hp => exact reps_fresh6 _); (case hf => have h_ := L1.out.s.lt; omega); intro vL2 WL2 ho hb hg_ hnew_; obtain ⟨bL2, pL2, e_, -, -, -⟩ := Kd.R_form ho (by decide); subst e_; have CL2 := Aside0.mk (Kd.R_reads' ho).2; have FL2 := Aside0.mk (show ∀ ad, (some (⟨bL2, 0, none⟩ : Addr)) = some ad → 0 < fresh6.length → ad.block ≠ gs from (fun ad e_ _ => by (injection e_ with e_; subst e_; exact ho.1 bL2 (by simp [Value.ownBlock])))); have hbl_ := (L1.out.grown hb hg_); have L2 := Aside0.mk hbl_; have KB := Aside0.mk (KB.out.trans (KeepBut.of_grown hg_ gs) (.inl rfl)); clear ho hb hg_ hnew_ hbl_)
      | (go_at_call 58; (with_reducible refine (spec_l00Src_text.calls gs l a1 s1 (some ⟨bL2, 0, none⟩) pL2 fresh6 fr a2 s2 w0 _ ?hI ?hB ?hC ?hc ?hf H2.out).mono ?_); (case hI => exact L2.out.s); (case hB => exact L2.out.bel); (case hC => exact CL2.out.2); (case hc => exact CL2.out.1); (case hf => exact FL2.out); rintro e WL3 ⟨rfl, hI, hB, hK⟩; have L3 := Aside0.mk (L2.out.draw hI hB hK); have KB := Aside0.mk (KB.out.trans hK (.inl rfl)); clear hI hB hK; have zL3 : WL3.cell? ⟨g, 0, none⟩ = some (.slice A0 N.length c0) := (blk_cell L3.out.blk 0).trans rfl)
      | (go_at_call 41; (with_reducible refine (spec_l00Src_pick.calls gs l a2 s2 8 P a3 s3 w0 _ ?hI ?hB H3.out).mono ?_); (case hI => exact L3.out.s); (case hB => exact L3.out.bel); rintro e WL4 ⟨rfl, hI, hB, hK⟩; have L4 := Aside0.mk (L3.out.draw hI hB hK); have KB := Aside0.mk (KB.out.trans hK (.inl rfl)); clear hI hB hK; have zL4 : WL4.cell? ⟨g, 0, none⟩ = some (.slice A0 N.length c0) := (blk_cell L4.out.blk 0).trans rfl)
      | (go_at_call 57; (with_reducible refine (nameF.calls gs g l a3 s3 A0 A1 c0 c1 N V o a4 s4 w0 _ ?hL H4.out).mono ?_); (case hL => exact L4.out); rintro e WL5 ⟨rfl, hI, hK⟩; have L5 := Aside0.mk hI; have KB := Aside0.mk (KB.out.trans hK (.inl rfl)); clear hI hK)
      | (go_at_call 41; (with_reducible refine (spec_l00Src_pick.calls gs l a4 s4 4 v a5 s5 w0 _ ?hI ?hB H5.out).mono ?_); (case hI => exact L5.out.s); (case hB => exact L5.out.bel); rintro e WL6 ⟨rfl, hI, hB, hK⟩; have L6 := Aside0.mk (L5.out.draw hI hB hK); have KB := Aside0.mk (KB.out.trans hK (.inl rfl)); clear hI hB hK; have zL6 : WL6.cell? ⟨g, 0, none⟩ = some (.slice A0 N.length c0) := (blk_cell L6.out.blk 0).trans rfl)
      | (go_at_call 37; (with_reducible refine (spec_l01Dec.calls K v d _ H6.out).mono ?_); rintro e WL7 ⟨rfl, hb⟩; have L7 := Aside0.mk (L6.out.below hb); have KB := Aside0.mk (KB.out.trans (KeepBut.of_below hb gs none) (.inl rfl)); clear hb))
    go_ret
    exact ⟨by rw [← HR.out]; rfl, L7.out, KB.out⟩
  rw [if_neg p5] at h
  have b5 : (P == 5) = false := beq_eq_false_iff_ne.2 p5
  by_cases p6 : P = 6
  · rw [if_pos p6] at h
    have b6 : (P == 6) = true := beq_iff_eq.2 p6
    replace h := Option.bind_eq_some_iff.1 h
    obtain ⟨⟨o, a4, s4⟩, h4, h⟩ := h
    (try dsimp only at h4 h)
    have H4 := Aside0.mk h4
    clear h4
    replace h := Option.bind_eq_some_iff.1 h
    obtain ⟨⟨t, a5, s5⟩, h5, h⟩ := h
    (try dsimp only at h5 h)
    have H5 := Aside0.mk h5
    clear h5
    have hz3 : o.size ≤ 1000 ∧ t.size ≤ 1000 := Classical.byContradiction (fun z => by rw [if_neg z] at h; cases h)
    rw [if_pos hz3] at h
    obtain ⟨y1, y2⟩ := hz3
    have hr := Option.some.inj h
    simp only [Prod.mk.injEq] at hr
    obtain ⟨hr, rfl, rfl⟩ := hr
    have HR := Aside0.mk hr
    clear h hr
    have q0a : 7 + fr.size ≤ 9223372036854775807 := by (try simp only [size_app, cz4, cz1, cz7, cz5, cz7b, cz4b, cz6]); omega
    have c0a := eq_true q0a; have e0a := decide_eq_true q0a; have f0a := eq_false (Nat.not_lt.2 q0a)
    have q1a : ((⟨#[115, 119, 105, 116, 99, 104, 32]⟩ : ByteArray) ++ fr).size + 1 ≤ 9223372036854775807 := by (try simp only [size_app, cz4, cz1, cz7, cz5, cz7b, cz4b, cz6]); omega
    have c1a := eq_true q1a; have e1a := decide_eq_true q1a; have f1a := eq_false (Nat.not_lt.2 q1a)
    have q1b : 7 + fr.size + 1 ≤ 9223372036854775807 := by (try simp only [size_app, cz4, cz1, cz7, cz5, cz7b, cz4b, cz6]); omega
    have c1b := eq_true q1b; have e1b := decide_eq_true q1b; have f1b := eq_false (Nat.not_lt.2 q1b)
    have q2a : (((⟨#[115, 119, 105, 116, 99, 104, 32]⟩ : ByteArray) ++ fr) ++ (⟨#[32]⟩ : ByteArray)).size + nm.size ≤ 9223372036854775807 := by (try simp only [size_app, cz4, cz1, cz7, cz5, cz7b, cz4b, cz6]); omega
    have c2a := eq_true q2a; have e2a := decide_eq_true q2a; have f2a := eq_false (Nat.not_lt.2 q2a)
    have q2b : 7 + fr.size + 1 + nm.size ≤ 9223372036854775807 := by (try simp only [size_app, cz4, cz1, cz7, cz5, cz7b, cz4b, cz6]); omega
    have c2b := eq_true q2b; have e2b := decide_eq_true q2b; have f2b := eq_false (Nat.not_lt.2 q2b)
    have q3a : ((((⟨#[115, 119, 105, 116, 99, 104, 32]⟩ : ByteArray) ++ fr) ++ (⟨#[32]⟩ : ByteArray)) ++ nm).size + 1 ≤ 9223372036854775807 := by (try simp only [size_app, cz4, cz1, cz7, cz5, cz7b, cz4b, cz6]); omega
    have c3a := eq_true q3a; have e3a := decide_eq_true q3a; have f3a := eq_false (Nat.not_lt.2 q3a)
    have q3b : 7 + fr.size + 1 + nm.size + 1 ≤ 9223372036854775807 := by (try simp only [size_app, cz4, cz1, cz7, cz5, cz7b, cz4b, cz6]); omega
    have c3b := eq_true q3b; have e3b := decide_eq_true q3b; have f3b := eq_false (Nat.not_lt.2 q3b)
    have q4a : (((((⟨#[115, 119, 105, 116, 99, 104, 32]⟩ : ByteArray) ++ fr) ++ (⟨#[32]⟩ : ByteArray)) ++ nm) ++ (⟨#[32]⟩ : ByteArray)).size + o.size ≤ 9223372036854775807 := by (try simp only [size_app, cz4, cz1, cz7, cz5, cz7b, cz4b, cz6]); omega
    have c4a := eq_true q4a; have e4a := decide_eq_true q4a; have f4a := eq_false (Nat.not_lt.2 q4a)
    have q4b : 7 + fr.size + 1 + nm.size + 1 + o.size ≤ 9223372036854775807 := by (try simp only [size_app, cz4, cz1, cz7, cz5, cz7b, cz4b, cz6]); omega
    have c4b := eq_true q4b; have e4b := decide_eq_true q4b; have f4b := eq_false (Nat.not_lt.2 q4b)
    have q5a : ((((((⟨#[115, 119, 105, 116, 99, 104, 32]⟩ : ByteArray) ++ fr) ++ (⟨#[32]⟩ : ByteArray)) ++ nm) ++ (⟨#[32]⟩ : ByteArray)) ++ o).size + 1 ≤ 9223372036854775807 := by (try simp only [size_app, cz4, cz1, cz7, cz5, cz7b, cz4b, cz6]); omega
    have c5a := eq_true q5a; have e5a := decide_eq_true q5a; have f5a := eq_false (Nat.not_lt.2 q5a)
    have q5b : 7 + fr.size + 1 + nm.size + 1 + o.size + 1 ≤ 9223372036854775807 := by (try simp only [size_app, cz4, cz1, cz7, cz5, cz7b, cz4b, cz6]); omega
    have c5b := eq_true q5b; have e5b := decide_eq_true q5b; have f5b := eq_false (Nat.not_lt.2 q5b)
    have q6a : (((((((⟨#[115, 119, 105, 116, 99, 104, 32]⟩ : ByteArray) ++ fr) ++ (⟨#[32]⟩ : ByteArray)) ++ nm) ++ (⟨#[32]⟩ : ByteArray)) ++ o) ++ (⟨#[32]⟩ : ByteArray)).size + t.size ≤ 9223372036854775807 := by (try simp only [size_app, cz4, cz1, cz7, cz5, cz7b, cz4b, cz6]); omega
    have c6a := eq_true q6a; have e6a := decide_eq_true q6a; have f6a := eq_false (Nat.not_lt.2 q6a)
    have q6b : 7 + fr.size + 1 + nm.size + 1 + o.size + 1 + t.size ≤ 9223372036854775807 := by (try simp only [size_app, cz4, cz1, cz7, cz5, cz7b, cz4b, cz6]); omega
    have c6b := eq_true q6b; have e6b := decide_eq_true q6b; have f6b := eq_false (Nat.not_lt.2 q6b)
    clear q0a q1a q1b q2a q2b q3a q3b q4a q4b q5a q5b q6a q6b
    clear hz1 hz2
    go_enter Tryd.func42, Tryd.ntmps42
    go_wp2_with (first
      | (go_at_call 57; (with_reducible refine (nameF.calls gs g l at_ seed A0 A1 c0 c1 N V nm a1 s1 w0 _ ?hL H1.out).mono ?_); (case hL => exact HL.out); rintro e WL1 ⟨rfl, hI, hK⟩; have L1 := Aside0.mk hI; have KB := Aside0.mk (KB.out.trans hK (.inl rfl)); clear hI hK)
      | ((with_reducible refine gate_dst (N := 17) rfl ?_); refine Kd.R_lit Kd.string w0.heap.size 9 ?hg (N := 17) ?hd (w0 := w0) (xs := fresh6) (inner := [.string ⟨#[97]⟩, .string ⟨#[98]⟩, .string ⟨#[110, 101, 119]⟩, .string ⟨#[120]⟩, .string ⟨#[99, 108, 111, 99, 107]⟩, .string ⟨#[81]⟩]) (ok := fun k_ => k_ ≠ gs) (okp := fun _ => False) ?hr ?hp (fun _ hk => hk.elim) ?hf L1.out.bel L1.out.bel.size (by decide) ?_; (case hd => rfl); (case hg => rfl); (case hr => first | (go_simp; done) | (go_simp; rfl)); (case hp => exact reps_fresh6 _); (case hf => have h_ := L1.out.s.lt; omega); intro vL2 WL2 ho hb hg_ hnew_; obtain ⟨bL2, pL2, e_, -, -, -⟩ := Kd.R_form ho (by decide); subst e_; have CL2 := Aside0.mk (Kd.R_reads' ho).2; have FL2 := Aside0.mk (show ∀ ad, (some (⟨bL2, 0, none⟩ : Addr)) = some ad → 0 < fresh6.length → ad.block ≠ gs from (fun ad e_ _ => by (injection e_ with e_; subst e_; exact ho.1 bL2 (by simp [Value.ownBlock])))); have hbl_ := (L1.out.grown hb hg_); have L2 := Aside0.mk hbl_; have KB := Aside0.mk (KB.out.trans (KeepBut.of_grown hg_ gs) (.inl rfl)); clear ho hb hg_ hnew_ hbl_)
      | (go_at_call 58; (with_reducible refine (spec_l00Src_text.calls gs l a1 s1 (some ⟨bL2, 0, none⟩) pL2 fresh6 fr a2 s2 w0 _ ?hI ?hB ?hC ?hc ?hf H2.out).mono ?_); (case hI => exact L2.out.s); (case hB => exact L2.out.bel); (case hC => exact CL2.out.2); (case hc => exact CL2.out.1); (case hf => exact FL2.out); rintro e WL3 ⟨rfl, hI, hB, hK⟩; have L3 := Aside0.mk (L2.out.draw hI hB hK); have KB := Aside0.mk (KB.out.trans hK (.inl rfl)); clear hI hB hK; have zL3 : WL3.cell? ⟨g, 0, none⟩ = some (.slice A0 N.length c0) := (blk_cell L3.out.blk 0).trans rfl)
      | (go_at_call 41; (with_reducible refine (spec_l00Src_pick.calls gs l a2 s2 8 P a3 s3 w0 _ ?hI ?hB H3.out).mono ?_); (case hI => exact L3.out.s); (case hB => exact L3.out.bel); rintro e WL4 ⟨rfl, hI, hB, hK⟩; have L4 := Aside0.mk (L3.out.draw hI hB hK); have KB := Aside0.mk (KB.out.trans hK (.inl rfl)); clear hI hB hK; have zL4 : WL4.cell? ⟨g, 0, none⟩ = some (.slice A0 N.length c0) := (blk_cell L4.out.blk 0).trans rfl)
      | (go_at_call 57; (with_reducible refine (nameF.calls gs g l a3 s3 A0 A1 c0 c1 N V o a4 s4 w0 _ ?hL H4.out).mono ?_); (case hL => exact L4.out); rintro e WL5 ⟨rfl, hI, hK⟩; have L5 := Aside0.mk hI; have KB := Aside0.mk (KB.out.trans hK (.inl rfl)); clear hI hK)
      | (go_at_call 57; (with_reducible refine (nameF.calls gs g l a4 s4 A0 A1 c0 c1 N V t a5 s5 w0 _ ?hL H5.out).mono ?_); (case hL => exact L5.out); rintro e WL6 ⟨rfl, hI, hK⟩; have L6 := Aside0.mk hI; have KB := Aside0.mk (KB.out.trans hK (.inl rfl)); clear hI hK))
    go_ret
    exact ⟨by rw [← HR.out]; rfl, L6.out, KB.out⟩
  rw [if_neg p6] at h
  have b6 : (P == 6) = false := beq_eq_false_iff_ne.2 p6
  replace h := Option.bind_eq_some_iff.1 h
  obtain ⟨⟨o, a4, s4⟩, h4, h⟩ := h
  (try dsimp only at h4 h)
  have H4 := Aside0.mk h4
  clear h4
  cases o with
  | true =>
    simp only [if_true] at h
    have hr := Option.some.inj h
    simp only [Prod.mk.injEq] at hr
    obtain ⟨hr, rfl, rfl⟩ := hr
    have HR := Aside0.mk hr
    clear h hr
    have q0a : 4 + fr.size ≤ 9223372036854775807 := by (try simp only [size_app, cz4, cz1, cz7, cz5, cz7b, cz4b, cz6]); omega
    have c0a := eq_true q0a; have e0a := decide_eq_true q0a; have f0a := eq_false (Nat.not_lt.2 q0a)
    have q1a : ((⟨#[110, 111, 116, 32]⟩ : ByteArray) ++ fr).size + 1 ≤ 9223372036854775807 := by (try simp only [size_app, cz4, cz1, cz7, cz5, cz7b, cz4b, cz6]); omega
    have c1a := eq_true q1a; have e1a := decide_eq_true q1a; have f1a := eq_false (Nat.not_lt.2 q1a)
    have q1b : 4 + fr.size + 1 ≤ 9223372036854775807 := by (try simp only [size_app, cz4, cz1, cz7, cz5, cz7b, cz4b, cz6]); omega
    have c1b := eq_true q1b; have e1b := decide_eq_true q1b; have f1b := eq_false (Nat.not_lt.2 q1b)
    have q2a : (((⟨#[110, 111, 116, 32]⟩ : ByteArray) ++ fr) ++ (⟨#[32]⟩ : ByteArray)).size + nm.size ≤ 9223372036854775807 := by (try simp only [size_app, cz4, cz1, cz7, cz5, cz7b, cz4b, cz6]); omega
    have c2a := eq_true q2a; have e2a := decide_eq_true q2a; have f2a := eq_false (Nat.not_lt.2 q2a)
    have q2b : 4 + fr.size + 1 + nm.size ≤ 9223372036854775807 := by (try simp only [size_app, cz4, cz1, cz7, cz5, cz7b, cz4b, cz6]); omega
    have c2b := eq_true q2b; have e2b := decide_eq_true q2b; have f2b := eq_false (Nat.not_lt.2 q2b)
    clear q0a q1a q1b q2a q2b
    clear hz1 hz2
    go_enter Tryd.func42, Tryd.ntmps42
    go_wp2_with (first
      | (go_at_call 57; (with_reducible refine (nameF.calls gs g l at_ seed A0 A1 c0 c1 N V nm a1 s1 w0 _ ?hL H1.out).mono ?_); (case hL => exact HL.out); rintro e WL1 ⟨rfl, hI, hK⟩; have L1 := Aside0.mk hI; have KB := Aside0.mk (KB.out.trans hK (.inl rfl)); clear hI hK)
      | ((with_reducible refine gate_dst (N := 17) rfl ?_); refine Kd.R_lit Kd.string w0.heap.size 9 ?hg (N := 17) ?hd (w0 := w0) (xs := fresh6) (inner := [.string ⟨#[97]⟩, .string ⟨#[98]⟩, .string ⟨#[110, 101, 119]⟩, .string ⟨#[120]⟩, .string ⟨#[99, 108, 111, 99, 107]⟩, .string ⟨#[81]⟩]) (ok := fun k_ => k_ ≠ gs) (okp := fun _ => False) ?hr ?hp (fun _ hk => hk.elim) ?hf L1.out.bel L1.out.bel.size (by decide) ?_; (case hd => rfl); (case hg => rfl); (case hr => first | (go_simp; done) | (go_simp; rfl)); (case hp => exact reps_fresh6 _); (case hf => have h_ := L1.out.s.lt; omega); intro vL2 WL2 ho hb hg_ hnew_; obtain ⟨bL2, pL2, e_, -, -, -⟩ := Kd.R_form ho (by decide); subst e_; have CL2 := Aside0.mk (Kd.R_reads' ho).2; have FL2 := Aside0.mk (show ∀ ad, (some (⟨bL2, 0, none⟩ : Addr)) = some ad → 0 < fresh6.length → ad.block ≠ gs from (fun ad e_ _ => by (injection e_ with e_; subst e_; exact ho.1 bL2 (by simp [Value.ownBlock])))); have hbl_ := (L1.out.grown hb hg_); have L2 := Aside0.mk hbl_; have KB := Aside0.mk (KB.out.trans (KeepBut.of_grown hg_ gs) (.inl rfl)); clear ho hb hg_ hnew_ hbl_)
      | (go_at_call 58; (with_reducible refine (spec_l00Src_text.calls gs l a1 s1 (some ⟨bL2, 0, none⟩) pL2 fresh6 fr a2 s2 w0 _ ?hI ?hB ?hC ?hc ?hf H2.out).mono ?_); (case hI => exact L2.out.s); (case hB => exact L2.out.bel); (case hC => exact CL2.out.2); (case hc => exact CL2.out.1); (case hf => exact FL2.out); rintro e WL3 ⟨rfl, hI, hB, hK⟩; have L3 := Aside0.mk (L2.out.draw hI hB hK); have KB := Aside0.mk (KB.out.trans hK (.inl rfl)); clear hI hB hK; have zL3 : WL3.cell? ⟨g, 0, none⟩ = some (.slice A0 N.length c0) := (blk_cell L3.out.blk 0).trans rfl)
      | (go_at_call 41; (with_reducible refine (spec_l00Src_pick.calls gs l a2 s2 8 P a3 s3 w0 _ ?hI ?hB H3.out).mono ?_); (case hI => exact L3.out.s); (case hB => exact L3.out.bel); rintro e WL4 ⟨rfl, hI, hB, hK⟩; have L4 := Aside0.mk (L3.out.draw hI hB hK); have KB := Aside0.mk (KB.out.trans hK (.inl rfl)); clear hI hB hK; have zL4 : WL4.cell? ⟨g, 0, none⟩ = some (.slice A0 N.length c0) := (blk_cell L4.out.blk 0).trans rfl)
      | (go_at_call 61; (with_reducible refine (spec_l00Src_one.calls gs l a3 s3 2 true a4 s4 w0 _ ?hI ?hB H4.out).mono ?_); (case hI => exact L4.out.s); (case hB => exact L4.out.bel); rintro e WL5 ⟨rfl, hI, hB, hK⟩; have L5 := Aside0.mk (L4.out.draw hI hB hK); have KB := Aside0.mk (KB.out.trans hK (.inl rfl)); clear hI hB hK; have zL5 : WL5.cell? ⟨g, 0, none⟩ = some (.slice A0 N.length c0) := (blk_cell L5.out.blk 0).trans rfl))
    go_ret
    exact ⟨by rw [← HR.out]; rfl, L5.out, KB.out⟩
  | false =>
    simp only [Bool.false_eq_true, if_false] at h
    replace h := Option.bind_eq_some_iff.1 h
    obtain ⟨⟨v, a5, s5⟩, h5, h⟩ := h
    (try dsimp only at h5 h)
    have H5 := Aside0.mk h5
    clear h5
    replace h := Option.bind_eq_some_iff.1 h
    obtain ⟨d, h6, h⟩ := h
    (try dsimp only at h6 h)
    have H6 := Aside0.mk h6
    clear h6
    have hz3 : d.size ≤ 1000 := Classical.byContradiction (fun z => by rw [if_neg z] at h; cases h)
    rw [if_pos hz3] at h
    have hr := Option.some.inj h
    simp only [Prod.mk.injEq] at hr
    obtain ⟨hr, rfl, rfl⟩ := hr
    have HR := Aside0.mk hr
    clear h hr
    have q0a : 6 + nm.size ≤ 9223372036854775807 := by (try simp only [size_app, cz4, cz1, cz7, cz5, cz7b, cz4b, cz6]); omega
    have c0a := eq_true q0a; have e0a := decide_eq_true q0a; have f0a := eq_false (Nat.not_lt.2 q0a)
    have q1a : ((⟨#[99, 111, 117, 110, 116, 32]⟩ : ByteArray) ++ nm).size + 1 ≤ 9223372036854775807 := by (try simp only [size_app, cz4, cz1, cz7, cz5, cz7b, cz4b, cz6]); omega
    have c1a := eq_true q1a; have e1a := decide_eq_true q1a; have f1a := eq_false (Nat.not_lt.2 q1a)
    have q1b : 6 + nm.size + 1 ≤ 9223372036854775807 := by (try simp only [size_app, cz4, cz1, cz7, cz5, cz7b, cz4b, cz6]); omega
    have c1b := eq_true q1b; have e1b := decide_eq_true q1b; have f1b := eq_false (Nat.not_lt.2 q1b)
    have q2a : (((⟨#[99, 111, 117, 110, 116, 32]⟩ : ByteArray) ++ nm) ++ (⟨#[32]⟩ : ByteArray)).size + d.size ≤ 9223372036854775807 := by (try simp only [size_app, cz4, cz1, cz7, cz5, cz7b, cz4b, cz6]); omega
    have c2a := eq_true q2a; have e2a := decide_eq_true q2a; have f2a := eq_false (Nat.not_lt.2 q2a)
    have q2b : 6 + nm.size + 1 + d.size ≤ 9223372036854775807 := by (try simp only [size_app, cz4, cz1, cz7, cz5, cz7b, cz4b, cz6]); omega
    have c2b := eq_true q2b; have e2b := decide_eq_true q2b; have f2b := eq_false (Nat.not_lt.2 q2b)
    clear q0a q1a q1b q2a q2b
    clear hz1 hz2
    go_enter Tryd.func42, Tryd.ntmps42
    go_wp2_with (first
      | (go_at_call 57; (with_reducible refine (nameF.calls gs g l at_ seed A0 A1 c0 c1 N V nm a1 s1 w0 _ ?hL H1.out).mono ?_); (case hL => exact HL.out); rintro e WL1 ⟨rfl, hI, hK⟩; have L1 := Aside0.mk hI; have KB := Aside0.mk (KB.out.trans hK (.inl rfl)); clear hI hK)
      | ((with_reducible refine gate_dst (N := 17) rfl ?_); refine Kd.R_lit Kd.string w0.heap.size 9 ?hg (N := 17) ?hd (w0 := w0) (xs := fresh6) (inner := [.string ⟨#[97]⟩, .string ⟨#[98]⟩, .string ⟨#[110, 101, 119]⟩, .string ⟨#[120]⟩, .string ⟨#[99, 108, 111, 99, 107]⟩, .string ⟨#[81]⟩]) (ok := fun k_ => k_ ≠ gs) (okp := fun _ => False) ?hr ?hp (fun _ hk => hk.elim) ?hf L1.out.bel L1.out.bel.size (by decide) ?_; (case hd => rfl); (case hg => rfl); (case hr => first | (go_simp; done) | (go_simp; rfl)); (case hp => exact reps_fresh6 _); (case hf => have h_ := L1.out.s.lt; omega); intro vL2 WL2 ho hb hg_ hnew_; obtain ⟨bL2, pL2, e_, -, -, -⟩ := Kd.R_form ho (by decide); subst e_; have CL2 := Aside0.mk (Kd.R_reads' ho).2; have FL2 := Aside0.mk (show ∀ ad, (some (⟨bL2, 0, none⟩ : Addr)) = some ad → 0 < fresh6.length → ad.block ≠ gs from (fun ad e_ _ => by (injection e_ with e_; subst e_; exact ho.1 bL2 (by simp [Value.ownBlock])))); have hbl_ := (L1.out.grown hb hg_); have L2 := Aside0.mk hbl_; have KB := Aside0.mk (KB.out.trans (KeepBut.of_grown hg_ gs) (.inl rfl)); clear ho hb hg_ hnew_ hbl_)
      | (go_at_call 58; (with_reducible refine (spec_l00Src_text.calls gs l a1 s1 (some ⟨bL2, 0, none⟩) pL2 fresh6 fr a2 s2 w0 _ ?hI ?hB ?hC ?hc ?hf H2.out).mono ?_); (case hI => exact L2.out.s); (case hB => exact L2.out.bel); (case hC => exact CL2.out.2); (case hc => exact CL2.out.1); (case hf => exact FL2.out); rintro e WL3 ⟨rfl, hI, hB, hK⟩; have L3 := Aside0.mk (L2.out.draw hI hB hK); have KB := Aside0.mk (KB.out.trans hK (.inl rfl)); clear hI hB hK; have zL3 : WL3.cell? ⟨g, 0, none⟩ = some (.slice A0 N.length c0) := (blk_cell L3.out.blk 0).trans rfl)
      | (go_at_call 41; (with_reducible refine (spec_l00Src_pick.calls gs l a2 s2 8 P a3 s3 w0 _ ?hI ?hB H3.out).mono ?_); (case hI => exact L3.out.s); (case hB => exact L3.out.bel); rintro e WL4 ⟨rfl, hI, hB, hK⟩; have L4 := Aside0.mk (L3.out.draw hI hB hK); have KB := Aside0.mk (KB.out.trans hK (.inl rfl)); clear hI hB hK; have zL4 : WL4.cell? ⟨g, 0, none⟩ = some (.slice A0 N.length c0) := (blk_cell L4.out.blk 0).trans rfl)
      | (go_at_call 61; (with_reducible refine (spec_l00Src_one.calls gs l a3 s3 2 false a4 s4 w0 _ ?hI ?hB H4.out).mono ?_); (case hI => exact L4.out.s); (case hB => exact L4.out.bel); rintro e WL5 ⟨rfl, hI, hB, hK⟩; have L5 := Aside0.mk (L4.out.draw hI hB hK); have KB := Aside0.mk (KB.out.trans hK (.inl rfl)); clear hI hB hK; have zL5 : WL5.cell? ⟨g, 0, none⟩ = some (.slice A0 N.length c0) := (blk_cell L5.out.blk 0).trans rfl)
      | (go_at_call 41; (with_reducible refine (spec_l00Src_pick.calls gs l a4 s4 9 v a5 s5 w0 _ ?hI ?hB H5.out).mono ?_); (case hI => exact L5.out.s); (case hB => exact L5.out.bel); rintro e WL6 ⟨rfl, hI, hB, hK⟩; have L6 := Aside0.mk (L5.out.draw hI hB hK); have KB := Aside0.mk (KB.out.trans hK (.inl rfl)); clear hI hB hK; have zL6 : WL6.cell? ⟨g, 0, none⟩ = some (.slice A0 N.length c0) := (blk_cell L6.out.blk 0).trans rfl)
      | (go_at_call 37; (with_reducible refine (spec_l01Dec.calls K (wrap64 (1 + v)) d _ H6.out).mono ?_); rintro e WL7 ⟨rfl, hb⟩; have L7 := Aside0.mk (L6.out.below hb); have KB := Aside0.mk (KB.out.trans (KeepBut.of_below hb gs none) (.inl rfl)); clear hb))
    go_ret
    exact ⟨by rw [← HR.out]; rfl, L7.out, KB.out⟩
end Go.Proofs.YtjpjlobpglmoiaaDoor.A
