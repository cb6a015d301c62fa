/- Texts of this claim, put together by this session's pack2.py: each part is introduced by its own comment. No conditions. -/
import Derived.Test.YtgmnbpdfdagniaaZ29
import Derived.Test.YtgmnbpdfdagniaaK5
import Derived.Test.YtgmnbpdfdagniaaZ0
import Derived.Test.YtgmnbpdfdagniaaHash
import Derived.Test.YtgmnbpdfdagniaaZ32
/- The link: the program's node and the reference's state answer alike, step by step. No conditions. -/
namespace Go.Proofs.Ytgmnbpdfdagniaa.A
open Go.RowKit Go.Proofs.YtgmnbpdfdagniaaW.PrintWords Go.Proofs.YtgmnbpdfdagniaaW.PrintLast Go.Proofs.YtgmnbpdfdagniaaW.PrintMore
set_option linter.unusedVariables false
set_option linter.unusedSimpArgs false
def rowK (sg a b : Int) : Int := if sg = 0 then 0 else if sg = 1 then a else a + 2 * b
def Bit (a : Int) : Prop := a = 0 ∨ a = 1
structure LOk (l : Lnk) : Prop where
  ph : l.ph = 2 ∨ l.ph = 4
  sg : l.sg = 0 ∨ l.sg = 1 ∨ l.sg = 2
  sk : 0 ≤ l.sk ∧ l.sk ≤ 2
  wd : 0 ≤ l.wd ∧ l.wd ≤ 4
theorem sees_sim {sg a b set : Int} (hs : sg = 0 ∨ sg = 1 ∨ sg = 2) (ha : Bit a) (hb : Bit b) (hset : Bit set) :
    ∃ v, Bit v ∧ (if sg = 0 then some set else if sg = 1 then some a else if sg = 2 then some b else none) = some v ∧ spec_l05Seen.f sg (rowK sg a b) set = some (v, rowK sg set a) := by
  rcases hs with rfl | rfl | rfl <;> rcases ha with rfl | rfl <;> rcases hb with rfl | rfl <;> rcases hset with rfl | rfl <;>
    first | exact ⟨0, .inl rfl, by decide, by decide⟩ | exact ⟨1, .inr rfl, by decide, by decide⟩ | exact ⟨0, .inl rfl, by rfl, by kernel_rfl⟩ | exact ⟨1, .inr rfl, by rfl, by kernel_rfl⟩
/-- A node and a state are alike, but for the side of the last steps. -/
structure R0 (l : Lnk) (x : LN) (y : S57) : Prop where
  e0 : y.f0 = x.req
  e1 : y.f1 = x.ans
  e2 : y.f2 = x.sent
  e3 : y.f3 = x.plc
  e4 : y.f4 = if x.ow = true then l.sk - x.gone else 0
  e5 : y.f5 = if x.ow = true then x.word else 0
  e6 : y.f6 = rowK l.sg x.s0 x.s1
  e7 : y.f7 = rowK l.sg x.r0 x.r1
  e8 : y.f8 = x.taken
  e9 : y.f9 = 0
  b0 : Bit x.req
  b1 : Bit x.ans
  b2 : Bit x.s0
  b3 : Bit x.s1
  b4 : Bit x.r0
  b5 : Bit x.r1
  n0 : 0 ≤ x.sent ∧ x.sent ≤ l.wd
  n1 : -1 ≤ x.plc ∧ x.plc ≤ 3
  n2 : x.ow = true → 0 ≤ x.gone ∧ x.gone < l.sk
  n3 : 0 ≤ x.word ∧ x.word ≤ 3
  n4 : 0 ≤ x.gone ∧ x.gone ≤ 2
  n5 : 0 ≤ x.taken ∧ x.taken ≤ l.wd
theorem small64 {a : Int} (h1 : -1000 ≤ a) (h2 : a ≤ 1000) : wrap64 a = a := by unfold wrap64; omega
theorem way_sim {l : Lnk} {x : LN} {y : S57} (hl : LOk l) (h : R0 l x y) (s : Int) :
    ∃ z t, wayN l x = z ∧ nearer { y with f6 := s } = t ∧ R0 l { z with s0 := x.s0 } { t with f6 := y.f6 } ∧ t.f6 = s ∧ z.req = x.req ∧ z.ans = x.ans ∧ z.sent = x.sent ∧ z.taken = x.taken ∧ z.s0 = x.s0 ∧ z.s1 = x.s1 ∧ z.r0 = x.r0 ∧ z.r1 = x.r1 ∧ z.last = x.last ∧ z.run = x.run ∧ t.f10 = y.f10 ∧ t.f11 = y.f11 ∧ t.f0 = y.f0 ∧ t.f2 = y.f2 := by
  refine ⟨_, _, rfl, rfl, ?_⟩
  have hw1 : wrap64 (x.gone + 1) = x.gone + 1 := small64 (by have := h.n4; omega) (by have := h.n4; omega)
  unfold wayN nearer
  dsimp only
  by_cases how : x.ow = true
  · have hn2 := h.n2 how
    have e4 := h.e4
    have e5 := h.e5
    rw [if_pos how] at e4 e5
    have hw2 : wrap64 (y.f4 - 1) = y.f4 - 1 := small64 (by have := hl.sk; omega) (by have := hl.sk; omega)
    rw [if_pos how, if_pos (show 0 < y.f4 by omega), hw1, hw2]
    by_cases hk : x.gone + 1 = l.sk
    · rw [if_pos hk, if_pos (show y.f4 - 1 = 0 by omega)]
      refine ⟨⟨h.e0, h.e1, h.e2, e5, by simp, by simp, h.e6, h.e7, h.e8, h.e9, h.b0, h.b1, h.b2, h.b3, h.b4, h.b5, h.n0, by have := h.n3; dsimp only; omega, by simp, by simp, by simp, h.n5⟩, rfl, rfl, rfl, rfl, rfl, rfl, rfl, rfl, rfl, rfl, rfl, rfl, rfl, rfl, rfl⟩
    · rw [if_neg hk, if_neg (show ¬ y.f4 - 1 = 0 by omega)]
      refine ⟨⟨h.e0, h.e1, h.e2, h.e3, by dsimp only; rw [if_pos how]; omega, by dsimp only; rw [if_pos how]; exact e5, h.e6, h.e7, h.e8, h.e9, h.b0, h.b1, h.b2, h.b3, h.b4, h.b5, h.n0, h.n1, by dsimp only; intro _; omega, h.n3, by dsimp only; have := hl.sk; omega, h.n5⟩, rfl, rfl, rfl, rfl, rfl, rfl, rfl, rfl, rfl, rfl, rfl, rfl, rfl, rfl, rfl⟩
  · have e4 := h.e4
    rw [if_neg how] at e4
    rw [if_neg how, if_neg (show ¬ 0 < y.f4 by omega)]
    refine ⟨⟨h.e0, h.e1, h.e2, h.e3, h.e4, h.e5, h.e6, h.e7, h.e8, h.e9, h.b0, h.b1, h.b2, h.b3, h.b4, h.b5, h.n0, h.n1, h.n2, h.n3, h.n4, h.n5⟩, rfl, rfl, rfl, rfl, rfl, rfl, rfl, rfl, rfl, rfl, rfl, rfl, rfl, rfl, rfl⟩
theorem send_sim {l : Lnk} {x : LN} {y : S57} (hl : LOk l) (h : R0 l x y) :
    ∃ x' y', stepS l x = some x' ∧ sendF l y = some y' ∧ R0 l x' y' ∧ x'.last = x.last ∧ x'.run = x.run ∧ x'.taken = x.taken ∧ y'.f10 = y.f10 ∧ y'.f11 = y.f11 := by
  obtain ⟨v, hv, h1, h2⟩ := sees_sim hl.sg h.b2 h.b3 h.b1
  have e1 : seesF l x.s0 x.s1 x.ans = some v := h1
  have e2 : spec_l05Seen.f l.sg y.f6 y.f1 = some (v, rowK l.sg x.ans x.s0) := by rw [h.e6, h.e1]; exact h2
  unfold stepS sendF
  rw [e1, e2]
  simp only [Option.bind_some]
  obtain ⟨z, t, hz, ht, hR, t6, q0, q1, q2, q3, q4, q5, q6, q7, q8, q9, p0, p1, p2, p3⟩ := way_sim hl h (rowK l.sg x.ans x.s0)
  rw [hz, ht]
  have hw1 : wrap64 (1 - z.req) = 1 - z.req := small64 (by have := h.b0; unfold Bit at this; omega) (by have := h.b0; unfold Bit at this; omega)
  have hw2 : wrap64 (z.sent + 1) = z.sent + 1 := small64 (by have := h.n0; omega) (by have := h.n0; have := hl.wd; omega)
  have hb0 := h.b0
  have r0 : R0 l { z with s0 := x.ans, s1 := x.s0 } t :=
    ⟨hR.e0, hR.e1, hR.e2, hR.e3, hR.e4, hR.e5, t6, hR.e7, hR.e8, hR.e9, hR.b0, hR.b1, h.b1, h.b2, hR.b4, hR.b5, hR.n0, hR.n1, hR.n2, hR.n3, hR.n4, hR.n5⟩
  rw [h.e0, h.e2, ← q0, ← q2]
  have hn0 := r0.n0
  dsimp only at hn0
  unfold Bit at hb0 hv
  rw [← q0] at hb0
  have hsend : ∀ (rq : Int), Bit rq → R0 l { sendN l { z with req := rq } with s0 := x.ans, s1 := x.s0 } (if l.sk = 0 then { t with f0 := rq, f3 := z.sent, f2 := wrap64 (z.sent + 1) } else { t with f0 := rq, f4 := l.sk, f5 := z.sent, f2 := wrap64 (z.sent + 1) }) ∨ ¬ z.sent < l.wd := by
    intro rq hrq
    by_cases hlt : z.sent < l.wd
    · left
      unfold sendN
      by_cases hk : l.sk = 0
      · rw [if_pos hk, if_pos hk]
        have how : ¬ z.ow = true := fun how => by have := hR.n2 how; dsimp only at this; omega
        exact ⟨rfl, r0.e1, rfl, rfl, r0.e4, r0.e5, r0.e6, r0.e7, r0.e8, r0.e9, hrq, r0.b1, r0.b2, r0.b3, r0.b4, r0.b5, by dsimp only; rw [hw2]; omega, by dsimp only; have := hl.wd; omega, fun e => absurd e how, r0.n3, r0.n4, r0.n5⟩
      · rw [if_neg hk, if_neg hk]
        exact ⟨rfl, r0.e1, rfl, r0.e3, by simp, by simp, r0.e6, r0.e7, r0.e8, r0.e9, hrq, r0.b1, r0.b2, r0.b3, r0.b4, r0.b5, by dsimp only; rw [hw2]; omega, r0.n1, fun _ => by dsimp only; have := hl.sk; omega, by dsimp only; have := hl.wd; omega, by dsimp only; omega, r0.n5⟩
    · exact .inr hlt
  have hkeep : ∀ (rq : Int), (sendN l { z with req := rq }).last = z.last ∧ (sendN l { z with req := rq }).run = z.run ∧ (sendN l { z with req := rq }).taken = z.taken := by
    intro rq; unfold sendN; split <;> exact ⟨rfl, rfl, rfl⟩
  have hlow : ∀ (rq : Int), Bit rq → R0 l { { z with req := rq } with s0 := x.ans, s1 := x.s0 } { t with f0 := rq } := fun rq hrq =>
    ⟨rfl, r0.e1, r0.e2, r0.e3, r0.e4, r0.e5, r0.e6, r0.e7, r0.e8, r0.e9, hrq, r0.b1, r0.b2, r0.b3, r0.b4, r0.b5, r0.n0, r0.n1, r0.n2, r0.n3, r0.n4, r0.n5⟩
  unfold reqN
  have hph := hl.ph
  by_cases c4 : l.ph = 4
  · by_cases cr : z.req = 1
    · rw [if_pos (show l.ph = 4 ∧ z.req = 1 from ⟨c4, cr⟩), if_neg (show ¬ (l.ph = 2 ∧ v = z.req ∧ z.sent < l.wd) by omega), if_neg (show ¬ (l.ph = 4 ∧ z.req = 0 ∧ v = 0 ∧ z.sent < l.wd) by omega)]
      by_cases cv : v = 1
      · rw [if_pos cv, if_pos (show l.ph = 4 ∧ z.req = 1 ∧ v = 1 from ⟨c4, cr, cv⟩)]
        exact ⟨_, _, rfl, rfl, hlow 0 (.inl rfl), q8, q9, q3, p0, p1⟩
      · rw [if_neg cv, if_neg (show ¬ (l.ph = 4 ∧ z.req = 1 ∧ v = 1) from fun e => cv e.2.2)]
        exact ⟨_, _, rfl, rfl, r0, q8, q9, q3, p0, p1⟩
    · rw [if_neg (show ¬ (l.ph = 4 ∧ z.req = 1) from fun e => cr e.2), if_neg (show ¬ (l.ph = 2 ∧ v = z.req ∧ z.sent < l.wd) by omega)]
      by_cases cs : ¬ v = z.req ∨ z.sent = l.wd
      · rw [if_pos cs, if_neg (show ¬ (l.ph = 4 ∧ z.req = 0 ∧ v = 0 ∧ z.sent < l.wd) by omega), if_neg (show ¬ (l.ph = 4 ∧ z.req = 1 ∧ v = 1) from fun e => cr e.2.1)]
        exact ⟨_, _, rfl, rfl, r0, q8, q9, q3, p0, p1⟩
      · rw [if_neg cs, if_pos (show l.ph = 4 ∧ z.req = 0 ∧ v = 0 ∧ z.sent < l.wd by omega), hw1]
        have e10 : 1 - z.req = 1 := by omega
        rw [e10]
        rcases hsend 1 (.inr rfl) with hh | hh
        · by_cases hk : l.sk = 0
          · rw [if_pos hk] at hh ⊢
            exact ⟨_, _, rfl, rfl, hh, (hkeep 1).1.trans q8, (hkeep 1).2.1.trans q9, (hkeep 1).2.2.trans q3, p0, p1⟩
          · rw [if_neg hk] at hh ⊢
            exact ⟨_, _, rfl, rfl, hh, (hkeep 1).1.trans q8, (hkeep 1).2.1.trans q9, (hkeep 1).2.2.trans q3, p0, p1⟩
        · omega
  · have c2 : l.ph = 2 := by omega
    rw [if_neg (show ¬ (l.ph = 4 ∧ z.req = 1) from fun e => c4 e.1)]
    by_cases cs : ¬ v = z.req ∨ z.sent = l.wd
    · rw [if_pos cs, if_neg (show ¬ (l.ph = 2 ∧ v = z.req ∧ z.sent < l.wd) by omega), if_neg (show ¬ (l.ph = 4 ∧ z.req = 0 ∧ v = 0 ∧ z.sent < l.wd) from fun e => c4 e.1), if_neg (show ¬ (l.ph = 4 ∧ z.req = 1 ∧ v = 1) from fun e => c4 e.1)]
      exact ⟨_, _, rfl, rfl, r0, q8, q9, q3, p0, p1⟩
    · rw [if_neg cs, if_pos (show l.ph = 2 ∧ v = z.req ∧ z.sent < l.wd by omega), hw1]
      rcases hsend (1 - z.req) (by unfold Bit; omega) with hh | hh
      · by_cases hk : l.sk = 0
        · rw [if_pos hk] at hh ⊢
          exact ⟨_, _, rfl, rfl, hh, (hkeep _).1.trans q8, (hkeep _).2.1.trans q9, (hkeep _).2.2.trans q3, p0, p1⟩
        · rw [if_neg hk] at hh ⊢
          exact ⟨_, _, rfl, rfl, hh, (hkeep _).1.trans q8, (hkeep _).2.1.trans q9, (hkeep _).2.2.trans q3, p0, p1⟩
      · omega
/-- A step of the receiver: alike behind it if what is taken is right; wrong on both sides otherwise. -/
theorem take_sim {l : Lnk} {x : LN} {y : S57} (hl : LOk l) (h : R0 l x y) :
    ∃ x' y' v tk, stepR l x = some (x', v, tk) ∧ takeF l y = some (y', if tk = true then v else 0, tk) ∧ x'.last = x.last ∧ x'.run = x.run ∧ y'.f10 = y.f10 ∧ y'.f11 = y.f11 ∧ x'.taken = x.taken ∧
      (tk = false → R0 l x' y') ∧
      (tk = true → (v = x.taken ∧ x.taken < l.wd → R0 l { x' with taken := x.taken + 1 } y') ∧ y'.f8 = x.taken + 1 ∧ (y'.f9 = if v = x.taken ∧ x.taken < l.wd then 0 else 1) ∧ (y'.f0 = y.f0 ∧ Bit y'.f1 ∧ y'.f2 = y.f2 ∧ y'.f3 = y.f3 ∧ y'.f4 = y.f4 ∧ y'.f5 = y.f5 ∧ y'.f6 = y.f6 ∧ y'.f7 = rowK l.sg x.req x.r0)) := by
  obtain ⟨v, hv, h1, h2⟩ := sees_sim hl.sg h.b4 h.b5 h.b0
  have e1 : seesF l x.r0 x.r1 x.req = some v := h1
  have e2 : spec_l05Seen.f l.sg y.f7 y.f0 = some (v, rowK l.sg x.req x.r0) := by rw [h.e7, h.e0]; exact h2
  unfold stepR takeF
  rw [e1, e2]
  simp only [Option.bind_some]
  have h11 := h.e1
  have hr : ∀ a : Int, Bit a → R0 l { x with ans := a, r0 := x.req, r1 := x.r0 } { y with f7 := rowK l.sg x.req x.r0, f1 := a } := fun a ha =>
    ⟨h.e0, rfl, h.e2, h.e3, h.e4, h.e5, h.e6, rfl, h.e8, h.e9, h.b0, ha, h.b2, h.b3, h.b0, h.b4, h.n0, h.n1, h.n2, h.n3, h.n4, h.n5⟩
  by_cases cv : v = x.ans
  · rw [if_pos cv, if_pos (show v = y.f1 from cv.trans h11.symm)]
    refine ⟨_, _, x.plc, false, rfl, rfl, rfl, rfl, rfl, rfl, rfl, fun _ => ?_, (fun e => by cases e)⟩
    have := hr x.ans h.b1
    have e := h.e1
    exact ⟨h.e0, h.e1, h.e2, h.e3, h.e4, h.e5, h.e6, rfl, h.e8, h.e9, h.b0, h.b1, h.b2, h.b3, h.b0, h.b4, h.n0, h.n1, h.n2, h.n3, h.n4, h.n5⟩
  · rw [if_neg cv, if_neg (show ¬ v = y.f1 from fun e => cv (e.trans h11))]
    unfold Bit at hv
    have hph := hl.ph
    by_cases c4 : l.ph = 4 ∧ v = 0
    · rw [if_pos c4]
      have hf : (l.ph == 2 || v == 1) = false := by rw [c4.1, c4.2]; rfl
      rw [hf]
      exact ⟨_, _, x.plc, false, rfl, rfl, rfl, rfl, rfl, rfl, rfl, fun _ => hr v hv, (fun e => by cases e)⟩
    · rw [if_neg c4]
      have hf : (l.ph == 2 || v == 1) = true := by
        by_cases c2 : l.ph = 2
        · rw [c2]; rfl
        · have : v = 1 := by omega
          rw [this]; simp
      rw [hf]
      have hn5 := h.n5
      have hwd := hl.wd
      have hw : wrap64 (x.taken + 1) = x.taken + 1 := small64 (by omega) (by omega)
      refine ⟨_, { y with f7 := rowK l.sg x.req x.r0, f1 := v, f9 := if x.plc = x.taken ∧ x.taken < l.wd then 0 else 1, f8 := x.taken + 1 }, x.plc, true, rfl, ?_, rfl, rfl, rfl, rfl, rfl, (fun e => by cases e), fun _ => ⟨fun hc => ?_, ?_, ?_, rfl, hv, rfl, rfl, rfl, rfl, rfl, rfl⟩⟩
      · rw [h.e3, h.e8, if_pos (show x.taken < 7 by omega), hw, h.e9, if_pos rfl]
        by_cases cc : x.plc = x.taken ∧ x.taken < l.wd
        · rw [if_neg (show ¬ (¬ x.plc = x.taken ∨ l.wd ≤ x.taken) by omega), if_pos cc]
        · rw [if_pos (show ¬ x.plc = x.taken ∨ l.wd ≤ x.taken by omega), if_neg cc]
      · refine ⟨h.e0, rfl, h.e2, h.e3, h.e4, h.e5, h.e6, rfl, rfl, ?_, h.b0, hv, h.b2, h.b3, h.b0, h.b4, h.n0, h.n1, h.n2, h.n3, h.n4, ?_⟩
        · dsimp only; rw [if_pos hc]
        · dsimp only; omega
      · rfl
      · rfl
end Go.Proofs.Ytgmnbpdfdagniaa.A
/- The link: a step of both sides, and both searches as systems. No conditions. -/
namespace Go.Proofs.Ytgmnbpdfdagniaa.A
open Go.RowKit Go.Proofs.YtgmnbpdfdagniaaW.PrintWords Go.Proofs.YtgmnbpdfdagniaaW.PrintLast Go.Proofs.YtgmnbpdfdagniaaW.PrintMore
set_option linter.unusedVariables false
set_option linter.unusedSimpArgs false
def letOf (c : Nat) : Int := if c = 0 then 114 else 115
structure RL (l : Lnk) (ratio : Int) (x : LN) (y : S57) : Prop where
  r0 : R0 l x y
  ls : (x.last = 0 ∧ y.f10 = 2) ∨ (x.last = 114 ∧ y.f10 = 0) ∨ (x.last = 115 ∧ y.f10 = 1)
  rn : y.f11 = x.run ∧ 0 ≤ x.run ∧ x.run ≤ ratio
theorem R0.turn {l : Lnk} {x : LN} {y : S57} (h : R0 l x y) (a b c d : Int) : R0 l { x with last := a, run := b } { y with f10 := c, f11 := d } :=
  ⟨h.e0, h.e1, h.e2, h.e3, h.e4, h.e5, h.e6, h.e7, h.e8, h.e9, h.b0, h.b1, h.b2, h.b3, h.b4, h.b5, h.n0, h.n1, h.n2, h.n3, h.n4, h.n5⟩
theorem RL.start {l : Lnk} {ratio : Int} (hl : LOk l) (hr : 1 ≤ ratio) : RL l ratio zN x0K := by
  have hw := hl.wd
  refine ⟨⟨rfl, rfl, rfl, rfl, rfl, rfl, ?_, ?_, rfl, rfl, .inl rfl, .inl rfl, .inl rfl, .inl rfl, .inl rfl, .inl rfl, ?_, ?_, (fun e => by cases e), ?_, ?_, ?_⟩, .inl ⟨rfl, rfl⟩, rfl, ?_, ?_⟩
  · show (0 : Int) = rowK l.sg 0 0; unfold rowK; split <;> (try split) <;> rfl
  · show (0 : Int) = rowK l.sg 0 0; unfold rowK; split <;> (try split) <;> rfl
  · show (0 : Int) ≤ 0 ∧ (0 : Int) ≤ l.wd; omega
  · show (-1 : Int) ≤ -1 ∧ (-1 : Int) ≤ 3; omega
  · show (0 : Int) ≤ 0 ∧ (0 : Int) ≤ 3; omega
  · show (0 : Int) ≤ 0 ∧ (0 : Int) ≤ 2; omega
  · show (0 : Int) ≤ 0 ∧ (0 : Int) ≤ l.wd; omega
  · show (0 : Int) ≤ 0; omega
  · show (0 : Int) ≤ ratio; omega
/-- The side of the step is noted. -/
theorem turn_sim {l : Lnk} {ratio : Int} {x : LN} {y : S57} (hr : 1 ≤ ratio ∧ ratio ≤ 4) (h : RL l ratio x y) (c : Nat) (hc : c < 2) :
    ∃ run, letN (letOf c) x = { x with last := letOf c, run := run } ∧ 1 ≤ run ∧ ((ratio < run ∧ (turnK (c : Int) y).f11 = ratio) ∨ (run ≤ ratio ∧ ¬ (turnK (c : Int) y).f11 = ratio ∧ { turnK (c : Int) y with f11 := wrap64 ((turnK (c : Int) y).f11 + 1) } = { y with f10 := (c : Int), f11 := run })) := by
  obtain ⟨e1, e2, e3⟩ := h.rn
  have hw : wrap64 (x.run + 1) = x.run + 1 := small64 (by omega) (by omega)
  have hlt : (x.last = letOf c ↔ y.f10 = (c : Int)) := by
    have := h.ls
    unfold letOf
    rcases (show c = 0 ∨ c = 1 by omega) with rfl | rfl <;> simp <;> omega
  by_cases hx : x.last = letOf c
  · have hy := hlt.1 hx
    refine ⟨x.run + 1, by unfold letN; rw [if_pos hx, hw, ← hx], by omega, ?_⟩
    unfold turnK
    rw [if_pos hy]
    by_cases hk : x.run = ratio
    · exact .inl ⟨by omega, by omega⟩
    · exact .inr ⟨by omega, by omega, by rw [e1, hw, ← hy]⟩
  · have hy : ¬ y.f10 = (c : Int) := fun e => hx (hlt.2 e)
    refine ⟨1, by unfold letN; rw [if_neg hx], by omega, .inr ⟨by omega, ?_, ?_⟩⟩
    · unfold turnK; rw [if_neg hy]; dsimp only; omega
    · unfold turnK; rw [if_neg hy]; dsimp only; rw [show wrap64 (0 + 1) = (1 : Int) from (small64 (by omega) (by omega)).trans rfl]
/-- The ranges of a state's numbers. -/
structure RG (y : S57) : Prop where
  g0 : 0 ≤ y.f0 ∧ y.f0 ≤ 1
  g1 : 0 ≤ y.f1 ∧ y.f1 ≤ 1
  g2 : 0 ≤ y.f2 ∧ y.f2 ≤ 7
  g3 : -1 ≤ y.f3 ∧ y.f3 ≤ 6
  g4 : 0 ≤ y.f4 ∧ y.f4 ≤ 7
  g5 : 0 ≤ y.f5 ∧ y.f5 ≤ 7
  g6 : 0 ≤ y.f6 ∧ y.f6 ≤ 7
  g7 : 0 ≤ y.f7 ∧ y.f7 ≤ 7
  g8 : 0 ≤ y.f8 ∧ y.f8 ≤ 7
  g9 : 0 ≤ y.f9 ∧ y.f9 ≤ 7
  g10 : 0 ≤ y.f10 ∧ y.f10 ≤ 7
  g11 : 0 ≤ y.f11 ∧ y.f11 ≤ 7
theorem rowK_range {sg a b : Int} (ha : Bit a) (hb : Bit b) : 0 ≤ rowK sg a b ∧ rowK sg a b ≤ 3 := by
  unfold Bit at ha hb
  unfold rowK
  split
  · omega
  · split <;> omega
theorem R0.rg {l : Lnk} {x : LN} {y : S57} (hl : LOk l) (h : R0 l x y) (h10 : 0 ≤ y.f10 ∧ y.f10 ≤ 7) (h11 : 0 ≤ y.f11 ∧ y.f11 ≤ 7) : RG y := by
  have hw := hl.wd
  have hk := hl.sk
  have b0 := h.b0
  have b1 := h.b1
  unfold Bit at b0 b1
  refine ⟨by have := h.e0; omega, by have := h.e1; omega, by have := h.e2; have := h.n0; omega, by have := h.e3; have := h.n1; omega, ?_, ?_, by have := h.e6; have := rowK_range (sg := l.sg) h.b2 h.b3; omega, by have := h.e7; have := rowK_range (sg := l.sg) h.b4 h.b5; omega, by have := h.e8; have := h.n5; omega, by have := h.e9; omega, h10, h11⟩
  · have e := h.e4
    have := h.n4
    by_cases ho : x.ow = true
    · rw [if_pos ho] at e; have := h.n2 ho; omega
    · rw [if_neg ho] at e; omega
  · have e := h.e5
    have := h.n3
    by_cases ho : x.ow = true
    · rw [if_pos ho] at e; omega
    · rw [if_neg ho] at e; omega
theorem step_sim {l : Lnk} {ratio : Int} {x : LN} {y : S57} (hl : LOk l) (hr : 1 ≤ ratio ∧ ratio ≤ 4) (h : RL l ratio x y) (c : Nat) (hc : c < 2) :
    ∃ x' right keeps, afterN l (letOf c) ratio x = some (x', right, keeps) ∧
      ((keeps = false ∧ ∃ y', nextF l ratio (c : Int) y = some (y', false)) ∨
       (keeps = true ∧ ∃ y', nextF l ratio (c : Int) y = some (y', true) ∧ (right = true → RL l ratio x' y') ∧ (y'.f9 = if right = true then 0 else 1) ∧ y'.f8 = x'.taken ∧ RG y' ∧ y'.f10 = (c : Int) ∧ x'.last = letOf c)) := by
  obtain ⟨run, hlet, h1, hrun⟩ := turn_sim hr h c hc
  have h0 : R0 l { x with last := letOf c, run := run } { y with f10 := (c : Int), f11 := run } := h.r0.turn _ _ _ _
  unfold afterN nextF
  rw [hlet]
  rcases (show c = 1 ∨ c = 0 by omega) with rfl | rfl
  · obtain ⟨x', y', s1, s2, s3, s4, s5, s6, s7, s8⟩ := send_sim hl h0
    rw [if_pos (show letOf 1 = 115 from rfl), s1]
    refine ⟨x', true, decide (x'.run ≤ ratio), rfl, ?_⟩
    rcases hrun with ⟨a1, a2⟩ | ⟨a1, a2, a3⟩
    · refine .inl ⟨decide_eq_false (by rw [s5]; dsimp only; omega), ?_⟩
      rw [if_pos a2]
      exact ⟨_, rfl⟩
    · refine .inr ⟨decide_eq_true (by rw [s5]; exact a1), y', ?_, fun _ => ⟨s3, .inr (.inr ⟨by rw [s4]; rfl, by rw [s7]; rfl⟩), by rw [s8, s5], by rw [s5]; dsimp only; omega, by rw [s5]; exact a1⟩, s3.e9, s3.e8, s3.rg hl (by rw [s7]; dsimp only; omega) (by rw [s8]; dsimp only; omega), by rw [s7], by rw [s4]⟩
      rw [if_neg a2, if_pos (show ((1 : Nat) : Int) = 1 from rfl), a3, s2]
      rfl
  · obtain ⟨x', y', v, tk, s1, s2, s4, s5, s7, s8, s6, t1, t2⟩ := take_sim hl h0
    have hn5 := h0.n5
    dsimp only at hn5
    have hw : wrap64 (x.taken + 1) = x.taken + 1 := small64 (by omega) (by have := hl.wd; omega)
    rw [if_neg (show ¬ letOf 0 = 115 by decide), s1]
    simp only [Option.bind_some]
    cases tk with
    | false =>
      have s3 := t1 rfl
      rw [if_neg (by decide)]
      refine ⟨x', true, decide (x'.run ≤ ratio), rfl, ?_⟩
      rcases hrun with ⟨a1, a2⟩ | ⟨a1, a2, a3⟩
      · refine .inl ⟨decide_eq_false (by rw [s5]; dsimp only; omega), ?_⟩
        rw [if_pos a2]
        exact ⟨_, rfl⟩
      · refine .inr ⟨decide_eq_true (by rw [s5]; exact a1), y', ?_, fun _ => ⟨s3, .inr (.inl ⟨by rw [s4]; rfl, by rw [s7]; rfl⟩), by rw [s8, s5], by rw [s5]; dsimp only; omega, by rw [s5]; exact a1⟩, s3.e9, s3.e8, s3.rg hl (by rw [s7]; dsimp only; omega) (by rw [s8]; dsimp only; omega), by rw [s7], by rw [s4]⟩
        rw [if_neg a2, if_neg (show ¬ ((0 : Nat) : Int) = 1 by decide), a3, s2]
        rfl
    | true =>
      obtain ⟨u1, u2, u3, k0, k1, k2, k3, k4, k5, k6, k7⟩ := t2 rfl
      rw [if_pos rfl]
      dsimp only at s6 u2 u3
      refine ⟨_, _, decide (x'.run ≤ ratio), rfl, ?_⟩
      rcases hrun with ⟨a1, a2⟩ | ⟨a1, a2, a3⟩
      · refine .inl ⟨decide_eq_false (by rw [s5]; dsimp only; omega), ?_⟩
        rw [if_pos a2]
        exact ⟨_, rfl⟩
      · rw [s6, hw]
        refine .inr ⟨decide_eq_true (by rw [s5]; exact a1), y', ?_, ?_, ?_, u2, ?_, by rw [s7], by dsimp only; rw [s4]⟩
        · rw [if_neg a2, if_neg (show ¬ ((0 : Nat) : Int) = 1 by decide), a3, s2]
          rfl
        · intro hright
          simp only [Bool.and_eq_true, beq_iff_eq, decide_eq_true_eq] at hright
          have s3 := u1 hright
          exact ⟨s3, .inr (.inl ⟨by dsimp only; rw [s4]; rfl, by rw [s7]; rfl⟩), by dsimp only; rw [s8, s5], by dsimp only; rw [s5]; dsimp only; omega, by dsimp only; rw [s5]; exact a1⟩
        · rw [u3]
          by_cases hc : v = x.taken ∧ x.taken < l.wd
          · rw [if_pos hc, if_pos (by simp [hc.1, hc.2])]
          · rw [if_neg hc, if_neg (by simpa using hc)]
        · have hg := h0.rg hl (by dsimp only; omega) (by dsimp only; omega)
          unfold Bit at k1
          have hb := h.r0.b0
          have hwd := hl.wd
          refine ⟨by rw [k0]; exact hg.g0, by omega, by rw [k2]; exact hg.g2, by rw [k3]; exact hg.g3, by rw [k4]; exact hg.g4, by rw [k5]; exact hg.g5, by rw [k6]; exact hg.g6, ?_, by rw [u2]; omega, ?_, by rw [s7]; dsimp only; omega, by rw [s8]; dsimp only; omega⟩
          · rw [k7]; have := rowK_range (sg := l.sg) h.r0.b0 h.r0.b4; dsimp only; omega
          · rw [u3]; split <;> omega
end Go.Proofs.Ytgmnbpdfdagniaa.A
/- The link: the reference's search tells the first of the shortest words that is accepted. No conditions. -/
namespace Go.Proofs.Ytgmnbpdfdagniaa.A
open Go.RowKit Go.Proofs.YtgmnbpdfdagniaaW.PrintWords Go.Proofs.YtgmnbpdfdagniaaW.PrintLast Go.Proofs.YtgmnbpdfdagniaaW.PrintMore
set_option linter.unusedVariables false
set_option linter.unusedSimpArgs false
def kSys (l : Lnk) (ratio : Int) (fault : Bool) : Sys S57 where
  s0 := x0K
  step := fun y c => (nextF l ratio (c : Int) y).bind fun p => if p.2 = true then some (p.1, hitK l fault p.1) else none
/-- The text of a word. -/
def letK (v : Nat) : ByteArray :=
  if h : v = 0 then ByteArray.empty else
    have : (v - 1) / 2 < v := by omega
    letK ((v - 1) / 2) ++ oneB (letOf ((v - 1) % 2))
termination_by v
theorem letK_zero : letK 0 = ByteArray.empty := by rw [letK]; simp
theorem letK_succ (u c : Nat) (hc : c < 2) : letK (2 * u + 1 + c) = letK u ++ oneB (letOf c) := by
  rw [letK]
  rw [dif_neg (by omega)]
  dsimp only
  rw [show (2 * u + 1 + c - 1) / 2 = u by omega, show (2 * u + 1 + c - 1) % 2 = c by omega]
theorem oneB_size (a : Int) : (oneB a).size = 1 := rfl
/-- Two states with one number are one state. -/
theorem dig {a b c d : Int} (h : 8 * a + b = 8 * c + d) (hb : 0 ≤ b ∧ b ≤ 7) (hd : 0 ≤ d ∧ d ≤ 7) : a = c ∧ b = d := by omega
theorem step8 (k p B : Int) (h1 : 0 ≤ k) (h2 : k ≤ B) (h3 : 0 ≤ p) (h4 : p ≤ 7) (h5 : B ≤ 100000000000) : ∃ K, wrap64 (wrap64 (8 * k) + p) = K ∧ K = 8 * k + p ∧ 0 ≤ K ∧ K ≤ 8 * B + 7 := by
  have e : wrap64 (8 * k) = 8 * k := by unfold wrap64; omega
  rw [e]
  exact ⟨8 * k + p, by unfold wrap64; omega, rfl, by omega, by omega⟩
theorem keyK_is (y : S57) (h : RG y) : keyK y = 8 * (8 * (8 * (8 * (8 * (8 * (8 * (8 * (8 * (8 * (8 * y.f0 + y.f1) + y.f2) + (y.f3 + 1)) + y.f4) + y.f5) + y.f6) + y.f7) + y.f8) + y.f9) + y.f10) + y.f11 := by
  obtain ⟨g0, g1, g2, g3, g4, g5, g6, g7, g8, g9, g10, g11⟩ := h
  have hw : wrap64 (y.f3 + 1) = y.f3 + 1 := small64 (by omega) (by omega)
  unfold keyK kkL partsK
  simp only [List.foldl_cons, List.foldl_nil, hw]
  obtain ⟨K0, w0, q0, b0⟩ := step8 0 y.f0 0 (by omega) (by omega) (by omega) (by omega) (by omega)
  rw [w0]
  have b0' : K0 ≤ 1 := by omega
  obtain ⟨K1, w1, q1, b1⟩ := step8 K0 y.f1 1 b0.1 (by omega) (by omega) (by omega) (by omega)
  rw [w1]
  have b1' : K1 ≤ 15 := by omega
  obtain ⟨K2, w2, q2, b2⟩ := step8 K1 y.f2 15 b1.1 (by omega) (by omega) (by omega) (by omega)
  rw [w2]
  obtain ⟨K3, w3, q3, b3⟩ := step8 K2 (y.f3 + 1) 127 b2.1 (by omega) (by omega) (by omega) (by omega)
  rw [w3]
  obtain ⟨K4, w4, q4, b4⟩ := step8 K3 y.f4 1023 b3.1 (by omega) (by omega) (by omega) (by omega)
  rw [w4]
  obtain ⟨K5, w5, q5, b5⟩ := step8 K4 y.f5 8191 b4.1 (by omega) (by omega) (by omega) (by omega)
  rw [w5]
  obtain ⟨K6, w6, q6, b6⟩ := step8 K5 y.f6 65535 b5.1 (by omega) (by omega) (by omega) (by omega)
  rw [w6]
  obtain ⟨K7, w7, q7, b7⟩ := step8 K6 y.f7 524287 b6.1 (by omega) (by omega) (by omega) (by omega)
  rw [w7]
  obtain ⟨K8, w8, q8, b8⟩ := step8 K7 y.f8 4194303 b7.1 (by omega) (by omega) (by omega) (by omega)
  rw [w8]
  obtain ⟨K9, w9, q9, b9⟩ := step8 K8 y.f9 33554431 b8.1 (by omega) (by omega) (by omega) (by omega)
  rw [w9]
  obtain ⟨K10, w10, q10, b10⟩ := step8 K9 y.f10 268435455 b9.1 (by omega) (by omega) (by omega) (by omega)
  rw [w10]
  obtain ⟨K11, w11, q11, b11⟩ := step8 K10 y.f11 2147483647 b10.1 (by omega) (by omega) (by omega) (by omega)
  rw [w11]
  rw [q11, q10, q9, q8, q7, q6, q5, q4, q3, q2, q1, q0]
  simp only [Int.mul_zero, Int.zero_add]
theorem keyK_range (y : S57) (h : RG y) : 0 ≤ keyK y ∧ keyK y < 17179869184 := by
  rw [keyK_is y h]
  obtain ⟨g0, g1, g2, g3, g4, g5, g6, g7, g8, g9, g10, g11⟩ := h
  omega
theorem keyK_inj (y z : S57) (hy : RG y) (hz : RG z) (h : keyK y = keyK z) : y = z := by
  rw [keyK_is y hy, keyK_is z hz] at h
  obtain ⟨g0, g1, g2, g3, g4, g5, g6, g7, g8, g9, g10, g11⟩ := hy
  obtain ⟨k0, k1, k2, k3, k4, k5, k6, k7, k8, k9, k10, k11⟩ := hz
  obtain ⟨h, h11⟩ := dig h g11 k11
  obtain ⟨h, h10⟩ := dig h g10 k10
  obtain ⟨h, h9⟩ := dig h g9 k9
  obtain ⟨h, h8⟩ := dig h g8 k8
  obtain ⟨h, h7⟩ := dig h g7 k7
  obtain ⟨h, h6⟩ := dig h g6 k6
  obtain ⟨h, h5⟩ := dig h g5 k5
  obtain ⟨h, h4⟩ := dig h g4 k4
  obtain ⟨h, h3⟩ := dig h (by omega) (by omega)
  obtain ⟨h, h2⟩ := dig h g2 k2
  obtain ⟨h0, h1⟩ := dig h (by omega) (by omega)
  cases y; cases z
  simp only at h0 h1 h2 h3 h4 h5 h6 h7 h8 h9 h10 h11
  simp only [S57.mk.injEq]
  exact ⟨h0, h1, h2, by omega, h4, h5, h6, h7, h8, h9, h10, h11⟩
theorem pigeon (n : Nat) : ∀ (l : List Nat), l.Nodup → (∀ b ∈ l, b < n) → l.length ≤ n := by
  induction n with
  | zero => intro l _ h; cases l with
    | nil => simp
    | cons a l => exact absurd (h a (List.mem_cons_self ..)) (by omega)
  | succ n ih =>
    intro l hl h
    by_cases hn : n ∈ l
    · have h1 := ih (l.erase n) (hl.erase n) (fun b hb => by
        have hb1 := List.mem_of_mem_erase hb
        have hb2 := h b hb1
        have : b ≠ n := fun e => by subst e; exact (hl.not_mem_erase) hb
        omega)
      rw [List.length_erase_of_mem hn] at h1
      omega
    · have h1 := ih l hl (fun b hb => by
        have hb2 := h b hb
        have : b ≠ n := fun e => by subst e; exact hn hb
        omega)
      omega
/-- States with numbers below a bound are few. -/
theorem few {S : Type} (q : List S) (key : S → Int) (B : Nat) (hd : q.Nodup) (hr : ∀ s ∈ q, 0 ≤ key s ∧ key s < B) (hi : ∀ s ∈ q, ∀ t ∈ q, key s = key t → s = t) : q.length ≤ B := by
  have h := pigeon B (q.map fun s => (key s).toNat) (by
    rw [List.Nodup, List.pairwise_map]
    refine List.Pairwise.imp_of_mem ?_ hd
    intro a b ha hb hne e
    have := hr a ha
    have := hr b hb
    exact hne (hi a ha b hb (by omega))) (by
    intro b hb
    obtain ⟨s, hs, rfl⟩ := List.mem_map.1 hb
    have := hr s hs
    omega)
  simpa using h
end Go.Proofs.Ytgmnbpdfdagniaa.A
/- The link: the reference's search ends, and tells the first of the shortest words that is accepted. No conditions. -/
namespace Go.Proofs.Ytgmnbpdfdagniaa.A
open Go.RowKit Go.Proofs.YtgmnbpdfdagniaaW.PrintWords Go.Proofs.YtgmnbpdfdagniaaW.PrintLast Go.Proofs.YtgmnbpdfdagniaaW.PrintMore
set_option linter.unusedVariables false
set_option linter.unusedSimpArgs false
/-- What is known of the states that are met. -/
structure PC (l : Lnk) (ratio : Int) (fault : Bool) (Pk : S57 → Prop) : Prop where
  rg : ∀ y, Pk y → RG y
  nohit : ∀ y, Pk y → hitK l fault y = false
  stp : ∀ y c, Pk y → c < 2 → ∃ z b, nextF l ratio ((c : Nat) : Int) y = some (z, b) ∧ (b = true → RG z ∧ z.f10 = (c : Int) ∧ (hitK l fault z = false → Pk z))
structure LI (l : Lnk) (ratio : Int) (fault : Bool) (Pk : S57 → Prop) (q : List (Nat × S57)) (m : Nat) (s : LkS) : Prop where
  inv : SInv (kSys l ratio fault) q m
  st : s.st = q.map Prod.snd
  ord : s.ord = q.map (fun p => letK p.1)
  tb : Good s.tb s.c (fun k => ∃ p, p ∈ q ∧ p.2 ≠ x0K ∧ k = keyK p.2)
  cc : s.c ≤ q.length
  tl : (s.tb.length : Int) ≤ 4 * q.length + 64
  pk : ∀ p ∈ q, Pk p.2
  nd : (q.map Prod.snd).Nodup
  sz : ∀ p ∈ q, (letK p.1).size ≤ q.length
theorem LI.len {l : Lnk} {ratio : Int} {fault : Bool} {Pk : S57 → Prop} {q : List (Nat × S57)} {m : Nat} {s : LkS} (hP : PC l ratio fault Pk) (h : LI l ratio fault Pk q m s) : q.length ≤ 17179869184 := by
  have := few (q.map Prod.snd) keyK 17179869184 h.nd (fun y hy => by
    obtain ⟨p, hp, rfl⟩ := List.mem_map.1 hy
    exact keyK_range _ (hP.rg _ (h.pk p hp))) (fun y hy z hz e => by
    obtain ⟨p, hp, rfl⟩ := List.mem_map.1 hy
    obtain ⟨p', hp', rfl⟩ := List.mem_map.1 hz
    exact keyK_inj _ _ (hP.rg _ (h.pk p hp)) (hP.rg _ (h.pk p' hp')) e)
  simpa using this
theorem letter_is (c : Nat) (hc : c < 2) : spec_l05Letter.f (c : Int) = some (oneB (letOf c)) := by
  rcases (show c = 0 ∨ c = 1 by omega) with rfl | rfl <;> rfl
theorem lk_step {l : Lnk} {ratio : Int} {fault : Bool} {Pk : S57 → Prop} (hP : PC l ratio fault Pk) (K : Nat) (hK : 1099511627776 ≤ K) {q : List (Nat × S57)} {n c i : Nat} {y : S57} {s : LkS}
    (h : LI l ratio fault Pk q (2 * n + 1 + c) s) (hi : q[i]? = some (n, y)) (hc : c < 2) (f : Nat) (next : LkS → Option (ByteArray × Bool)) :
    (∃ r, lkSide K l ratio fault (i : Int) next (f + 1) (c : Int) s = some r ∧ (kSys l ratio fault).tells letK r) ∨
    ∃ e s', lkSide K l ratio fault (i : Int) next (f + 1) (c : Int) s = lkSide K l ratio fault (i : Int) next f ((c + 1 : Nat) : Int) s' ∧ LI l ratio fault Pk (q ++ e) (2 * n + 1 + c + 1) s' := by
  have hlen := h.len hP
  have hil : i < q.length := (List.getElem?_eq_some_iff.1 hi).1
  have hmem : (n, y) ∈ q := List.mem_of_getElem? hi
  have hr := h.inv.runs _ hmem
  have hl1 : s.st.length = q.length := by rw [h.st, List.length_map]
  have hl2 : s.ord.length = q.length := by rw [h.ord, List.length_map]
  have hrd : rd_T57 s.st (i : Int) = y := by
    unfold rd_T57
    rw [h.st, Int.toNat_natCast, List.getD_eq_getElem?_getD, List.getElem?_map, hi]
    rfl
  have hro : rdOf ByteArray.empty s.ord (i : Int) = letK n := by
    unfold rdOf
    rw [h.ord, Int.toNat_natCast, List.getD_eq_getElem?_getD, List.getElem?_map, hi]
    rfl
  have hw : wrap64 ((c : Int) + 1) = ((c + 1 : Nat) : Int) := by rw [small64 (by omega) (by omega)]; omega
  obtain ⟨z, b, hz, hb⟩ := hP.stp y c (h.pk _ hmem) hc
  simp only [lkSide]
  rw [if_pos (show (c : Int) < 2 by omega), if_pos (show (i : Int) < s.st.length ∧ (i : Int) < s.ord.length by omega), hrd, hz, Option.bind_some, hro, hw]
  cases b with
  | false =>
    rw [if_neg (by simp)]
    refine .inr ⟨[], s, rfl, ?_⟩
    rw [List.append_nil]
    exact ⟨h.inv.skip hc hr (by simp [kSys, hz]), h.st, h.ord, h.tb, h.cc, h.tl, h.pk, h.nd, h.sz⟩
  | true =>
    obtain ⟨hg, h10, hpz⟩ := hb rfl
    have hkr := keyK_range z hg
    have hM : ∀ k, (∃ p, p ∈ q ∧ p.2 ≠ x0K ∧ k = keyK p.2) → k < 4611686018427387903 := by
      rintro k ⟨p, hp, _, rfl⟩
      have := keyK_range _ (hP.rg _ (h.pk p hp))
      omega
    have htl := h.tl
    obtain ⟨tb', c', b', e1, e2, e3, e4, e5, e6⟩ := putF_good h.tb hkr.1 (by omega) hM (by omega) K (by omega)
    rw [if_pos rfl]
    dsimp only
    rw [e1, Option.bind_some]
    have hstep : (kSys l ratio fault).step y c = some (z, hitK l fault z) := by simp [kSys, hz]
    have hx0 : z ≠ x0K := by
      intro e
      rw [e] at h10
      have h2 : x0K.f10 = 2 := rfl
      omega
    cases b' with
    | false =>
      have hm : ∃ p, p ∈ q ∧ p.2 ≠ x0K ∧ keyK z = keyK p.2 := by
        by_cases hm : ∃ p, p ∈ q ∧ p.2 ≠ x0K ∧ keyK z = keyK p.2
        · exact hm
        · have := e2.2 hm; cases this
      obtain ⟨p, hp, hp0, hpk⟩ := hm
      have hzp : z = p.2 := keyK_inj _ _ hg (hP.rg _ (h.pk p hp)) hpk
      have hnh : hitK l fault z = false := by rw [hzp]; exact hP.nohit _ (h.pk p hp)
      rw [hnh] at hstep
      dsimp only
      rw [if_neg (by simp)]
      refine .inr ⟨[], _, rfl, ?_⟩
      rw [List.append_nil]
      refine ⟨h.inv.old hc hr hstep (List.mem_map.2 ⟨p, hp, hzp.symm⟩), h.st, h.ord, e6.congr (fun k => ?_), ?_, ?_, h.pk, h.nd, h.sz⟩
      · constructor
        · rintro (rfl | z')
          · exact ⟨p, hp, hp0, hpk⟩
          · exact z'
        · exact fun z' => .inr z'
      · have := e5 rfl; have := h.cc; dsimp only; omega
      · have := h.cc; dsimp only; rcases e3 with e3 | e3 <;> omega
    | true =>
      have hm : ¬ ∃ p, p ∈ q ∧ p.2 ≠ x0K ∧ keyK z = keyK p.2 := e2.1 rfl
      have hnew : z ∉ q.map Prod.snd := by
        intro hzq
        obtain ⟨p, hp, e⟩ := List.mem_map.1 hzq
        exact hm ⟨p, hp, by rw [e]; exact hx0, by rw [e]⟩
      have hsz := h.sz _ hmem
      dsimp only at hsz
      have hszO : (letK n ++ oneB (letOf c)).size = (letK n).size + 1 := by rw [ByteArray.size_append, oneB_size]
      rw [if_pos rfl, letter_is c hc, Option.bind_some]
      dsimp only
      rw [if_pos ⟨by omega, by omega, by omega⟩]
      by_cases hh : hitK l fault z = true
      · rw [if_pos hh]
        rw [hh] at hstep
        have hi2 := h.inv.hit hc hr hstep
        exact .inl ⟨_, rfl, .inl ⟨_, hi2.1, hi2.2, by rw [letK_succ n c hc]⟩⟩
      · rw [if_neg hh]
        have hnh : hitK l fault z = false := Bool.eq_false_iff.2 hh
        rw [hnh] at hstep
        refine .inr ⟨[(2 * n + 1 + c, z)], _, rfl, ?_⟩
        refine ⟨h.inv.new hc hr hstep, ?_, ?_, e6.congr (fun k => ?_), ?_, ?_, ?_, ?_, ?_⟩
        · dsimp only; rw [h.st, List.map_append]; rfl
        · dsimp only; rw [h.ord, List.map_append, List.map_singleton, letK_succ n c hc]
        · constructor
          · rintro (rfl | ⟨p, hp, h1, h2⟩)
            · exact ⟨_, List.mem_append_right _ (List.mem_singleton.2 rfl), hx0, rfl⟩
            · exact ⟨p, List.mem_append_left _ hp, h1, h2⟩
          · rintro ⟨p, hp, h1, h2⟩
            rcases List.mem_append.1 hp with hp | hp
            · exact .inr ⟨p, hp, h1, h2⟩
            · rw [List.mem_singleton.1 hp] at h2
              exact .inl h2
        · have := h.cc; rw [List.length_append, List.length_singleton]; dsimp only; omega
        · have := h.cc; rw [List.length_append, List.length_singleton]; dsimp only; rcases e3 with e3 | e3 <;> omega
        · intro p hp
          rcases List.mem_append.1 hp with hp | hp
          · exact h.pk p hp
          · rw [List.mem_singleton.1 hp]; exact hpz hnh
        · rw [List.map_append, List.nodup_append]
          refine ⟨h.nd, by simp, ?_⟩
          intro a ha b hb e
          simp only [List.map_cons, List.map_nil, List.mem_singleton] at hb
          subst e
          rw [hb] at ha
          exact hnew ha
        · intro p hp
          rw [List.length_append, List.length_singleton]
          rcases List.mem_append.1 hp with hp | hp
          · have := h.sz p hp; omega
          · rw [List.mem_singleton.1 hp]; dsimp only; rw [letK_succ n c hc]; omega
theorem sorted_get {S : Type} {q : List (Nat × S)} (h : q.Pairwise (fun a b => a.1 < b.1)) {i : Nat} {n m : Nat} {s t : S} (hi : q[i]? = some (n, s)) (hj : q[i + 1]? = some (m, t)) : n < m ∧ ∀ p ∈ q, p.1 ≤ n ∨ m ≤ p.1 := by
  have hi1 := (List.getElem?_eq_some_iff.1 hi)
  have hj1 := (List.getElem?_eq_some_iff.1 hj)
  obtain ⟨hi1, hi2⟩ := hi1
  obtain ⟨hj1, hj2⟩ := hj1
  rw [List.pairwise_iff_getElem] at h
  refine ⟨by have := h i (i + 1) hi1 hj1 (by omega); rw [hi2, hj2] at this; exact this, ?_⟩
  intro p hp
  obtain ⟨k, hk, e⟩ := List.getElem_of_mem hp
  rcases (show k < i ∨ k = i ∨ k = i + 1 ∨ i + 1 < k by omega) with z | z | z | z
  · have := h k i hk hi1 z; rw [hi2, e] at this; left; dsimp only at this; omega
  · subst z; rw [hi2] at e; subst e; left; exact Nat.le_refl _
  · subst z; rw [hj2] at e; subst e; right; exact Nat.le_refl _
  · have := h (i + 1) k hj1 hk z; rw [hj2, e] at this; right; dsimp only at this; omega
theorem sorted_last {S : Type} {q : List (Nat × S)} (h : q.Pairwise (fun a b => a.1 < b.1)) {i : Nat} {n : Nat} {s : S} (hi : q[i]? = some (n, s)) (hl : i + 1 = q.length) : ∀ p ∈ q, p.1 ≤ n := by
  obtain ⟨hi1, hi2⟩ := (List.getElem?_eq_some_iff.1 hi)
  rw [List.pairwise_iff_getElem] at h
  intro p hp
  obtain ⟨k, hk, e⟩ := List.getElem_of_mem hp
  rcases (show k < i ∨ k = i by omega) with z | z
  · have := h k i hk hi1 z; rw [hi2, e] at this; dsimp only at this; omega
  · subst z; rw [hi2] at e; subst e; exact Nat.le_refl _
theorem lk_row {l : Lnk} {ratio : Int} {fault : Bool} {Pk : S57 → Prop} (hP : PC l ratio fault Pk) (K : Nat) (hK : 1099511627776 ≤ K) : ∀ (f : Nat) (q : List (Nat × S57)) (i : Nat) (s : LkS) (n : Nat) (y : S57), q[i]? = some (n, y) → LI l ratio fault Pk q (2 * n + 1) s → 17179869190 ≤ f + i →
    ∃ r, lkRow K l ratio fault f (i : Int) s = some r ∧ (kSys l ratio fault).tells letK r
  | 0, q, i, s, n, y, hi, h, hf => by
    have := h.len hP
    have := (List.getElem?_eq_some_iff.1 hi).1
    omega
  | f + 1, q, i, s, n, y, hi, h, hf => by
    have hlen := h.len hP
    have hil := (List.getElem?_eq_some_iff.1 hi).1
    have hl1 : s.st.length = q.length := by rw [h.st, List.length_map]
    have hw : wrap64 ((i : Int) + 1) = ((i + 1 : Nat) : Int) := by unfold wrap64; omega
    simp only [lkRow]
    rw [if_pos (show (i : Int) < s.st.length by omega), if_neg (show ¬ (1099511627776 : Int) ≤ (i : Int) by omega), hw]
    obtain ⟨K3, rfl⟩ : ∃ k, K = k + 1 + 1 + 1 := ⟨K - 3, by omega⟩
    have hz : (0 : Int) = ((0 : Nat) : Int) := rfl
    rw [hz]
    rcases lk_step hP _ hK (c := 0) h hi (by omega) (K3 + 1 + 1) (fun t => lkRow (K3 + 1 + 1 + 1) l ratio fault f ((i + 1 : Nat) : Int) t) with ⟨r, e, ht⟩ | ⟨e1, s1, e, h1⟩
    · exact ⟨r, e, ht⟩
    rw [e]
    have hi1 : (q ++ e1)[i]? = some (n, y) := by rw [List.getElem?_append_left hil]; exact hi
    rcases lk_step hP _ hK (c := 1) h1 hi1 (by omega) (K3 + 1) (fun t => lkRow (K3 + 1 + 1 + 1) l ratio fault f ((i + 1 : Nat) : Int) t) with ⟨r, e', ht⟩ | ⟨e2, s2, e', h2⟩
    · exact ⟨r, e', ht⟩
    rw [e']
    have hi2 : (q ++ e1 ++ e2)[i]? = some (n, y) := by rw [List.getElem?_append_left (by rw [List.length_append]; omega)]; exact hi1
    simp only [lkSide]
    rw [if_neg (by decide)]
    have hlen2 := h2.len hP
    by_cases hnx : i + 1 < (q ++ e1 ++ e2).length
    · obtain ⟨⟨m, t⟩, hj⟩ : ∃ p, (q ++ e1 ++ e2)[i + 1]? = some p := ⟨_, List.getElem?_eq_getElem hnx⟩
      have hsg := sorted_get h2.inv.sorted hi2 hj
      have hb := h2.inv.below _ (List.mem_of_getElem? hj)
      exact lk_row hP _ hK f _ (i + 1) s2 m t hj ⟨h2.inv.jump hsg.1 hsg.2 hb, h2.st, h2.ord, h2.tb, h2.cc, h2.tl, h2.pk, h2.nd, h2.sz⟩ (by omega)
    · have hil2 := (List.getElem?_eq_some_iff.1 hi2).1
      obtain ⟨f1, rfl⟩ : ∃ k, f = k + 1 := ⟨f - 1, by omega⟩
      have hl2 : s2.st.length = (q ++ e1 ++ e2).length := by rw [h2.st, List.length_map]
      simp only [lkRow]
      rw [if_neg (show ¬ ((i + 1 : Nat) : Int) < s2.st.length by omega)]
      exact ⟨_, rfl, .inr ⟨h2.inv.done (sorted_last h2.inv.sorted hi2 (by omega)), rfl⟩⟩
theorem lk_tells {l : Lnk} {ratio : Int} {fault : Bool} {Pk : S57 → Prop} (hP : PC l ratio fault Pk) (h0 : Pk x0K) (K : Nat) (hK : 1099511627776 ≤ K) (hn : ¬ (fault = false ∧ l.wd = 0)) : ∃ r, lkF K l ratio fault = some r ∧ (kSys l ratio fault).tells letK r := by
  unfold lkF
  rw [if_neg hn]
  refine lk_row hP K hK K [(0, x0K)] 0 _ 0 x0K rfl ⟨SInv.start _, rfl, ?_, ?_, ?_, ?_, ?_, ?_, ?_⟩ (by omega)
  · rw [List.map_singleton, letK_zero]
  · exact (Good.empty 0).congr (fun k => ⟨fun z => z.elim, fun ⟨p, hp, h1, _⟩ => h1 (by rw [List.mem_singleton.1 hp])⟩)
  · simp
  · simp
  · intro p hp; rw [List.mem_singleton.1 hp]; exact h0
  · simp
  · intro p hp; rw [List.mem_singleton.1 hp]; dsimp only; rw [letK_zero]; exact Nat.zero_le _
end Go.Proofs.Ytgmnbpdfdagniaa.A
/- The link: the program's search ends, and tells the first of the shortest words that is accepted. No conditions. -/
namespace Go.Proofs.Ytgmnbpdfdagniaa.A
open Go.RowKit Go.Proofs.YtgmnbpdfdagniaaW.PrintWords Go.Proofs.YtgmnbpdfdagniaaW.PrintLast Go.Proofs.YtgmnbpdfdagniaaW.PrintMore
set_option linter.unusedVariables false
set_option linter.unusedSimpArgs false
def nSys (l : Lnk) (ratio : Int) (hold : LN → Bool → Bool) : Sys LN where
  s0 := zN
  step := fun x c => (afterN l (letOf c) ratio x).bind fun p => if p.2.2 = true then (if hold p.1 p.2.1 = true then some (p.1, true) else if p.2.1 = true then some (p.1, false) else none) else none
/-- The ranges of a node's numbers. -/
structure NG (x : LN) : Prop where
  g0 : 0 ≤ x.sent ∧ x.sent ≤ 7
  g1 : 0 ≤ x.req ∧ x.req ≤ 7
  g2 : 0 ≤ x.ans ∧ x.ans ≤ 7
  g3 : -1 ≤ x.plc ∧ x.plc ≤ 6
  g4 : 0 ≤ x.word ∧ x.word ≤ 7
  g5 : 0 ≤ x.gone ∧ x.gone ≤ 7
  g6 : 0 ≤ x.s0 ∧ x.s0 ≤ 1
  g7 : 0 ≤ x.s1 ∧ x.s1 ≤ 1
  g8 : 0 ≤ x.r0 ∧ x.r0 ≤ 1
  g9 : 0 ≤ x.r1 ∧ x.r1 ≤ 1
  g10 : 0 ≤ x.taken ∧ x.taken ≤ 7
  g11 : x.last = 0 ∨ x.last = 114 ∨ x.last = 115
  g12 : 0 ≤ x.run ∧ x.run ≤ 7
def keyN (x : LN) : Int :=
  8 * (8 * (8 * (8 * (8 * (8 * (8 * (8 * (8 * (8 * (8 * x.sent + x.req) + x.ans) + (x.plc + 1)) + x.word) + x.gone) + (x.s0 + 2 * x.s1)) + (x.r0 + 2 * x.r1)) + x.taken) + (if x.last = 0 then 0 else x.last - 113)) + x.run) + (if x.ow = true then 1 else 0)
theorem keyN_range (x : LN) (h : NG x) : 0 ≤ keyN x ∧ keyN x < 68719476736 := by
  obtain ⟨g0, g1, g2, g3, g4, g5, g6, g7, g8, g9, g10, g11, g12⟩ := h
  unfold keyN
  split <;> split <;> omega
theorem keyN_inj (x z : LN) (hx : NG x) (hz : NG z) (h : keyN x = keyN z) : x = z := by
  obtain ⟨g0, g1, g2, g3, g4, g5, g6, g7, g8, g9, g10, g11, g12⟩ := hx
  obtain ⟨k0, k1, k2, k3, k4, k5, k6, k7, k8, k9, k10, k11, k12⟩ := hz
  unfold keyN at h
  obtain ⟨h, h13⟩ := dig h (by split <;> omega) (by split <;> omega)
  obtain ⟨h, h12⟩ := dig h g12 k12
  obtain ⟨h, h11⟩ := dig h (by split <;> omega) (by split <;> omega)
  obtain ⟨h, h10⟩ := dig h g10 k10
  obtain ⟨h, h8⟩ := dig h (by omega) (by omega)
  obtain ⟨h, h6⟩ := dig h (by omega) (by omega)
  obtain ⟨h, h5⟩ := dig h g5 k5
  obtain ⟨h, h4⟩ := dig h g4 k4
  obtain ⟨h, h3⟩ := dig h (by omega) (by omega)
  obtain ⟨h, h2⟩ := dig h g2 k2
  obtain ⟨h0, h1⟩ := dig h g1 k1
  have e11 : x.last = z.last := by
    split at h11 <;> split at h11 <;> omega
  have e13 : x.ow = z.ow := by
    cases ha : x.ow <;> cases hb : z.ow <;> simp [ha, hb] at h13 ⊢
  cases x; cases z
  simp only at *
  simp only [LN.mk.injEq]
  exact ⟨h0, h1, h2, by omega, e13, h4, h5, by omega, by omega, by omega, by omega, h10, e11, h12⟩
/-- What is known of the nodes that are met. -/
structure NC (l : Lnk) (ratio : Int) (hold : LN → Bool → Bool) (Pn : LN → Prop) : Prop where
  rg : ∀ x, Pn x → NG x
  stp : ∀ x c, Pn x → c < 2 → ∃ z right keeps, afterN l (letOf c) ratio x = some (z, right, keeps) ∧ (keeps = true → hold z right = false → right = true → Pn z)
structure NL (l : Lnk) (ratio : Int) (hold : LN → Bool → Bool) (Pn : LN → Prop) (q : List (Nat × LN)) (m : Nat) (M : MapO) : Prop where
  inv : SInv (nSys l ratio hold) q m
  map : M = q.map (fun p => (p.2, letK p.1))
  pn : ∀ p ∈ q, Pn p.2
  nd : (q.map Prod.snd).Nodup
  sz : ∀ p ∈ q, (letK p.1).size ≤ q.length
theorem NL.len {l : Lnk} {ratio : Int} {hold : LN → Bool → Bool} {Pn : LN → Prop} {q : List (Nat × LN)} {m : Nat} {M : MapO} (hP : NC l ratio hold Pn) (h : NL l ratio hold Pn q m M) : q.length ≤ 68719476736 := by
  have := few (q.map Prod.snd) keyN 68719476736 h.nd (fun y hy => by
    obtain ⟨p, hp, rfl⟩ := List.mem_map.1 hy
    exact keyN_range _ (hP.rg _ (h.pn p hp))) (fun y hy z hz e => by
    obtain ⟨p, hp, rfl⟩ := List.mem_map.1 hy
    obtain ⟨p', hp', rfl⟩ := List.mem_map.1 hz
    exact keyN_inj _ _ (hP.rg _ (h.pn p hp)) (hP.rg _ (h.pn p' hp')) e)
  simpa using this
theorem lookN_none {α : Type} : ∀ (M : List (LN × α)) (y : LN), (lookN M y).isSome = false ↔ y ∉ M.map Prod.fst
  | [], y => by simp [lookN]
  | p :: M, y => by
    have ih := lookN_none M y
    simp only [lookN, List.map_cons, List.mem_cons, not_or]
    by_cases h : sameN y p.1 = true
    · rw [if_pos h]
      have := (sameN_iff _ _).1 h
      simp [this]
    · rw [if_neg h, ih]
      have : ¬ y = p.1 := fun e => h ((sameN_iff _ _).2 e)
      simp [this]
theorem lookN_at {α : Type} : ∀ (M : List (LN × α)), (M.map Prod.fst).Nodup → ∀ (i : Nat) (y : LN) (v : α), M[i]? = some (y, v) → lookN M y = some v
  | [], _, i, y, v, h => by simp at h
  | p :: M, hn, 0, y, v, h => by
    simp only [List.getElem?_cons_zero, Option.some.injEq] at h
    subst h
    simp only [lookN]
    rw [if_pos ((sameN_iff _ _).2 rfl)]
  | p :: M, hn, i + 1, y, v, h => by
    simp only [List.getElem?_cons_succ] at h
    simp only [List.map_cons, List.nodup_cons] at hn
    simp only [lookN]
    rw [if_neg (fun e => by
      have := (sameN_iff _ _).1 e
      subst this
      exact hn.1 (List.mem_map.2 ⟨_, List.mem_of_getElem? h, rfl⟩))]
    exact lookN_at M hn.2 i y v h
theorem setN_new {α : Type} : ∀ (M : List (LN × α)) (y : LN) (v : α), y ∉ M.map Prod.fst → setN M y v = M ++ [(y, v)]
  | [], y, v, _ => rfl
  | p :: M, y, v, h => by
    simp only [List.map_cons, List.mem_cons, not_or] at h
    simp only [setN]
    rw [if_neg (fun e => h.1 ((sameN_iff _ _).1 e)), setN_new M y v h.2]
    rfl
theorem fo_step {l : Lnk} {ratio : Int} {hold : LN → Bool → Bool} {Pn : LN → Prop} (hP : NC l ratio hold Pn) {q : List (Nat × LN)} {n c i : Nat} {x : LN} {M : MapO}
    (h : NL l ratio hold Pn q (2 * n + 1 + c) M) (hi : q[i]? = some (n, x)) (hc : c < 2) (Ls : List Int) (next : List LN → MapO → Option (ByteArray × Bool)) :
    (∃ r, foLet l ratio hold x next (letOf c :: Ls) ((q.drop (i + 1)).map Prod.snd) M = some r ∧ (nSys l ratio hold).tells letK r) ∨
    ∃ e M', foLet l ratio hold x next (letOf c :: Ls) ((q.drop (i + 1)).map Prod.snd) M = foLet l ratio hold x next Ls (((q ++ e).drop (i + 1)).map Prod.snd) M' ∧ NL l ratio hold Pn (q ++ e) (2 * n + 1 + c + 1) M' := by
  have hlen := h.len hP
  have hil : i < q.length := (List.getElem?_eq_some_iff.1 hi).1
  have hmem : (n, x) ∈ q := List.mem_of_getElem? hi
  have hr := h.inv.runs _ hmem
  have hfst : M.map Prod.fst = q.map Prod.snd := by rw [h.map, List.map_map]; rfl
  have hlk : lookN M x = some (letK n) := by
    refine lookN_at M (by rw [hfst]; exact h.nd) i x _ ?_
    rw [h.map, List.getElem?_map, hi]
    rfl
  obtain ⟨z, right, keeps, hz, hb⟩ := hP.stp x c (h.pn _ hmem) hc
  have hsz := h.sz _ hmem
  dsimp only at hsz
  have hszO : (letK n ++ oneB (letOf c)).size = (letK n).size + 1 := by rw [ByteArray.size_append, oneB_size]
  simp only [foLet]
  rw [hz, Option.bind_some, hlk]
  dsimp only [Option.getD]
  cases keeps with
  | false =>
    rw [if_neg (by simp)]
    refine .inr ⟨[], M, by rw [List.append_nil], ?_⟩
    rw [List.append_nil]
    exact ⟨h.inv.skip hc hr (by simp [nSys, hz]), h.map, h.pn, h.nd, h.sz⟩
  | true =>
    rw [if_pos rfl, if_pos ⟨by omega, by rw [List.length_map, List.length_drop]; omega⟩]
    by_cases hh : hold z right = true
    · rw [if_pos hh]
      have hi2 := h.inv.hit (t := z) hc hr (by simp [nSys, hz, hh])
      exact .inl ⟨_, rfl, .inl ⟨_, hi2.1, hi2.2, by rw [letK_succ n c hc]⟩⟩
    · rw [if_neg hh]
      have hhf : hold z right = false := Bool.eq_false_iff.2 hh
      cases right with
      | false =>
        rw [if_neg (by simp)]
        refine .inr ⟨[], M, by rw [List.append_nil], ?_⟩
        rw [List.append_nil]
        exact ⟨h.inv.skip hc hr (by simp [nSys, hz, hhf]), h.map, h.pn, h.nd, h.sz⟩
      | true =>
        have hstep : (nSys l ratio hold).step x c = some (z, false) := by simp [nSys, hz, hhf]
        cases hs : (lookN M z).isSome with
        | true =>
          rw [if_neg (by simp)]
          refine .inr ⟨[], M, by rw [List.append_nil], ?_⟩
          rw [List.append_nil]
          have hin : z ∈ q.map Prod.snd := by
            by_cases hin : z ∈ q.map Prod.snd
            · exact hin
            · rw [← hfst] at hin
              have := (lookN_none M z).2 hin
              rw [hs] at this
              cases this
          exact ⟨h.inv.old hc hr hstep hin, h.map, h.pn, h.nd, h.sz⟩
        | false =>
          rw [if_pos ⟨rfl, rfl⟩]
          have hnew := (lookN_none M z).1 hs
          rw [setN_new M z _ hnew]
          rw [hfst] at hnew
          refine .inr ⟨[(2 * n + 1 + c, z)], M ++ [(z, letK n ++ oneB (letOf c))], ?_, ?_⟩
          · rw [List.drop_append_of_le_length (by omega), List.map_append]
            rfl
          · refine ⟨h.inv.new hc hr hstep, ?_, ?_, ?_, ?_⟩
            · rw [h.map, List.map_append, List.map_singleton, letK_succ n c hc]
            · intro p hp
              rcases List.mem_append.1 hp with hp | hp
              · exact h.pn p hp
              · rw [List.mem_singleton.1 hp]; exact hb rfl hhf rfl
            · rw [List.map_append, List.nodup_append]
              refine ⟨h.nd, by simp, ?_⟩
              intro a ha b hb e
              simp only [List.map_cons, List.map_nil, List.mem_singleton] at hb
              subst e
              rw [hb] at ha
              exact hnew ha
            · intro p hp
              rw [List.length_append, List.length_singleton]
              rcases List.mem_append.1 hp with hp | hp
              · have := h.sz p hp; omega
              · rw [List.mem_singleton.1 hp]; dsimp only; rw [letK_succ n c hc]; omega
theorem fo_row {l : Lnk} {ratio : Int} {hold : LN → Bool → Bool} {Pn : LN → Prop} (hP : NC l ratio hold Pn) : ∀ (f : Nat) (q : List (Nat × LN)) (i : Nat) (M : MapO) (n : Nat) (x : LN), q[i]? = some (n, x) → NL l ratio hold Pn q (2 * n + 1) M → 68719476742 ≤ f + i →
    ∃ r, foRow l ratio hold f ((q.drop i).map Prod.snd) M = some r ∧ (nSys l ratio hold).tells letK r
  | 0, q, i, M, n, x, hi, h, hf => by
    have := h.len hP
    have := (List.getElem?_eq_some_iff.1 hi).1
    omega
  | f + 1, q, i, M, n, x, hi, h, hf => by
    have hlen := h.len hP
    have hil := (List.getElem?_eq_some_iff.1 hi).1
    have hd : (q.drop i).map Prod.snd = x :: (q.drop (i + 1)).map Prod.snd := by
      rw [List.drop_eq_getElem_cons hil, List.map_cons, (List.getElem?_eq_some_iff.1 hi).2]
    rw [hd]
    simp only [foRow]
    rw [show ([114, 115] : List Int) = [letOf 0, letOf 1] from rfl]
    rcases fo_step hP (c := 0) h hi (by omega) [letOf 1] (fun X M => foRow l ratio hold f X M) with ⟨r, e, ht⟩ | ⟨e1, M1, e, h1⟩
    · exact ⟨r, e, ht⟩
    rw [e]
    have hi1 : (q ++ e1)[i]? = some (n, x) := by rw [List.getElem?_append_left hil]; exact hi
    rcases fo_step hP (c := 1) h1 hi1 (by omega) [] (fun X M => foRow l ratio hold f X M) with ⟨r, e', ht⟩ | ⟨e2, M2, e', h2⟩
    · exact ⟨r, e', ht⟩
    rw [e']
    have hi2 : (q ++ e1 ++ e2)[i]? = some (n, x) := by rw [List.getElem?_append_left (by rw [List.length_append]; omega)]; exact hi1
    simp only [foLet]
    have hlen2 := h2.len hP
    by_cases hnx : i + 1 < (q ++ e1 ++ e2).length
    · obtain ⟨⟨m, t⟩, hj⟩ : ∃ p, (q ++ e1 ++ e2)[i + 1]? = some p := ⟨_, List.getElem?_eq_getElem hnx⟩
      have hsg := sorted_get h2.inv.sorted hi2 hj
      have hb := h2.inv.below _ (List.mem_of_getElem? hj)
      exact fo_row hP f _ (i + 1) M2 m t hj ⟨h2.inv.jump hsg.1 hsg.2 hb, h2.map, h2.pn, h2.nd, h2.sz⟩ (by omega)
    · have hil2 := (List.getElem?_eq_some_iff.1 hi2).1
      obtain ⟨f1, rfl⟩ : ∃ k, f = k + 1 := ⟨f - 1, by omega⟩
      rw [List.drop_of_length_le (by omega)]
      simp only [List.map_nil, foRow]
      exact ⟨_, rfl, .inr ⟨h2.inv.done (sorted_last h2.inv.sorted hi2 (by omega)), rfl⟩⟩
theorem fo_tells {l : Lnk} {ratio : Int} {hold : LN → Bool → Bool} {Pn : LN → Prop} (hP : NC l ratio hold Pn) (h0 : Pn zN) (K : Nat) (hK : 1099511627776 ≤ K) (hn : hold zN true = false) : ∃ r, foF K l ratio hold = some r ∧ (nSys l ratio hold).tells letK r := by
  unfold foF
  rw [if_neg (by rw [hn]; decide)]
  refine fo_row hP K [(0, zN)] 0 _ 0 zN rfl ⟨SInv.start _, ?_, ?_, ?_, ?_⟩ (by omega)
  · rw [List.map_singleton, letK_zero]
  · intro p hp; rw [List.mem_singleton.1 hp]; exact h0
  · simp
  · intro p hp; rw [List.mem_singleton.1 hp]; dsimp only; rw [letK_zero]; exact Nat.zero_le _
end Go.Proofs.Ytgmnbpdfdagniaa.A
