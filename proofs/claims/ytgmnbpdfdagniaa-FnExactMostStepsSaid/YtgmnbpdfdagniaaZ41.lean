/- Texts of this claim, put together by this session's pack2.py: each part is introduced by its own comment. No conditions. -/
import Derived.Test.YtgmnbpdfdagniaaL5
import Derived.Test.YtgmnbpdfdagniaaZ0
import Derived.Test.YtgmnbpdfdagniaaN1
/- The link: the ways of a safe link's nodes are bounded, and the program's search tells the longest one. No conditions. -/
namespace Go.Proofs.Ytgmnbpdfdagniaa.A
open Go.RowKit Go.Proofs.YtgmnbpdfdagniaaW.PrintWords Go.Proofs.YtgmnbpdfdagniaaW.PrintLast Go.Proofs.YtgmnbpdfdagniaaW.PrintMore
set_option linter.unusedVariables false
set_option linter.unusedSimpArgs false
def JN (l : Lnk) (x : LN) : Prop := JI l.ph l.sg x.req x.ans x.sent x.s0 x.s1 x.r0 x.r1 x.taken
def phiN (l : Lnk) (ratio : Int) (x : LN) : Int := ((l.wd - x.taken) * 4 + pI l.ph x.req x.ans) * 20 + kI l.sg x.req x.ans x.s0 x.s1 x.r0 x.r1 * (ratio + 1) + rI ratio x.req x.ans x.last x.run
theorem letN_is (L : Int) (x : LN) (h : 0 ≤ x.run ∧ x.run ≤ 4) : ∃ run, letN L x = { x with last := L, run := run } ∧ run = (if x.last = L then x.run + 1 else 1) := by
  by_cases hx : x.last = L
  · refine ⟨x.run + 1, ?_, by rw [if_pos hx]⟩
    unfold letN
    rw [if_pos hx, small64 (by omega) (by omega), ← hx]
  · refine ⟨1, ?_, by rw [if_neg hx]⟩
    unfold letN
    rw [if_neg hx]
theorem wayN_keep (l : Lnk) (x : LN) : (wayN l x).req = x.req ∧ (wayN l x).ans = x.ans ∧ (wayN l x).sent = x.sent ∧ (wayN l x).taken = x.taken ∧ (wayN l x).s0 = x.s0 ∧ (wayN l x).s1 = x.s1 ∧ (wayN l x).r0 = x.r0 ∧ (wayN l x).r1 = x.r1 ∧ (wayN l x).last = x.last ∧ (wayN l x).run = x.run := by
  unfold wayN
  split
  · split <;> exact ⟨rfl, rfl, rfl, rfl, rfl, rfl, rfl, rfl, rfl, rfl⟩
  · exact ⟨rfl, rfl, rfl, rfl, rfl, rfl, rfl, rfl, rfl, rfl⟩
theorem sees_is {l : Lnk} (hl : LOk l) (a b set : Int) : seesF l a b set = some (seenI l.sg a b set) := by
  unfold seesF seenI
  rcases hl.sg with h | h | h <;> simp [h]
theorem sendN_keep (l : Lnk) (x : LN) : (sendN l x).req = x.req ∧ (sendN l x).ans = x.ans ∧ (sendN l x).sent = wrap64 (x.sent + 1) ∧ (sendN l x).taken = x.taken ∧ (sendN l x).r0 = x.r0 ∧ (sendN l x).r1 = x.r1 ∧ (sendN l x).last = x.last ∧ (sendN l x).run = x.run := by
  unfold sendN
  split <;> exact ⟨rfl, rfl, rfl, rfl, rfl, rfl, rfl, rfl⟩
theorem send_fields {l : Lnk} (hl : LOk l) {x z : LN} (hb : Bit x.req) (hs : 0 ≤ x.sent ∧ x.sent ≤ 4) (h : stepS l x = some z) :
    (z.ans = x.ans ∧ z.s0 = x.ans ∧ z.s1 = x.s0 ∧ z.r0 = x.r0 ∧ z.r1 = x.r1 ∧ z.taken = x.taken ∧ z.last = x.last ∧ z.run = x.run) ∧
    ((l.ph = 2 ∧ seenI l.sg x.s0 x.s1 x.ans = x.req ∧ x.sent < l.wd ∧ z.req = 1 - x.req ∧ z.sent = x.sent + 1) ∨ (l.ph = 4 ∧ x.req = 0 ∧ seenI l.sg x.s0 x.s1 x.ans = 0 ∧ x.sent < l.wd ∧ z.req = 1 ∧ z.sent = x.sent + 1) ∨ (l.ph = 4 ∧ x.req = 1 ∧ seenI l.sg x.s0 x.s1 x.ans = 1 ∧ z.req = 0 ∧ z.sent = x.sent) ∨
      (¬ (l.ph = 2 ∧ seenI l.sg x.s0 x.s1 x.ans = x.req ∧ x.sent < l.wd) ∧ ¬ (l.ph = 4 ∧ x.req = 0 ∧ seenI l.sg x.s0 x.s1 x.ans = 0 ∧ x.sent < l.wd) ∧ ¬ (l.ph = 4 ∧ x.req = 1 ∧ seenI l.sg x.s0 x.s1 x.ans = 1) ∧ z.req = x.req ∧ z.sent = x.sent)) := by
  unfold stepS at h
  rw [sees_is hl, Option.bind_some] at h
  have h := Option.some.inj h
  obtain ⟨k0, k1, k2, k3, k4, k5, k6, k7, k8, k9⟩ := wayN_keep l x
  generalize wayN l x = y at h k0 k1 k2 k3 k4 k5 k6 k7 k8 k9
  generalize seenI l.sg x.s0 x.s1 x.ans = sv at h ⊢
  unfold Bit at hb
  have hw1 : wrap64 (1 - y.req) = 1 - y.req := small64 (by omega) (by omega)
  have hw2 : wrap64 (y.sent + 1) = y.sent + 1 := small64 (by omega) (by omega)
  unfold reqN at h
  by_cases c1 : l.ph = 2 ∧ sv = x.req ∧ x.sent < l.wd
  · rw [if_pos (show l.ph = 2 ∧ sv = y.req ∧ y.sent < l.wd by rw [k0, k2]; exact c1)] at h
    have hm := sendN_keep l { y with req := wrap64 (1 - y.req) }
    generalize sendN l { y with req := wrap64 (1 - y.req) } = q at h hm
    obtain ⟨m0, m1, m2, m3, m4, m5, m6, m7⟩ := hm
    dsimp only at m0 m1 m2 m3 m4 m5 m6 m7
    subst h
    dsimp only
    exact ⟨⟨m1.trans k1, rfl, rfl, m4.trans k6, m5.trans k7, m3.trans k3, m6.trans k8, m7.trans k9⟩, .inl ⟨c1.1, c1.2.1, c1.2.2, by rw [m0, hw1, k0], by rw [m2, hw2, k2]⟩⟩
  · rw [if_neg (show ¬ (l.ph = 2 ∧ sv = y.req ∧ y.sent < l.wd) by rw [k0, k2]; exact c1)] at h
    by_cases c2 : l.ph = 4 ∧ x.req = 0 ∧ sv = 0 ∧ x.sent < l.wd
    · rw [if_pos (show l.ph = 4 ∧ y.req = 0 ∧ sv = 0 ∧ y.sent < l.wd by rw [k0, k2]; exact c2)] at h
      have hm := sendN_keep l { y with req := 1 }
      generalize sendN l { y with req := 1 } = q at h hm
      obtain ⟨m0, m1, m2, m3, m4, m5, m6, m7⟩ := hm
      dsimp only at m0 m1 m2 m3 m4 m5 m6 m7
      subst h
      dsimp only
      exact ⟨⟨m1.trans k1, rfl, rfl, m4.trans k6, m5.trans k7, m3.trans k3, m6.trans k8, m7.trans k9⟩, .inr (.inl ⟨c2.1, c2.2.1, c2.2.2.1, c2.2.2.2, m0, by rw [m2, hw2, k2]⟩)⟩
    · rw [if_neg (show ¬ (l.ph = 4 ∧ y.req = 0 ∧ sv = 0 ∧ y.sent < l.wd) by rw [k0, k2]; exact c2)] at h
      by_cases c3 : l.ph = 4 ∧ x.req = 1 ∧ sv = 1
      · rw [if_pos (show l.ph = 4 ∧ y.req = 1 ∧ sv = 1 by rw [k0]; exact c3)] at h
        subst h
        exact ⟨⟨k1, rfl, rfl, k6, k7, k3, k8, k9⟩, .inr (.inr (.inl ⟨c3.1, c3.2.1, c3.2.2, rfl, k2⟩))⟩
      · rw [if_neg (show ¬ (l.ph = 4 ∧ y.req = 1 ∧ sv = 1) by rw [k0]; exact c3)] at h
        subst h
        exact ⟨⟨k1, rfl, rfl, k6, k7, k3, k8, k9⟩, .inr (.inr (.inr ⟨c1, c2, c3, k0, k2⟩))⟩
theorem node_phi {l : Lnk} {ratio : Int} {x z : LN} {y : S57} {right : Bool} {c : Nat} (hl : LOk l) (hr : 1 ≤ ratio ∧ ratio ≤ 4) (h : RL l ratio x y) (hJ : JN l x) (ht : x.taken < l.wd) (hc : c < 2) (e : afterN l (letOf c) ratio x = some (z, right, true)) :
    JN l z ∧ phiN l ratio z < phiN l ratio x := by
  have h0 := h.r0
  obtain ⟨-, n1, n2⟩ := h.rn
  have hb0 := h0.b0
  have hb1 := h0.b1
  have hb2 := h0.b2
  have hb3 := h0.b3
  have hb4 := h0.b4
  have hb5 := h0.b5
  have hs := h0.n0
  have hn5 := h0.n5
  have hwd := hl.wd
  have hll : x.last = 0 ∨ x.last = 114 ∨ x.last = 115 := by have := h.ls; omega
  obtain ⟨run, hlet, hrun⟩ := letN_is (letOf c) x (by omega)
  unfold afterN at e
  rw [hlet] at e
  unfold JN at hJ ⊢
  unfold phiN
  rcases (show c = 1 ∨ c = 0 by omega) with rfl | rfl
  · rw [if_pos (show letOf 1 = 115 from rfl)] at e
    obtain ⟨z', h1, h2⟩ := Option.bind_eq_some_iff.1 e
    simp only [Option.some.injEq, Prod.mk.injEq, decide_eq_true_eq] at h2
    obtain ⟨rfl, -, hk⟩ := h2
    obtain ⟨⟨f1, f2, f3, f4, f5, f6, f7, f8⟩, f9⟩ := send_fields hl (x := { x with last := letOf 1, run := run }) hb0 (by dsimp only; omega) h1
    dsimp only at f1 f2 f3 f4 f5 f6 f7 f8 f9
    rw [f1, f2, f3, f4, f5, f6, f7, f8]
    rw [f8] at hk
    exact phi_send l.ph l.sg l.wd ratio x.req x.ans x.sent x.s0 x.s1 x.r0 x.r1 x.taken x.last x.run z'.req z'.sent run hl.ph hl.sg hb0 hb1 hb2 hb3 hb4 hb5 hr ⟨n1, n2⟩ hll ht hJ hrun hk _ rfl f9
  · rw [if_neg (show ¬ letOf 0 = 115 by decide)] at e
    obtain ⟨⟨x2, v, tk⟩, h1, h2⟩ := Option.bind_eq_some_iff.1 e
    dsimp only at h2
    unfold stepR at h1
    rw [sees_is hl, Option.bind_some] at h1
    dsimp only at h1
    obtain ⟨sv, hsv⟩ : ∃ sv, seenI l.sg x.r0 x.r1 x.req = sv := ⟨_, rfl⟩
    rw [hsv] at h1
    have hsb : sv = 0 ∨ sv = 1 := by
      unfold Bit at hb0 hb4 hb5
      rw [← hsv]
      unfold seenI
      split
      · exact hb0
      · split
        · exact hb4
        · exact hb5
    have hw : wrap64 (x.taken + 1) = x.taken + 1 := small64 (by omega) (by omega)
    by_cases cv : sv = x.ans
    · rw [if_pos cv] at h1
      simp only [Option.some.injEq, Prod.mk.injEq] at h1
      obtain ⟨rfl, -, rfl⟩ := h1
      rw [if_neg (by decide)] at h2
      simp only [Option.some.injEq, Prod.mk.injEq, decide_eq_true_eq] at h2
      obtain ⟨rfl, -, hk⟩ := h2
      exact phi_take l.ph l.sg l.wd ratio x.req x.ans x.sent x.s0 x.s1 x.r0 x.r1 x.taken x.last x.run x.ans x.taken run hl.ph hl.sg hb0 hb1 hb2 hb3 hb4 hb5 hr ⟨n1, n2⟩ ht hJ hrun hk sv hsv.symm (.inr (.inr ⟨cv, rfl, rfl⟩))
    · rw [if_neg cv] at h1
      simp only [Option.some.injEq, Prod.mk.injEq] at h1
      obtain ⟨rfl, -, htk⟩ := h1
      by_cases ctk : l.ph = 2 ∨ sv = 1
      · have : tk = true := by
          rw [← htk]
          rcases ctk with h | h <;> simp [h]
        subst this
        rw [if_pos rfl] at h2
        simp only [Option.some.injEq, Prod.mk.injEq, decide_eq_true_eq] at h2
        obtain ⟨rfl, -, hk⟩ := h2
        rw [hw]
        exact phi_take l.ph l.sg l.wd ratio x.req x.ans x.sent x.s0 x.s1 x.r0 x.r1 x.taken x.last x.run sv (x.taken + 1) run hl.ph hl.sg hb0 hb1 hb2 hb3 hb4 hb5 hr ⟨n1, n2⟩ ht hJ hrun hk sv hsv.symm (.inl ⟨cv, ctk, rfl, rfl⟩)
      · have : tk = false := by
          rw [← htk]
          have h2' : ¬ l.ph = 2 := fun e => ctk (.inl e)
          have h1' : ¬ sv = 1 := fun e => ctk (.inr e)
          simp [h2', h1']
        subst this
        rw [if_neg (by decide)] at h2
        simp only [Option.some.injEq, Prod.mk.injEq, decide_eq_true_eq] at h2
        obtain ⟨rfl, -, hk⟩ := h2
        exact phi_take l.ph l.sg l.wd ratio x.req x.ans x.sent x.s0 x.s1 x.r0 x.r1 x.taken x.last x.run sv x.taken run hl.ph hl.sg hb0 hb1 hb2 hb3 hb4 hb5 hr ⟨n1, n2⟩ ht hJ hrun hk sv hsv.symm (.inr (.inl ⟨cv, ctk, rfl, rfl⟩))
/-- A step to a node at which words are still missing. -/
def NStep (l : Lnk) (ratio : Int) (x z : LN) : Prop := ∃ c right, c < 2 ∧ afterN l (letOf c) ratio x = some (z, right, true) ∧ ¬ z.taken = l.wd
def Chain (l : Lnk) (ratio : Int) : Nat → LN → Prop
  | 0, _ => True
  | n + 1, x => ∃ z, NStep l ratio x z ∧ Chain l ratio n z
theorem chain_less {l : Lnk} {ratio : Int} : ∀ {n m : Nat} {x : LN}, m ≤ n → Chain l ratio n x → Chain l ratio m x
  | n, 0, x, _, _ => trivial
  | 0, m + 1, x, h, _ => absurd h (by omega)
  | n + 1, m + 1, x, h, ⟨z, hz, hc⟩ => ⟨z, hz, chain_less (by omega) hc⟩
/-- A node of a safe link at which words are still missing. -/
def GN (l : Lnk) (ratio : Int) (x : LN) : Prop := (∃ y, SafeN l ratio x y) ∧ JN l x ∧ x.taken < l.wd
theorem GN.start {l : Lnk} {ratio : Int} (hl : LOk l) (hr : 1 ≤ ratio) (hw : ¬ l.wd = 0) : GN l ratio zN := by
  refine ⟨⟨x0K, SafeN.start hl hr⟩, ⟨fun _ => ⟨.inr rfl, .inr (.inr rfl), fun _ _ => rfl⟩, fun h => absurd rfl h, rfl⟩, ?_⟩
  have := hl.wd
  show (0 : Int) < l.wd
  omega
theorem GN.step {l : Lnk} {ratio : Int} (hl : LOk l) (hr : 1 ≤ ratio ∧ ratio ≤ 4) (hs : ∀ v, ¬ (nSys l ratio holdB).acc v) {x z : LN} (h : GN l ratio x) (hz : NStep l ratio x z) : GN l ratio z ∧ phiN l ratio z < phiN l ratio x := by
  obtain ⟨⟨y, hy⟩, hJ, ht⟩ := h
  obtain ⟨c, right, hc, e, hw⟩ := hz
  obtain ⟨hJ', hp⟩ := node_phi hl hr hy.1 hJ ht hc e
  obtain ⟨x', keeps, ⟨rfl, ⟨right', e1⟩, y', e2⟩ | ⟨rfl, e1, y', e2, e3, e5, e6, e7⟩⟩ := safe_step hl hr hs hy c hc
  · rw [e] at e1; cases e1
  · rw [e] at e1
    cases e1
    have hn := e3.1.r0.n5
    exact ⟨⟨⟨y', e3⟩, hJ', by omega⟩, hp⟩
theorem phi_pos {l : Lnk} {ratio : Int} (hl : LOk l) (hr : 1 ≤ ratio ∧ ratio ≤ 4) {x : LN} (h : GN l ratio x) : 0 ≤ phiN l ratio x := by
  obtain ⟨⟨y, hy⟩, hJ, ht⟩ := h
  obtain ⟨-, n1, n2⟩ := hy.1.rn
  have hk : 1 ≤ kI l.sg x.req x.ans x.s0 x.s1 x.r0 x.r1 := by
    unfold kI
    repeat' split
    all_goals omega
  have hp : 0 ≤ pI l.ph x.req x.ans := by
    unfold pI
    repeat' split
    all_goals omega
  have hq : 0 ≤ rI ratio x.req x.ans x.last x.run := by
    unfold rI
    repeat' split
    all_goals omega
  have hm : 0 ≤ kI l.sg x.req x.ans x.s0 x.s1 x.r0 x.r1 * (ratio + 1) := Int.mul_nonneg (by omega) (by omega)
  unfold phiN
  omega
theorem chain_phi {l : Lnk} {ratio : Int} (hl : LOk l) (hr : 1 ≤ ratio ∧ ratio ≤ 4) (hs : ∀ v, ¬ (nSys l ratio holdB).acc v) : ∀ (n : Nat) (x : LN), GN l ratio x → Chain l ratio n x → (n : Int) ≤ phiN l ratio x
  | 0, x, h, _ => phi_pos hl hr h
  | n + 1, x, h, ⟨z, hz, hc⟩ => by
    obtain ⟨h1, h2⟩ := h.step hl hr hs hz
    have := chain_phi hl hr hs n z h1 hc
    omega
theorem phi_start {l : Lnk} {ratio : Int} (hl : LOk l) (hr : 1 ≤ ratio ∧ ratio ≤ 4) : phiN l ratio zN ≤ 400 := by
  have hwd := hl.wd
  have hk : kI l.sg 0 0 0 0 0 0 = 1 := by
    unfold kI
    rcases hl.sg with h | h | h <;> rw [h] <;> rfl
  have hp : pI l.ph 0 0 = 1 := by
    unfold pI
    rcases hl.ph with h | h <;> rw [h] <;> rfl
  have hq : rI ratio 0 0 0 0 = ratio := rfl
  show ((l.wd - 0) * 4 + pI l.ph 0 0) * 20 + kI l.sg 0 0 0 0 0 0 * (ratio + 1) + rI ratio 0 0 0 0 ≤ 400
  rw [hk, hp, hq]
  omega
end Go.Proofs.Ytgmnbpdfdagniaa.A
/- The link: the program's search for the longest way of a safe link's nodes. No conditions. -/
namespace Go.Proofs.Ytgmnbpdfdagniaa.A
open Go.RowKit Go.Proofs.YtgmnbpdfdagniaaW.PrintWords Go.Proofs.YtgmnbpdfdagniaaW.PrintLast Go.Proofs.YtgmnbpdfdagniaaW.PrintMore
set_option linter.unusedVariables false
set_option linter.unusedSimpArgs false
/-- v is the length of the longest way from a node. -/
def LP (l : Lnk) (ratio : Int) (x : LN) (v : Int) : Prop := 0 ≤ v ∧ Chain l ratio v.toNat x ∧ ¬ Chain l ratio (v.toNat + 1) x
def Path (l : Lnk) (ratio : Int) : Nat → LN → LN → Prop
  | 0, a, b => a = b
  | n + 1, a, b => ∃ z, NStep l ratio a z ∧ Path l ratio n z b
theorem path_snoc {l : Lnk} {ratio : Int} : ∀ {n : Nat} {a x z : LN}, Path l ratio n a x → NStep l ratio x z → Path l ratio (n + 1) a z
  | 0, a, x, z, h, hz => by cases h; exact ⟨z, hz, rfl⟩
  | n + 1, a, x, z, ⟨b, hb, h⟩, hz => ⟨b, hb, path_snoc h hz⟩
theorem path_chain {l : Lnk} {ratio : Int} : ∀ {n m : Nat} {a b : LN}, Path l ratio n a b → Chain l ratio m b → Chain l ratio (n + m) a
  | 0, m, a, b, h, hc => by cases h; rwa [Nat.zero_add]
  | n + 1, m, a, b, ⟨z, hz, h⟩, hc => by
    rw [show n + 1 + m = (n + m) + 1 by omega]
    exact ⟨z, hz, path_chain h hc⟩
theorem ring_chain {l : Lnk} {ratio : Int} {n : Nat} {x : LN} (h : Path l ratio (n + 1) x x) : ∀ k, Chain l ratio k x
  | 0 => trivial
  | k + 1 => chain_less (by omega) (path_chain h (ring_chain h k))
/-- What is known of the nodes that have been seen: their longest ways, or -1 on the way that is gone just now. -/
def Kn (l : Lnk) (ratio : Int) (M : MapI) (anc : List LN) : Prop := ∀ z v, lookN M z = some v → LP l ratio z v ∨ (v = -1 ∧ z ∈ anc)
theorem lookN_setN {α : Type} : ∀ (M : List (LN × α)) (x : LN) (u : α) (z : LN), lookN (setN M x u) z = if sameN z x = true then some u else lookN M z
  | [], x, u, z => rfl
  | p :: M, x, u, z => by
    simp only [setN]
    by_cases h : sameN x p.1 = true
    · rw [if_pos h]
      have hx := (sameN_iff _ _).1 h
      subst hx
      simp only [lookN]
      split <;> rfl
    · rw [if_neg h]
      simp only [lookN]
      rw [lookN_setN M x u z]
      by_cases h1 : sameN z p.1 = true
      · rw [if_pos h1]
        have hz := (sameN_iff _ _).1 h1
        subst hz
        rw [if_neg (fun e => h ((sameN_iff _ _).2 ((sameN_iff _ _).1 e).symm))]
        rw [if_pos h1]
      · rw [if_neg h1, if_neg h1]
/-- How far the ways of a node have been gone through: letters below c. -/
structure LW (l : Lnk) (ratio : Int) (x : LN) (d c : Nat) (most : Int) : Prop where
  rng : 0 ≤ most ∧ most ≤ d
  wit : Chain l ratio most.toNat x
  all : ∀ c' z right, c' < c → afterN l (letOf c') ratio x = some (z, right, true) → ¬ z.taken = l.wd → ¬ Chain l ratio most.toNat z
theorem lg_let {l : Lnk} {ratio : Int} (hl : LOk l) (hr : 1 ≤ ratio ∧ ratio ≤ 4) (hs : ∀ v, ¬ (nSys l ratio holdB).acc v) {x : LN} {d : Nat} {anc : List LN} (hd1 : d ≤ 1000) (hx : GN l ratio x) (hd : ¬ Chain l ratio (d + 1) x)
    (rec : LN → MapI → Option (Int × Bool × MapI)) (hrec : ∀ z M, NStep l ratio x z → Kn l ratio M (x :: anc) → ∃ v M', rec z M = some (v, true, M') ∧ LP l ratio z v ∧ v < d ∧ Kn l ratio M' (x :: anc))
    {c : Nat} (hc : c < 2) {most : Int} {M : MapI} (hL : LW l ratio x d c most) (hM : Kn l ratio M (x :: anc)) (Ls : List Int) :
    ∃ most' M', lgLet rec l ratio x (letOf c :: Ls) most M = lgLet rec l ratio x Ls most' M' ∧ LW l ratio x d (c + 1) most' ∧ Kn l ratio M' (x :: anc) := by
  obtain ⟨⟨y, hy⟩, hJ, ht⟩ := id hx
  simp only [lgLet]
  have hold : ∀ {z : LN} {right : Bool} {b : Bool}, afterN l (letOf c) ratio x = some (z, right, b) → (b = false ∨ z.taken = l.wd) → LW l ratio x d (c + 1) most := by
    intro z right b e hb
    refine ⟨hL.rng, hL.wit, fun c' z' right' hc' e' hw => ?_⟩
    rcases (show c' < c ∨ c' = c by omega) with h | h
    · exact hL.all c' z' right' h e' hw
    · subst h
      rw [e] at e'
      cases e'
      rcases hb with hb | hb
      · cases hb
      · exact absurd hb hw
  obtain ⟨x', keeps, ⟨rfl, ⟨right, e1⟩, y', e2⟩ | ⟨rfl, e1, y', e2, e3, e5, e6, e7⟩⟩ := safe_step hl hr hs hy c hc
  · rw [e1, Option.bind_some]
    rw [if_neg (by simp)]
    exact ⟨most, M, rfl, hold e1 (.inl rfl), hM⟩
  · rw [e1, Option.bind_some]
    by_cases hw : x'.taken = l.wd
    · rw [if_neg (fun z => z.2 hw)]
      exact ⟨most, M, rfl, hold e1 (.inr hw), hM⟩
    · rw [if_pos ⟨rfl, hw⟩]
      have hst : NStep l ratio x x' := ⟨c, true, hc, e1, hw⟩
      obtain ⟨v, M', er, hv, hvd, hM'⟩ := hrec x' M hst hM
      dsimp only
      rw [er, Option.bind_some]
      dsimp only
      rw [if_pos rfl]
      obtain ⟨v0, v1, v2⟩ := hv
      have hwv : wrap64 (v + 1) = v + 1 := small64 (by omega) (by omega)
      rw [hwv]
      refine ⟨max most (v + 1), M', rfl, ?_, hM'⟩
      have hrng := hL.rng
      refine ⟨by omega, ?_, fun c' z' right' hc' e' hw' hch => ?_⟩
      · rcases Int.le_total most (v + 1) with h | h
        · rw [Int.max_eq_right h, show (v + 1).toNat = v.toNat + 1 by omega]
          exact ⟨x', hst, v1⟩
        · rw [Int.max_eq_left h]
          exact hL.wit
      · rcases (show c' < c ∨ c' = c by omega) with h | h
        · exact hL.all c' z' right' h e' hw' (chain_less (by omega) hch)
        · subst h
          rw [e1] at e'
          cases e'
          exact v2 (chain_less (by omega) hch)
theorem lg_ok {l : Lnk} {ratio : Int} (hl : LOk l) (hr : 1 ≤ ratio ∧ ratio ≤ 4) (hs : ∀ v, ¬ (nSys l ratio holdB).acc v) : ∀ (d : Nat), d ≤ 1000 → ∀ (n : Nat) (x : LN) (M : MapI) (anc : List LN), d < n → GN l ratio x → ¬ Chain l ratio (d + 1) x → (∀ a ∈ anc, ∃ k, Path l ratio (k + 1) a x) → Kn l ratio M anc →
    ∃ v M', lgF l ratio n x M = some (v, true, M') ∧ LP l ratio x v ∧ v < d + 1 ∧ Kn l ratio M' anc := by
  intro d
  induction d with
  | zero =>
    intro hd1 n x M anc hn hx hd ha hM
    obtain ⟨n, rfl⟩ : ∃ k, n = k + 1 := ⟨n - 1, by omega⟩
    simp only [lgF]
    cases hlo : lookN M x with
    | some v =>
      rcases hM x v hlo with h | ⟨h1, h2⟩
      · refine ⟨v, M, ?_, h, ?_, hM⟩
        · simp [h.1]
        · have := h.1
          by_cases hv : v < ((0 : Nat) : Int) + 1
          · exact hv
          · exact absurd (chain_less (by omega) h.2.1) hd
      · obtain ⟨k, hk⟩ := ha x h2
        exact absurd (ring_chain hk _) hd
    | none =>
      have hK0 : Kn l ratio (setN M x (-1)) (x :: anc) := by
        intro z v hz
        rw [lookN_setN] at hz
        by_cases hzx : sameN z x = true
        · rw [if_pos hzx] at hz
          cases hz
          exact .inr ⟨rfl, by rw [(sameN_iff _ _).1 hzx]; exact List.mem_cons_self ..⟩
        · rw [if_neg hzx] at hz
          rcases hM z v hz with h | ⟨h1, h2⟩
          · exact .inl h
          · exact .inr ⟨h1, List.mem_cons_of_mem _ h2⟩
      have hno : ∀ z, ¬ NStep l ratio x z := fun z hz => hd ⟨z, hz, trivial⟩
      have hrec : ∀ z M, NStep l ratio x z → Kn l ratio M (x :: anc) → ∃ v M', lgF l ratio n z M = some (v, true, M') ∧ LP l ratio z v ∧ v < ((0 : Nat) : Int) ∧ Kn l ratio M' (x :: anc) := fun z M hz => absurd hz (hno z)
      have hLW : LW l ratio x 0 0 0 := ⟨by omega, trivial, fun c' z right h => absurd h (by omega)⟩
      obtain ⟨m1, M1, e1, hL1, hM1⟩ := lg_let hl hr hs hd1 hx hd (lgF l ratio n) hrec (c := 0) (by omega) hLW hK0 [letOf 1]
      obtain ⟨m2, M2, e2, hL2, hM2⟩ := lg_let hl hr hs hd1 hx hd (lgF l ratio n) hrec (c := 1) (by omega) hL1 hM1 []
      have hLP : LP l ratio x m2 := by
        refine ⟨hL2.rng.1, hL2.wit, ?_⟩
        rintro ⟨z, ⟨c, right, hc, e, hw⟩, hch⟩
        exact hL2.all c z right hc e hw hch
      refine ⟨m2, setN M2 x m2, ?_, hLP, ?_, ?_⟩
      · show lgLet (lgF l ratio n) l ratio x [letOf 0, letOf 1] 0 (setN M x (-1)) = _
        rw [e1, e2]
        rfl
      · have := hL2.rng; omega
      · intro z v hz
        rw [lookN_setN] at hz
        by_cases hzx : sameN z x = true
        · rw [if_pos hzx] at hz
          cases hz
          rw [(sameN_iff _ _).1 hzx]
          exact .inl hLP
        · rw [if_neg hzx] at hz
          rcases hM2 z v hz with h | ⟨h1, h2⟩
          · exact .inl h
          · rcases List.mem_cons.1 h2 with h2 | h2
            · exact absurd ((sameN_iff _ _).2 h2) hzx
            · exact .inr ⟨h1, h2⟩
  | succ d ih =>
    intro hd1 n x M anc hn hx hd ha hM
    obtain ⟨n, rfl⟩ : ∃ k, n = k + 1 := ⟨n - 1, by omega⟩
    simp only [lgF]
    cases hlo : lookN M x with
    | some v =>
      rcases hM x v hlo with h | ⟨h1, h2⟩
      · refine ⟨v, M, ?_, h, ?_, hM⟩
        · simp [h.1]
        · have := h.1
          by_cases hv : v < ((d + 1 : Nat) : Int) + 1
          · exact hv
          · exact absurd (chain_less (by omega) h.2.1) hd
      · obtain ⟨k, hk⟩ := ha x h2
        exact absurd (ring_chain hk _) hd
    | none =>
      have hK0 : Kn l ratio (setN M x (-1)) (x :: anc) := by
        intro z v hz
        rw [lookN_setN] at hz
        by_cases hzx : sameN z x = true
        · rw [if_pos hzx] at hz
          cases hz
          exact .inr ⟨rfl, by rw [(sameN_iff _ _).1 hzx]; exact List.mem_cons_self ..⟩
        · rw [if_neg hzx] at hz
          rcases hM z v hz with h | ⟨h1, h2⟩
          · exact .inl h
          · exact .inr ⟨h1, List.mem_cons_of_mem _ h2⟩
      have hrec : ∀ z M, NStep l ratio x z → Kn l ratio M (x :: anc) → ∃ v M', lgF l ratio n z M = some (v, true, M') ∧ LP l ratio z v ∧ v < ((d + 1 : Nat) : Int) ∧ Kn l ratio M' (x :: anc) := by
        intro z M hz hM
        refine (ih (by omega) n z M (x :: anc) (by omega) (hx.step hl hr hs hz).1 (fun h => hd ⟨z, hz, h⟩) ?_ hM).imp fun v h => h.imp fun M' h => ⟨h.1, h.2.1, by omega, h.2.2.2⟩
        intro a hain
        rcases List.mem_cons.1 hain with rfl | h
        · exact ⟨0, z, hz, rfl⟩
        · obtain ⟨k, hk⟩ := ha a h
          exact ⟨k + 1, path_snoc hk hz⟩
      have hLW : LW l ratio x (d + 1) 0 0 := ⟨by omega, trivial, fun c' z right h => absurd h (by omega)⟩
      obtain ⟨m1, M1, e1, hL1, hM1⟩ := lg_let hl hr hs hd1 hx hd (lgF l ratio n) hrec (c := 0) (by omega) hLW hK0 [letOf 1]
      obtain ⟨m2, M2, e2, hL2, hM2⟩ := lg_let hl hr hs hd1 hx hd (lgF l ratio n) hrec (c := 1) (by omega) hL1 hM1 []
      have hLP : LP l ratio x m2 := by
        refine ⟨hL2.rng.1, hL2.wit, ?_⟩
        rintro ⟨z, ⟨c, right, hc, e, hw⟩, hch⟩
        exact hL2.all c z right hc e hw hch
      refine ⟨m2, setN M2 x m2, ?_, hLP, ?_, ?_⟩
      · show lgLet (lgF l ratio n) l ratio x [letOf 0, letOf 1] 0 (setN M x (-1)) = _
        rw [e1, e2]
        rfl
      · have := hL2.rng; omega
      · intro z v hz
        rw [lookN_setN] at hz
        by_cases hzx : sameN z x = true
        · rw [if_pos hzx] at hz
          cases hz
          rw [(sameN_iff _ _).1 hzx]
          exact .inl hLP
        · rw [if_neg hzx] at hz
          rcases hM2 z v hz with h | ⟨h1, h2⟩
          · exact .inl h
          · rcases List.mem_cons.1 h2 with h2 | h2
            · exact absurd ((sameN_iff _ _).2 h2) hzx
            · exact .inr ⟨h1, h2⟩
/-- The program's search at the first node. -/
theorem lg_start {l : Lnk} {ratio : Int} (hl : LOk l) (hr : 1 ≤ ratio ∧ ratio ≤ 4) (hs : ∀ v, ¬ (nSys l ratio holdB).acc v) (hw : ¬ l.wd = 0) (n : Nat) (hn : 1000 < n) : ∃ v M', lgF l ratio n zN [] = some (v, true, M') ∧ LP l ratio zN v ∧ v ≤ 400 := by
  have hg := GN.start hl hr.1 hw
  have hno : ¬ Chain l ratio (400 + 1) zN := fun h => by
    have := chain_phi hl hr hs _ zN hg h
    have := phi_start hl hr
    omega
  obtain ⟨v, M', e, hv, hvd, _⟩ := lg_ok hl hr hs 400 (by omega) n zN [] [] (by omega) hg hno (fun a h => by cases h) (fun z v h => by cases h)
  exact ⟨v, M', e, hv, by omega⟩
end Go.Proofs.Ytgmnbpdfdagniaa.A
