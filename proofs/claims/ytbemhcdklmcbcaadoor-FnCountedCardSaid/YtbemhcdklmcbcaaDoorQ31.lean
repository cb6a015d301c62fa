/- Texts of this claim, put together by this session's pack2.py: each part is introduced by its own comment. No conditions. -/
import Derived.Test.YtbemhcdklmcbcaaDoorQ23
import Derived.Test.YtbemhcdklmcbcaaDoorA3
import Derived.Test.YtbemhcdklmcbcaaDoorQ29
import Derived.Test.YtbemhcdklmcbcaaDoorQ25
/- What is left to prove of the law FnCounted, about numbers and lists alone. Written by this session's row2.py. No conditions. -/
namespace Go.Proofs.YtbemhcdklmcbcaaDoor.A
open Go.RowKit Go.Proofs.YtbemhcdklmcbcaaDoorW.PrintWords Go.Proofs.YtbemhcdklmcbcaaDoorW.PrintLast Go.Proofs.YtbemhcdklmcbcaaDoor.O
def laws_FnCounted.Pure : Prop := ∀ (x0 : List Int) (x1 : List Int), Wf_L5 x0 → Wf_L5 x1 → ∃ k, laws_FnCounted.f k x0 x1 = some true
end Go.Proofs.YtbemhcdklmcbcaaDoor.A
/- The pure side of FnCounted: windows have as many ups as told, no window has fewer or more than the range, and the period of a signal lies between the bounds that counts and spans give. No conditions. -/
namespace Go.Proofs.YtbemhcdklmcbcaaDoor.Pure
set_option linter.unusedVariables false
set_option linter.unusedSimpArgs false
open Go.RowKit Go.Proofs.YtbemhcdklmcbcaaDoor.A Go.Proofs.YtbemhcdklmcbcaaDoorW.PrintWords Go.Proofs.YtbemhcdklmcbcaaDoorW.PrintLast Go.Proofs.YtbemhcdklmcbcaaDoorW.PrintMore
/-! Fractions in lowest terms, compared. -/
theorem sign_neg (x : Int) : decide (sign x < 0) = decide (x < 0) := by unfold sign; split <;> rename_i h <;> (try split) <;> simp_all <;> omega
theorem low_cmp (A B P Q : Int) (hB : 1 ≤ B) (hQ : 1 ≤ Q) : (numI A B * denI P Q - numI P Q * denI A B < 0) ↔ A * Q < P * B := by
  obtain ⟨g, hg, e1, e2, e3, -⟩ := low_parts A B hB
  obtain ⟨h, hh, f1, f2, f3, -⟩ := low_parts P Q hQ
  obtain ⟨a, ha⟩ : ∃ a, numI A B = a := ⟨_, rfl⟩
  obtain ⟨b, hb⟩ : ∃ b, denI A B = b := ⟨_, rfl⟩
  obtain ⟨p, hp⟩ : ∃ p, numI P Q = p := ⟨_, rfl⟩
  obtain ⟨q, hq⟩ : ∃ q, denI P Q = q := ⟨_, rfl⟩
  rw [ha] at e1; rw [hb] at e2; rw [hp] at f1; rw [hq] at f2
  rw [ha, hb, hp, hq]
  have k1 : A * Q = (g * h : Int) * (a * q) := by rw [e1, f2]; grind
  have k2 : P * B = (g * h : Int) * (p * b) := by rw [e2, f1]; grind
  rw [k1, k2]
  have hk : (0 : Int) < (g : Int) * (h : Int) := Int.mul_pos (by omega) (by omega)
  constructor
  · intro c; exact Int.mul_lt_mul_of_pos_left (by omega) hk
  · intro c; have := Int.lt_of_mul_lt_mul_left c (Int.le_of_lt hk); omega
theorem ok_low (A B : Int) (hB : 1 ≤ B ∧ B ≤ 1000000) (hA : 0 ≤ A ∧ A ≤ 1000000) : okF (numI A B) (denI A B) = true := by
  obtain ⟨h1, h2⟩ := lowest A B (by omega)
  have := numI_le A B
  have := denI_le A B
  exact okF_iff.2 ⟨by omega, by omega, h2⟩
theorem num_pos (A B : Int) (hB : 1 ≤ B) (hA : 0 ≤ A) : 0 ≤ numI A B := by
  obtain ⟨g, hg, e1, e2, e3, -⟩ := low_parts A B hB
  by_cases c : numI A B < 0
  · have := Int.mul_neg_of_pos_of_neg (show (0 : Int) < g by omega) c; omega
  · omega
theorem ev_less (A B P Q : Int) (hB : 1 ≤ B ∧ B ≤ 1000000) (hA : 0 ≤ A ∧ A ≤ 1000000) (hQ : 1 ≤ Q ∧ Q ≤ 1000000) (hP : 0 ≤ P ∧ P ≤ 1000000) (h : A * Q < P * B) : Ev (fun k => laws_b10Less.f k (numI A B) (denI A B) (numI P Q) (denI P Q)) true := by
  have o1 := ok_low A B hB hA
  have o2 := ok_low P Q hQ hP
  have c := (low_cmp A B P Q hB.1 hQ.1).2 h
  unfold laws_b10Less.f spec_CompareFractions.f
  refine Ev.bind (a := (sign (numI A B * denI P Q - numI P Q * denI A B), true)) ?_ ?_
  · refine Ev.bind (ev_at (specFIs _ _)) ?_
    simp only [o1, if_true]
    refine Ev.bind (ev_at (specFIs _ _)) ?_
    simp only [o2, if_true]
    refine Ev.bind (ev_at ⟨1, fun K => specFCmpN _ _ _ _ o1 o2 (num_pos A B hB.1 hA.1) (num_pos P Q hQ.1 hP.1) c K⟩) (Ev.now _)
  · simp only [if_true]
    rw [sign_neg, decide_eq_true c]
    exact Ev.now _
/-! Sampled ups. -/
/-- What is known of a sampled signal ahead of tick i: how many ups came, the first one, and the last one. -/
structure Smp (w s x : Int) (i : Nat) (c a b : Int) : Prop where
  c0 : 0 ≤ c
  c1 : c ≤ i
  now : nxT w s x i = x + c * s
  some : (c = 0 ∧ a = -1 ∧ b = -1) ∨ (1 ≤ c ∧ 0 ≤ a ∧ a ≤ b ∧ b < i ∧ a * w ≤ x ∧ x < (a + 1) * w ∧ b * w ≤ x + (c - 1) * s ∧ x + (c - 1) * s < (b + 1) * w ∧ (2 ≤ c → a < b))
theorem smp_step {w s x : Int} (hw : 1 ≤ w) (hs : w ≤ s) (h0 : 0 ≤ x) (h1 : x < s) {i : Nat} {c a b : Int} (h : Smp w s x i c a b) :
    if nxT w s x i < ((i : Int) + 1) * w then Smp w s x (i + 1) (c + 1) (if a < 0 then i else a) i else Smp w s x (i + 1) c a b := by
  have e : nxT w s x (i + 1) = if nxT w s x i < ((i : Int) + 1) * w then nxT w s x i + s else nxT w s x i := rfl
  obtain ⟨q0, q1, q2⟩ := nxT_bound h0 h1 (by omega) hs i
  have hn := h.now
  have hc0 := h.c0
  have hc1 := h.c1
  by_cases c_ : nxT w s x i < ((i : Int) + 1) * w
  · rw [if_pos c_] at e ⊢
    have m1 : (c + 1) * s = c * s + s := by grind
    have m2 : (c + 1 - 1) * s = c * s := by grind
    refine ⟨by omega, by omega, by rw [e, hn, m1]; omega, .inr ?_⟩
    rcases h.some with ⟨z1, z2, z3⟩ | ⟨z1, z2, z3, z4, z5, z6, z7, z8, z9⟩
    · subst z1; subst z2
      rw [if_pos (by omega)]
      rw [Int.zero_mul, Int.add_zero] at hn
      refine ⟨by omega, by omega, by omega, by omega, by omega, by omega, by omega, by omega, by omega⟩
    · rw [if_neg (by omega)]
      refine ⟨by omega, z2, by omega, by omega, z5, z6, by omega, by omega, fun _ => by omega⟩
  · rw [if_neg c_] at e ⊢
    refine ⟨hc0, by omega, by rw [e, hn], ?_⟩
    rcases h.some with ⟨z1, z2, z3⟩ | ⟨z1, z2, z3, z4, z5, z6, z7, z8, z9⟩
    · exact .inl ⟨z1, z2, z3⟩
    · exact .inr ⟨z1, z2, z3, by omega, z5, z6, z7, z8, z9⟩
theorem scale_lt {w s d p u v : Int} (hw : 0 < w) (hsp : s * d = w * p) (hd : 0 < d) (h : u * w < v * s) : u * d < v * p := by
  have h1 := Int.mul_lt_mul_of_pos_right h hd
  have e1 : u * w * d = w * (u * d) := by grind
  have e2 : v * s * d = w * (v * p) := by rw [Int.mul_assoc, hsp]; grind
  rw [e1, e2] at h1
  exact Int.lt_of_mul_lt_mul_left h1 (Int.le_of_lt hw)
theorem scale_gt {w s d p u v : Int} (hw : 0 < w) (hsp : s * d = w * p) (hd : 0 < d) (h : v * s < u * w) : v * p < u * d := by
  have h1 := Int.mul_lt_mul_of_pos_right h hd
  have e1 : u * w * d = w * (u * d) := by grind
  have e2 : v * s * d = w * (v * p) := by rw [Int.mul_assoc, hsp]; grind
  rw [e1, e2] at h1
  exact Int.lt_of_mul_lt_mul_left h1 (Int.le_of_lt hw)
theorem count_ev (C : Int) (h : 2 ≤ C ∧ C ≤ 400) : Ev (fun k => impl_CountBounds.f k C 60) (numI 60 (C + 1), denI 60 (C + 1), numI 60 (C - 1), denI 60 (C - 1), true) := by
  unfold impl_CountBounds.f
  rw [within_is, within_is]
  simp only [Option.bind_some]
  rw [decide_eq_true h, decide_eq_true (by omega)]
  simp only [if_true, Bool.not_true]
  refine Ev.step (f := fun _ => some (numI 60 (C + 1), denI 60 (C + 1), numI 60 (C - 1), denI 60 (C - 1), true)) (fun k => ?_) (Ev.now _)
  simp only [impl_CountBounds.j0]
  rw [if_neg (by decide), w64' (x := C + 1) (by omega) (by omega), w64' (x := C - 1) (by omega) (by omega), make_small _ _ (by omega) (by omega) (by omega), make_small _ _ (by omega) (by omega) (by omega)]
  rfl
theorem span_ev (F L C : Int) (h : 2 ≤ C ∧ C ≤ 400) (h0 : 0 ≤ F) (h1 : F < L) (h2 : L ≤ 400) : Ev (fun k => impl_SpanBounds.f k F L C) (numI (L - F - 1) (C - 1), denI (L - F - 1) (C - 1), numI (L - F + 1) (C - 1), denI (L - F + 1) (C - 1), true) := by
  unfold impl_SpanBounds.f
  rw [within_is, within_is, within_is]
  simp only [Option.bind_some]
  rw [w64' (x := L - 1) (by omega) (by omega), decide_eq_true h, decide_eq_true (p := 1 ≤ L ∧ L ≤ 400) (by omega), decide_eq_true (p := 0 ≤ F ∧ F ≤ L - 1) (by omega)]
  simp only [if_true, Bool.not_true]
  refine Ev.step (f := fun _ => some (numI (L - F - 1) (C - 1), denI (L - F - 1) (C - 1), numI (L - F + 1) (C - 1), denI (L - F + 1) (C - 1), true)) (fun k => ?_) (Ev.now _)
  simp only [impl_SpanBounds.j0]
  rw [if_neg (by decide), w64' (x := L - F) (by omega) (by omega), w64' (x := L - F - 1) (by omega) (by omega), w64' (x := L - F + 1) (by omega) (by omega), w64' (x := C - 1) (by omega) (by omega), make_small _ _ (by omega) (by omega) (by omega), make_small _ _ (by omega) (by omega) (by omega)]
  rfl
theorem wI (i : Int) (h0 : -1000000 ≤ i) (h1 : i ≤ 1000000) : wrap64 (i + 1) = i + 1 := w64' (by omega) (by omega)
theorem ev_signal {w s x d p : Int} (hw : 1 ≤ w) (hs : w ≤ s) (h0 : 0 ≤ x) (h1 : x < s) (hd : 1 ≤ d ∧ d ≤ 9) (hp : d ≤ p ∧ p < 6 * d) (hsp : s * d = w * p) : ∀ (q i : Nat) (c a b : Int), i + q = 60 → Smp w s x i c a b →
    Ev (fun k => laws_FnCounted.l1 k (wv 60 (impl_SampleUps.lev w s x)) c a b (i : Int) (numI p d) (denI p d)) true
  | 0, i, c, a, b, hi, h => by
    obtain rfl : i = 60 := by omega
    obtain ⟨q0, q1, q2⟩ := nxT_bound h0 h1 (show 0 ≤ w by omega) hs 60
    have hn := h.now
    have hc0 := h.c0
    have hc1 := h.c1
    -- the period is less than six ticks
    have s6 : s < 6 * w := by
      have e1 : s * d < 6 * w * d := by
        rw [hsp]
        have := Int.mul_lt_mul_of_pos_left hp.2 (show 0 < w by omega)
        have e2 : w * (6 * d) = 6 * w * d := by grind
        omega
      exact Int.lt_of_mul_lt_mul_right e1 (by omega)
    have e60 : ((60 : Nat) : Int) * w = 60 * w := rfl
    rw [e60, hn] at q1
    have m1 : (c + 1) * s = c * s + s := by grind
    have k1 : 60 * w < (c + 1) * s := by omega
    have c2 : 2 ≤ c := by
      by_cases c_ : 2 ≤ c
      · exact c_
      · have : c * s ≤ 1 * s := Int.mul_le_mul_of_nonneg_right (by omega) (by omega)
        omega
    rcases h.some with ⟨z1, -, -⟩ | ⟨z1, z2, z3, z4, z5, z6, z7, z8, z9⟩
    · omega
    have z9 := z9 c2
    have n1 : (b + 1) * w ≤ 60 * w := Int.mul_le_mul_of_nonneg_right (by omega) (by omega)
    have n2 : (b - a - 1) * w = b * w - (a + 1) * w := by grind
    have n3 : (b - a + 1) * w = (b + 1) * w - a * w := by grind
    have L1 : 60 * d < (c + 1) * p := scale_lt (by omega) hsp (by omega) k1
    have L2 : (c - 1) * p < 60 * d := scale_gt (by omega) hsp (by omega) (by omega)
    have L3 : (b - a - 1) * d < (c - 1) * p := scale_lt (w := w) (s := s) (by omega) hsp (by omega) (by omega)
    have L4 : (c - 1) * p < (b - a + 1) * d := scale_gt (w := w) (s := s) (by omega) hsp (by omega) (by omega)
    have B1 := ev_less 60 (c + 1) p d (by omega) (by omega) (by omega) (by omega) (by rw [Int.mul_comm p]; exact L1)
    have B2 := ev_less p d 60 (c - 1) (by omega) (by omega) (by omega) (by omega) (by rw [Int.mul_comm p]; exact L2)
    have B3 := ev_less (b - a - 1) (c - 1) p d (by omega) (by omega) (by omega) (by omega) (by rw [Int.mul_comm p]; exact L3)
    have B4 := ev_less p d (b - a + 1) (c - 1) (by omega) (by omega) (by omega) (by omega) (by rw [Int.mul_comm p]; exact L4)
    have CB := count_ev c (by omega)
    have SB := span_ev a b c (by omega) z2 z9 (by omega)
    clear q0 q1 q2 n1 n2 n3 m1 k1 L1 L2 L3 L4 z5 z6 z7 z8 hn e60 s6
    refine Ev.step (f := fun k => (impl_CountBounds.f k c 60).bind fun r => (impl_SpanBounds.f k a b c).bind fun u => (if r.2.2.2.2 = true then (if u.2.2.2.2 = true then ((laws_b10Less.f k r.1 r.2.1 (numI p d) (denI p d)).bind fun t419 => (if t419 = true then ((laws_b10Less.f k (numI p d) (denI p d) r.2.2.1 r.2.2.2.1).bind fun t420 => (if t420 = true then ((laws_b10Less.f k u.1 u.2.1 (numI p d) (denI p d)).bind fun t421 => (if t421 = true then ((laws_b10Less.f k (numI p d) (denI p d) u.2.2.1 u.2.2.2.1).bind fun t422 => (some t422)) else (none))) else (none))) else (none))) else (none)) else (none))) (fun k => ?_) ?_
    · simp only [laws_FnCounted.l1]
      rw [if_neg (by decide)]
    refine Ev.bind CB (Ev.bind SB ?_)
    simp only [if_true]
    refine Ev.bind B1 ?_
    simp only [if_true]
    refine Ev.bind B2 ?_
    simp only [if_true]
    refine Ev.bind B3 ?_
    simp only [if_true]
    exact Ev.bind B4 (Ev.now _)
  | q + 1, i, c, a, b, hi, h => by
    have hc0 := h.c0
    have hc1 := h.c1
    have hi1 : (i : Int) < 60 := by clear h; omega
    have hi0 : (0 : Int) ≤ (i : Int) := by clear h; omega
    have hwc : wrap64 (c + 1) = c + 1 := wI c (by clear h; omega) (by clear h; omega)
    have hwi : wrap64 ((i : Int) + 1) = ((i + 1 : Nat) : Int) := wi i (by clear h hwc; omega)
    have hst := smp_step hw hs h0 h1 h
    have hb := wv_bt 60 (impl_SampleUps.lev w s x) i (by clear hst h hwc hwi; omega)
    have hlev : impl_SampleUps.lev w s x i = decide (nxT w s x i < ((i : Int) + 1) * w) := rfl
    have hz : ((wv 60 (impl_SampleUps.lev w s x)).size : Int) = 60 := by rw [wv_size]; rfl
    have hq1 : i + 1 + q = 60 := by clear hst h hwc hwi hb hlev hz; omega
    rw [hlev] at hb
    by_cases c_ : nxT w s x i < ((i : Int) + 1) * w
    · rw [if_pos c_] at hst
      rw [decide_eq_true c_] at hb
      have ih := ev_signal hw hs h0 h1 hd hp hsp q (i + 1) (c + 1) (if a < 0 then i else a) i hq1 hst
      refine Ev.step (fun k => ?_) ih
      simp only [laws_FnCounted.l1]
      rw [hz, if_pos hi1, if_pos hi0, if_pos hi1, hb, if_pos (by decide), hwi, hwc]
      by_cases ca : a < 0
      · rw [if_pos ca, if_pos ca]
      · rw [if_neg ca, if_neg ca]
    · rw [if_neg c_] at hst
      rw [decide_eq_false c_] at hb
      have ih := ev_signal hw hs h0 h1 hd hp hsp q (i + 1) c a b hq1 hst
      refine Ev.step (fun k => ?_) ih
      simp only [laws_FnCounted.l1]
      rw [hz, if_pos hi1, if_pos hi0, if_pos hi1, hb, if_neg (by decide), hwi]
/-- The law's second half: a signal of a drawn period. -/
theorem ev_second (l0 l1 : List Int) (u0 : U8 l0) (u1 : U8 l1) (w : ByteArray) (t : Int) (list : List Int) (lo_ hi_ : Int) : 
    Ev (fun k => laws_FnCounted.l0 k l0 l1 w t list lo_ hi_ (list.length : Int)) true := by
  obtain ⟨x1, e1, p1, q1⟩ := b10At_eq u0 1 9 (by omega) (by omega)
  obtain ⟨d, hd⟩ : ∃ d, 1 + x1 = d := ⟨_, rfl⟩
  obtain ⟨x2, e2, p2, q2⟩ := b10At_eq u0 2 (5 * d) (by omega) (by omega)
  obtain ⟨y, e3, p3, q3⟩ := b10At_eq u1 1 d (by omega) (by omega)
  have hd1 : 1 ≤ d ∧ d ≤ 9 := by omega
  obtain ⟨p, hp⟩ : ∃ p, d + x2 = p := ⟨_, rfl⟩
  have hp1 : d ≤ p ∧ p < 6 * d := by omega
  have o1 := ok_low p d (by omega) (by omega)
  have o2 := ok_low y d (by omega) (by omega)
  obtain ⟨g, hg, a1, a2, a3, -⟩ := low_parts p d (by omega)
  obtain ⟨g', hg', c1, c2, c3, -⟩ := low_parts y d (by omega)
  have s1 := numI_le p d; have s2 := denI_le p d; have s3 := numI_le y d; have s4 := denI_le y d
  obtain ⟨pn, hpn⟩ : ∃ z, numI p d = z := ⟨_, rfl⟩
  obtain ⟨pd, hpd⟩ : ∃ z, denI p d = z := ⟨_, rfl⟩
  obtain ⟨fn, hfn⟩ : ∃ z, numI y d = z := ⟨_, rfl⟩
  obtain ⟨fd, hfd⟩ : ∃ z, denI y d = z := ⟨_, rfl⟩
  have mk1 := make_small p d (by omega) (by omega) (by omega)
  have mk2 := make_small y d (by omega) (by omega) (by omega)
  rw [hpn, hpd] at o1 mk1; rw [hfn, hfd] at o2 mk2
  rw [hpn] at a1 s1; rw [hpd] at a2 a3 s2; rw [hfn] at c1 s3; rw [hfd] at c2 c3 s4
  have fn0 : 0 ≤ fn := by
    by_cases c : fn < 0
    · have : (g' : Int) * fn < 0 := Int.mul_neg_of_pos_of_neg (by omega) c
      omega
    · omega
  have pn0 : pd ≤ pn := by
    by_cases c : pn < pd
    · have := Int.mul_lt_mul_of_pos_left c (show (0 : Int) < g by omega); omega
    · omega
  have fnd : fn < fd := by
    by_cases c : fd ≤ fn
    · have := Int.mul_le_mul_of_nonneg_left c (show (0 : Int) ≤ g' by omega); omega
    · omega
  have m1 : fn * pd < fd * pd := Int.mul_lt_mul_of_pos_right fnd (by omega)
  have m2 : fd * pd ≤ fd * pn := Int.mul_le_mul_of_nonneg_left pn0 (by omega)
  have m3 : fd * pn = pn * fd := Int.mul_comm _ _
  have m4 : 0 ≤ fn * pd := Int.mul_nonneg fn0 (by omega)
  have m5 : 1 ≤ pd * fd := Int.mul_pos (by omega) (by omega)
  have m6 : pd * fd ≤ pn * fd := Int.mul_le_mul_of_nonneg_right pn0 (by omega)
  have hsp : (pn * fd) * d = (pd * fd) * p := by rw [a1, a2]; grind
  have hS : impl_SampleUps.f pn pd fn fd 60 = some (wv 60 (impl_SampleUps.lev (pd * fd) (pn * fd) (fn * pd)), true) := by
    unfold impl_SampleUps.f impl_SampleUps.ok
    rw [o1, o2, decide_eq_true (by omega), if_pos (by decide), text_wv]
    rfl
  have sig := ev_signal (w := pd * fd) (s := pn * fd) (x := fn * pd) m5 m6 m4 (by omega) hd1 hp1 hsp 60 0 0 (-1) (-1) (by omega) ⟨by omega, by omega, by show fn * pd = fn * pd + 0 * (pn * fd); rw [Int.zero_mul, Int.add_zero], .inl ⟨rfl, rfl, rfl⟩⟩
  rw [hpn, hpd] at sig
  refine Ev.step (f := fun k => laws_FnCounted.j2 k (wv 60 (impl_SampleUps.lev (pd * fd) (pn * fd) (fn * pd))) false pn pd) (fun k => ?_) (Ev.step (fun k => ?_) sig)
  · simp only [laws_FnCounted.l0]
    rw [if_neg (by omega), e1, Option.bind_some, w64' (x := 1 + x1) (by omega) (by omega), hd, w64' (x := 5 * d) (by omega) (by omega), e2, Option.bind_some, w64' (x := d + x2) (by omega) (by omega), hp, mk1, Option.bind_some, e3, Option.bind_some, mk2, Option.bind_some, hS, Option.bind_some]
    simp only [if_true]
    rw [wv_size]
    rfl
  · simp only [laws_FnCounted.j2]
    rw [if_neg (by decide)]
    rfl
theorem mulw (a b : Nat) (h : a * b ≤ 1000000) : wrap64 ((a : Int) * (b : Int)) = ((a * b : Nat) : Int) := by
  rw [← Int.natCast_mul]; generalize a * b = q at *; exact w64' (by omega) (by omega)
theorem subw (A B : Int) (h0 : 0 ≤ A ∧ A ≤ 1000000) (h1 : 0 ≤ B ∧ B ≤ 1000000) : wrap64 (A - B) = A - B := w64' (by omega) (by omega)
theorem ev_first (l0 l1 : List Int) (u0 : U8 l0) (u1 : U8 l1) (n : Nat) (f : Nat → Bool) (hn : n ≤ 40) (t : Nat) (ht : 1 ≤ t ∧ t ≤ 12) (lo_ hi_ : Int) (hlh : ∀ a, a + t ≤ n → lo_ ≤ cu f (a + t) - cu f a ∧ cu f (a + t) - cu f a ≤ hi_) : ∀ d k : Nat, k + d = n / t →
    Ev (fun j => laws_FnCounted.l0 j l0 l1 (wv n f) (t : Int) (cwl f t (n / t)) lo_ hi_ (k : Int)) true
  | 0, k, hk => by
    obtain rfl : k = n / t := by omega
    have h := ev_second l0 l1 u0 u1 (wv n f) (t : Int) (cwl f t (n / t)) lo_ hi_
    rw [cwl_length] at h
    exact h
  | d + 1, k, hk => by
    have hk1 : k + 1 + d = n / t := by omega
    have hm : (k + 1) * t ≤ n := (Nat.le_div_iff_mul_le (by omega)).1 (by omega)
    have hm2 : (k + 1) * t = k * t + t := by rw [Nat.add_mul, Nat.one_mul]
    have hq : n / t ≤ n := Nat.div_le_self _ _
    have hkq : k < n / t := by omega
    have hk6 : k ≤ 1000000 := by omega
    have hm3 : k * t ≤ (k + 1) * t := by omega
    have hm4 : k * t + t ≤ n := by omega
    have hm5 : k * t ≤ n := by omega
    have hk0 : (0 : Int) ≤ (k : Int) := by omega
    have hkz : (k : Int) < ((n / t : Nat) : Int) := by omega
    have hn4 : n ≤ 400 := by omega
    have hw1 : wrap64 (((k + 1 : Nat) : Int) * (t : Int)) = (((k + 1) * t : Nat) : Int) := mulw (k + 1) t (by omega)
    have hw2 : wrap64 ((k : Int) * (t : Int)) = ((k * t : Nat) : Int) := mulw k t (by clear hw1; omega)
    have hw3 := wi k hk6
    have hin := hlh (k * t) hm4
    rw [← hm2] at hin
    have c1 := cu0 f ((k + 1) * t)
    have c2 := cu0 f (k * t)
    have hw4 : wrap64 (cu f ((k + 1) * t) - cu f (k * t)) = cu f ((k + 1) * t) - cu f (k * t) := by
      clear hw1 hw2 hw3 hlh
      generalize cu f ((k + 1) * t) = A at *
      generalize cu f (k * t) = B at *
      generalize (k + 1) * t = q at *
      exact subw A B (by omega) (by omega)
    have g1 : ¬ cu f ((k + 1) * t) - cu f (k * t) < lo_ := Int.not_lt.2 hin.1
    have g2 : ¬ cu f ((k + 1) * t) - cu f (k * t) > hi_ := Int.not_lt.2 hin.2
    have ih := ev_first l0 l1 u0 u1 n f hn t ht lo_ hi_ hlh d (k + 1) hk1
    have hr := cwl_rd f t (n / t) k hkq
    have hL := cwl_length f t (n / t)
    have hkL : (k : Int) < ((cwl f t (n / t)).length : Int) := by rw [hL]; exact hkz
    have b1 := b10Ups_wv n f hn4 ((k + 1) * t) hm
    have b2 := b10Ups_wv n f hn4 (k * t) hm5
    refine Ev.step (f := fun j => (laws_b10Ups.f j (wv n f) (((k + 1) * t : Nat) : Int)).bind fun A => (laws_b10Ups.f j (wv n f) ((k * t : Nat) : Int)).bind fun B => (if (cu f ((k + 1) * t) - cu f (k * t)) = (wrap64 (A - B)) then laws_FnCounted.l0 j l0 l1 (wv n f) (t : Int) (cwl f t (n / t)) lo_ hi_ ((k + 1 : Nat) : Int) else none)) (fun j => ?_) (Ev.bind b1 (Ev.bind b2 ?_))
    · simp only [laws_FnCounted.l0]
      rw [if_pos hkL, if_pos hk0, hw3, hw1, hw2, hr]
      simp only [if_neg g1, if_neg g2]
    · simp only [hw4, if_true]
      exact ih
theorem FnCounted : laws_FnCounted.Pure := by
  intro l0 l1 w0 w1
  refine Ev.rounds ?_
  show Ev (fun k => laws_FnCounted.f k l0 l1) true
  have u0 : U8 l0 := w0.2
  have u1 : U8 l1 := w1.2
  unfold laws_FnCounted.f
  obtain ⟨t, ht, hsz⟩ := long_eq l0 l1
  simp only [ht, Option.bind_some]
  by_cases htt : t = true
  · subst htt; exact Ev.now _
  have htt : t = false := by simpa using htt
  subst htt
  simp only [Bool.false_eq_true, if_false]
  obtain ⟨xs, k1, k2, k3⟩ := b10Wave u0
  rw [strOf_wv xs k2] at k3
  obtain ⟨f, hf⟩ : ∃ f : Nat → Bool, (fun i : Nat => rd xs (i : Int) == 49) = f := ⟨_, rfl⟩
  obtain ⟨n, hn⟩ : ∃ n, xs.length = n := ⟨_, rfl⟩
  rw [hf, hn] at k3
  rw [hn] at k1
  refine Ev.bind k3 ?_
  obtain ⟨x0, e0, p0, q0⟩ := b10At_eq u1 0 12 (by omega) (by omega)
  simp only [e0, Option.bind_some]
  simp only [w64' (x := 1 + x0) (by omega) (by omega)]
  obtain ⟨T, hT⟩ := Int.eq_ofNat_of_zero_le (show 0 ≤ 1 + x0 by omega)
  simp only [hT]
  have hT1 : 1 ≤ T ∧ T ≤ 12 := by omega
  clear e0 hf hn k2 ht hsz
  refine Ev.bind (windows_wv n f (by omega) T (by omega)) (Ev.bind (range_wv n f (by omega) T (by omega)) ?_)
  simp only [if_true, cwl_length, wv_size]
  have hT0 : ¬ (T : Int) = 0 := by omega
  have hq : n / T ≤ n := Nat.div_le_self _ _
  have hdiv : wrap64 ((n : Int) / (T : Int)) = ((n / T : Nat) : Int) := by
    rw [← Int.natCast_ediv]
    generalize n / T = q at *
    exact w64' (by omega) (by omega)
  simp only [hdiv, if_neg hT0, bne_self_eq_false]
  by_cases c : T ≤ n
  · rw [if_pos c]
    have hb : (true != decide ((n : Int) ≥ (T : Int))) = false := by rw [decide_eq_true (by clear hdiv; omega)]; rfl
    simp only [hb, Bool.false_eq_true, if_false]
    refine Ev.step (fun k => ?_) (ev_first l0 l1 u0 u1 n f k1 T hT1 (wlo f T (n - T + 1)) (whi f T (n - T + 1)) (fun a ha => wlo_le f T (n - T + 1) a (by omega)) (n / T) 0 (by omega))
    simp only [laws_FnCounted.j0]
    rw [if_neg (by decide)]
    rfl
  · rw [if_neg c]
    have hb : (false != decide ((n : Int) ≥ (T : Int))) = false := by rw [decide_eq_false (by clear hdiv; omega)]; rfl
    simp only [hb, Bool.false_eq_true, if_false]
    refine Ev.step (fun k => ?_) (ev_first l0 l1 u0 u1 n f k1 T hT1 0 0 (fun a ha => by omega) (n / T) 0 (by omega))
    simp only [laws_FnCounted.j0]
    rw [if_neg (by decide)]
    rfl
end Go.Proofs.YtbemhcdklmcbcaaDoor.Pure
