/- Texts of this claim, put together by this session's pack2.py: each part is introduced by its own comment. No conditions. -/
import Derived.Test.YtbemhcdklmcbcaaGreatDoorQ23
import Derived.Test.YtbemhcdklmcbcaaGreatDoorA3
import Derived.Test.YtbemhcdklmcbcaaGreatDoorQ27
/- What is left to prove of the law FnNumbers, about numbers and lists alone. Written by this session's row2.py. No conditions. -/
namespace Go.Proofs.YtbemhcdklmcbcaaGreatDoor.A
open Go.RowKit Go.Proofs.YtbemhcdklmcbcaaGreatDoorW.PrintWords Go.Proofs.YtbemhcdklmcbcaaGreatDoorW.PrintLast Go.Proofs.YtbemhcdklmcbcaaGreatDoor.O
def laws_FnNumbers.Pure : Prop := ∀ (x0 : List Int) (x1 : List Int), Wf_L5 x0 → Wf_L5 x1 → ∃ k, laws_FnNumbers.f k x0 x1 = some true
end Go.Proofs.YtbemhcdklmcbcaaGreatDoor.A
/- The pure side of FnNumbers: fractions can be added and taken away again, multiplied and divided again by what is not 0, and are read from their texts; and the product of a greatest common divisor and a least common multiple is that of both numbers. No conditions. -/
namespace Go.Proofs.YtbemhcdklmcbcaaGreatDoor.Pure
set_option linter.unusedVariables false
set_option linter.unusedSimpArgs false
open Go.RowKit Go.Proofs.YtbemhcdklmcbcaaGreatDoor.A Go.Proofs.YtbemhcdklmcbcaaGreatDoorW.PrintWords Go.Proofs.YtbemhcdklmcbcaaGreatDoorW.PrintLast Go.Proofs.YtbemhcdklmcbcaaGreatDoorW.PrintMore
/-- Two fractions of one value, one of them in lowest terms. -/
theorem cross_low {A B n d : Int} (hB : 1 ≤ B) (hd : 1 ≤ d) (hg : Nat.gcd n.natAbs d.natAbs = 1) (h : A * d = n * B) : numI A B = n ∧ denI A B = d := by
  obtain ⟨g, hg0, e1, e2, e3, e4⟩ := low_parts A B hB
  obtain ⟨x, hx⟩ : ∃ x, numI A B = x := ⟨_, rfl⟩
  obtain ⟨y, hy⟩ : ∃ y, denI A B = y := ⟨_, rfl⟩
  rw [hx, hy] at e4
  rw [hx] at e1; rw [hy] at e2 e3
  rw [hx, hy]
  have c : x * d = n * y := by
    have : (g : Int) * (x * d) = (g : Int) * (n * y) := by
      rw [e1] at h; conv at h => rhs; rw [e2]
      grind
    exact Int.eq_of_mul_eq_mul_left (by omega) this
  have cn : x.natAbs * d.natAbs = n.natAbs * y.natAbs := by rw [← Int.natAbs_mul, ← Int.natAbs_mul, c]
  have d1 : d.natAbs ∣ y.natAbs := (Nat.Coprime.symm hg).dvd_of_dvd_mul_left ⟨x.natAbs, by rw [← cn, Nat.mul_comm]⟩
  have d2 : y.natAbs ∣ d.natAbs := (Nat.Coprime.symm e4).dvd_of_dvd_mul_left ⟨n.natAbs, by rw [cn, Nat.mul_comm]⟩
  have e : y.natAbs = d.natAbs := Nat.dvd_antisymm d2 d1
  have ey : y = d := by omega
  subst ey
  exact ⟨Int.eq_of_mul_eq_mul_right (by omega) c, rfl⟩
theorem numI_neg (A B : Int) (hB : B ≠ 0) : numI (-A) (-B) = numI A B ∧ denI (-A) (-B) = denI A B := by
  unfold numI denI gcdI
  rw [Int.natAbs_neg, Int.natAbs_neg]
  refine ⟨?_, rfl⟩
  by_cases h0 : A = 0
  · subst h0; simp [sgn]
  · congr 1
    by_cases s : A < 0 <;> by_cases s' : B < 0 <;> simp [s, s'] <;> omega
theorem cross_low' {A B n d : Int} (hB : B ≠ 0) (hd : 1 ≤ d) (hg : Nat.gcd n.natAbs d.natAbs = 1) (h : A * d = n * B) : numI A B = n ∧ denI A B = d := by
  by_cases c : 0 < B
  · exact cross_low c hd hg h
  · rw [← (numI_neg A B hB).1, ← (numI_neg A B hB).2]
    exact cross_low (by omega) hd hg (by rw [Int.neg_mul, Int.mul_neg, h])
/-- A small fraction in lowest terms, as it is drawn. -/
structure Sm (n d : Int) : Prop where
  n0 : -20 ≤ n
  n1 : n ≤ 39
  d0 : 1 ≤ d
  d1 : d ≤ 40
  g : Nat.gcd n.natAbs d.natAbs = 1
theorem Sm.ok {n d : Int} (h : Sm n d) : okF n d = true := okF_iff.2 ⟨⟨h.d0, by have := h.d1; omega⟩, ⟨by have := h.n0; omega, by have := h.n1; omega⟩, h.g⟩
theorem ev_frac {l : List Int} (h : U8 l) : ∃ n d, Sm n d ∧ Ev (fun k => spec_B10Fraction.f k l) (n, d) := by
  obtain ⟨v, s, e, v0, v1⟩ := pick_small h 0 0 60 (by omega) (by omega) (by omega) (by omega)
  obtain ⟨v2, s2, e2, z0, z1⟩ := pick_small h (0 + 1) s 40 (by omega) (by omega) (by omega) (by omega)
  have l1 := lowest (v - 20) (1 + v2) (by omega)
  have n1 := numI_le (v - 20) (1 + v2)
  have d1 := denI_le (v - 20) (1 + v2)
  have hs : (0 ≤ v - 20 → 0 ≤ numI (v - 20) (1 + v2)) ∧ (v - 20 ≤ 0 → numI (v - 20) (1 + v2) ≤ 0) := by
    obtain ⟨g, hg, a1, -, -, -⟩ := low_parts (v - 20) (1 + v2) (by omega)
    generalize numI (v - 20) (1 + v2) = x at *
    have hgp : (0 : Int) < g := by omega
    constructor
    · intro c
      by_cases q : x < 0
      · have := Int.mul_neg_of_pos_of_neg hgp q; omega
      · omega
    · intro c
      by_cases q : 0 < x
      · have := Int.mul_pos hgp q; omega
      · omega
  refine ⟨numI (v - 20) (1 + v2), denI (v - 20) (1 + v2), ⟨by omega, by omega, l1.1, by omega, l1.2⟩, ?_⟩
  unfold spec_B10Fraction.f spec_l00From.f
  simp only [Option.bind_some, e, e2]
  rw [w64' (x := v - 20) (by omega) (by omega), w64' (x := 1 + v2) (by omega) (by omega)]
  exact Ev.bind (ev_at (specFMake _ _ (by omega) (by omega) (by omega))) (Ev.now _)
theorem sm_mul {x y : Int} (hx : -40 ≤ x ∧ x ≤ 40) (hy : -40 ≤ y ∧ y ≤ 40) : -1600 ≤ x * y ∧ x * y ≤ 1600 := by
  have h : (x * y).natAbs ≤ 40 * 40 := by rw [Int.natAbs_mul]; exact Nat.mul_le_mul (by omega) (by omega)
  omega
theorem mul_bd {x y : Int} (a b : Nat) (hx : x.natAbs ≤ a) (hy : y.natAbs ≤ b) : (x * y).natAbs ≤ a * b := by rw [Int.natAbs_mul]; exact Nat.mul_le_mul hx hy
/-- The law's second half: greatest common divisors and least common multiples. -/
theorem ev_gcd (l0 l1 : List Int) (u0 : U8 l0) (u1 : U8 l1) (n d : Int) (h : Sm n d) : Ev (fun k => laws_FnNumbers.j1 k l0 l1 false n d) true := by
  obtain ⟨x1, e1, p1, q1⟩ := b10At_eq u0 1 256 (by omega) (by omega)
  obtain ⟨x2, e2, p2, q2⟩ := b10At_eq u1 1 256 (by omega) (by omega)
  obtain ⟨x, hx⟩ := Int.eq_ofNat_of_zero_le (show 0 ≤ 1 + x1 by omega)
  obtain ⟨y, hy⟩ := Int.eq_ofNat_of_zero_le (show 0 ≤ 1 + x2 by omega)
  have hx1 : 1 ≤ x ∧ x ≤ 256 := by omega
  have hy1 : 1 ≤ y ∧ y ≤ 256 := by omega
  have hg : Ev (fun k => impl_gcd.f k (x : Int) (y : Int)) ((Nat.gcd x y : Nat) : Int) := by
    refine ⟨y + 1, fun k hk => ?_⟩
    have h_ := gcdI_loop y (x : Int) (y : Int) (by simp) (by simp; omega) (by simp; omega) (k - (y + 1))
    rw [Nat.sub_add_cancel hk] at h_
    show impl_gcd.l0 k (x : Int) (y : Int) = _
    simpa using h_
  have g1 : 1 ≤ Nat.gcd x y := Nat.gcd_pos_of_pos_left _ (by omega)
  have g2 : Nat.gcd x y ≤ x := Nat.gcd_le_left _ (by omega)
  obtain ⟨a, ha⟩ := Nat.gcd_dvd_left x y
  obtain ⟨b, hb⟩ := Nat.gcd_dvd_right x y
  obtain ⟨g, hgg⟩ : ∃ g, Nat.gcd x y = g := ⟨_, rfl⟩
  rw [hgg] at hg g1 g2 ha hb
  have pos : ∀ z : Nat, 1 ≤ z → z ≤ 256 → impl_isPositive.f (z : Int) = some true := by
    intro z h1 h2
    unfold impl_isPositive.f
    rw [within_is, decide_eq_true (by omega)]; rfl
  have hG : Ev (fun k => impl_GcdOf.f k (x : Int) (y : Int)) ((g : Int), true) := by
    unfold impl_GcdOf.f
    rw [pos x hx1.1 hx1.2, pos y hy1.1 hy1.2]
    simp only [Option.bind_some, if_true]
    exact Ev.bind hg (Ev.now _)
  have hxa : x / g = a := by rw [ha, Nat.mul_div_cancel_left _ (by omega)]
  have ha1 : a ≤ 256 := by
    have : a ≤ x := by rw [← hxa]; exact Nat.div_le_self _ _
    omega
  have hay : a * y ≤ 256 * 256 := Nat.mul_le_mul ha1 hy1.2
  have hL : Ev (fun k => impl_LcmOf.f k (x : Int) (y : Int)) (((a * y : Nat) : Int), true) := by
    unfold impl_LcmOf.f
    rw [pos x hx1.1 hx1.2, pos y hy1.1 hy1.2]
    simp only [Option.bind_some, if_true]
    refine Ev.bind (a := (((a * y : Nat) : Int), true)) ?_ (Ev.now _)
    unfold impl_lcm.f
    refine Ev.bind hg ?_
    have t1 : Int.tdiv (x : Int) (g : Int) = (a : Int) := by
      rw [Int.tdiv_eq_ediv_of_nonneg (by omega), ← Int.natCast_ediv, hxa]
    have t2 : Int.tdiv (1000000000000000000 : Int) (y : Int) = 1000000000000000000 / (y : Int) := Int.tdiv_eq_ediv_of_nonneg (by omega)
    have t3 : 256 ≤ 1000000000000000000 / (y : Int) := (Int.le_ediv_iff_mul_le (by omega)).2 (by omega)
    have t4 : 1000000000000000000 / (y : Int) ≤ 1000000000000000000 := Int.ediv_le_self _ (by omega)
    obtain ⟨Q, hQ⟩ : ∃ Q, 1000000000000000000 / (y : Int) = Q := ⟨_, rfl⟩
    rw [hQ] at t2 t3 t4
    rw [if_neg (by omega), if_neg (by omega), t1, t2, w64' (x := (a : Int)) (by omega) (by omega), w64' (x := Q) (by omega) (by omega), if_neg (by omega), ← Int.natCast_mul]
    generalize a * y = z at *
    rw [w64' (x := (z : Int)) (by omega) (by omega)]
    exact Ev.now _
  have mk : impl_MakeFraction.f ((-6) * n) ((-6) * d) = some (n, d, true) := by
    have := h.n0; have := h.n1; have := h.d0; have := h.d1
    rw [make_small _ _ (by omega) (by omega) (by omega)]
    obtain ⟨r1, r2⟩ := cross_low' (A := (-6) * n) (B := (-6) * d) (by omega) h.d0 h.g (by grind)
    rw [r1, r2]
  refine Ev.step (f := fun k => (impl_GcdOf.f k (x : Int) (y : Int)).bind fun r => (impl_LcmOf.f k (x : Int) (y : Int)).bind fun s => (if r.2 = true then (if s.2 = true then (if r.1 ≥ 1 then (if r.1 = 0 then (none) else (if (Int.tmod (x : Int) r.1) = 0 then (if (Int.tmod (y : Int) r.1) = 0 then (if (x : Int) = 0 then (none) else (if (Int.tmod s.1 (x : Int)) = 0 then (if (y : Int) = 0 then (none) else (if (Int.tmod s.1 (y : Int)) = 0 then (if (wrap64 (r.1 * s.1)) = (wrap64 ((x : Int) * (y : Int))) then (some true) else (none)) else (none))) else (none))) else (none)) else (none))) else (none)) else (none)) else (none))) (fun k => ?_) (Ev.bind hG (Ev.bind hL ?_))
  · have := h.n0; have := h.n1; have := h.d0; have := h.d1
    simp only [laws_FnNumbers.j1]
    rw [if_neg (by decide), e1, Option.bind_some, e2, Option.bind_some, w64' (x := 1 + x1) (by omega) (by omega), w64' (x := 1 + x2) (by omega) (by omega), hx, hy, w64' (x := (-6) * n) (by omega) (by omega), w64' (x := (-6) * d) (by omega) (by omega), mk]
    simp only [Option.bind_some, if_true, beq_self_eq_true, Bool.and_self]
  · simp only [if_true]
    have k1 : Int.tmod (x : Int) (g : Int) = 0 := by rw [Int.tmod_eq_emod_of_nonneg (by omega), ← Int.natCast_emod, ha, Nat.mul_mod_right]; rfl
    have k2 : Int.tmod (y : Int) (g : Int) = 0 := by rw [Int.tmod_eq_emod_of_nonneg (by omega), ← Int.natCast_emod, hb, Nat.mul_mod_right]; rfl
    have k3 : Int.tmod ((a * y : Nat) : Int) (x : Int) = 0 := by
      rw [Int.tmod_eq_emod_of_nonneg (by omega), ← Int.natCast_emod]
      have : a * y = x * b := by rw [ha, hb, ← Nat.mul_assoc, Nat.mul_comm a g]
      rw [this, Nat.mul_mod_right]; rfl
    have k4 : Int.tmod ((a * y : Nat) : Int) (y : Int) = 0 := by rw [Int.tmod_eq_emod_of_nonneg (by omega), ← Int.natCast_emod, Nat.mul_mod_left]; rfl
    have k5 : (g : Int) * ((a * y : Nat) : Int) = (x : Int) * (y : Int) := by
      rw [← Int.natCast_mul, ← Int.natCast_mul, ← Nat.mul_assoc, ← ha]
    rw [if_pos (by omega), if_neg (by omega), if_pos k1, if_pos k2, if_neg (by omega), if_pos k3, if_neg (by omega), if_pos k4, k5, if_pos rfl]
    exact Ev.now _
theorem FnNumbers : laws_FnNumbers.Pure := by
  intro l0 l1 w0 w1
  refine Ev.rounds ?_
  show Ev (fun k => laws_FnNumbers.f k l0 l1) true
  have u0 : U8 l0 := w0.2
  have u1 : U8 l1 := w1.2
  unfold laws_FnNumbers.f
  obtain ⟨t, ht, hsz⟩ := long_eq l0 l1
  simp only [ht, Option.bind_some]
  by_cases htt : t = true
  · subst htt; exact Ev.now _
  have htt : t = false := by simpa using htt
  subst htt
  simp only [Bool.false_eq_true, if_false]
  obtain ⟨an, ad, sa, ea⟩ := ev_frac u0
  obtain ⟨bn, bd, sb, eb⟩ := ev_frac u1
  refine Ev.bind ea (Ev.bind eb ?_)
  clear ea eb ht hsz w0 w1
  have a0 := sa.n0; have a1 := sa.n1; have a2 := sa.d0; have a3 := sa.d1
  have b0 := sb.n0; have b1 := sb.n1; have b2 := sb.d0; have b3 := sb.d1
  have m1 := sm_mul (x := an) (y := bd) (by omega) (by omega)
  have m2 := sm_mul (x := bn) (y := ad) (by omega) (by omega)
  have m3 := sm_mul (x := ad) (y := bd) (by omega) (by omega)
  have m4 := sm_mul (x := an) (y := bn) (by omega) (by omega)
  have m5 : 1 ≤ ad * bd := Int.mul_pos (by omega) (by omega)
  -- the sum
  obtain ⟨g, hg, s1, s2, s3, s4⟩ := low_parts (an * bd + bn * ad) (ad * bd) m5
  have sl := numI_le (an * bd + bn * ad) (ad * bd)
  have tl := denI_le (an * bd + bn * ad) (ad * bd)
  have hadd : impl_AddFractions.f an ad bn bd = some (numI (an * bd + bn * ad) (ad * bd), denI (an * bd + bn * ad) (ad * bd), true) := by
    unfold impl_AddFractions.f
    rw [if_pos ⟨sa.ok, sb.ok⟩, mkF_small _ _ (by omega) (by omega) (by omega)]
  have hsum : impl_SumFractions.f [(⟨an, ad⟩ : S25), ⟨bn, bd⟩] = some (numI (an * bd + bn * ad) (ad * bd), denI (an * bd + bn * ad) (ad * bd), true) := by
    unfold impl_SumFractions.f
    have oka : impl_SumFractions.ok ⟨an, ad⟩ = true := sa.ok
    have okb : impl_SumFractions.ok ⟨bn, bd⟩ = true := sb.ok
    have r1 : addR 0 1 an ad = (an, ad, true) := by
      have ok0 : okF 0 1 = true := by decide
      unfold addR
      rw [if_pos ⟨ok0, sa.ok⟩]
      have e1 : (0 : Int) * ad + an * 1 = an := by omega
      have e2 : (1 : Int) * ad = ad := by omega
      rw [e1, e2, mkF_small _ _ (by omega) (by omega) (by omega), (low_num sa.ok).1, (low_num sa.ok).2]
    have r2 : addR an ad bn bd = (numI (an * bd + bn * ad) (ad * bd), denI (an * bd + bn * ad) (ad * bd), true) := by
      unfold addR
      rw [if_pos ⟨sa.ok, sb.ok⟩, mkF_small _ _ (by omega) (by omega) (by omega)]
    rw [if_pos ⟨by simp, by simp [oka, okb]⟩]
    simp only [sumF, r1, r2, if_true]
  obtain ⟨sn, hsn⟩ : ∃ z, numI (an * bd + bn * ad) (ad * bd) = z := ⟨_, rfl⟩
  obtain ⟨sd, hsd⟩ : ∃ z, denI (an * bd + bn * ad) (ad * bd) = z := ⟨_, rfl⟩
  rw [hsn, hsd] at hadd hsum s4
  rw [hsn] at s1 sl; rw [hsd] at s2 s3 tl
  have oks : okF sn sd = true := okF_iff.2 ⟨by omega, by omega, s4⟩
  have v1 : (sn * bd).natAbs ≤ 3200 * 40 := mul_bd 3200 40 (by omega) (by omega)
  have v2 : (bn * sd).natAbs ≤ 40 * 1600 := mul_bd 40 1600 (by omega) (by omega)
  have v3 : (sd * bd).natAbs ≤ 1600 * 40 := mul_bd 1600 40 (by omega) (by omega)
  have v4 : 1 ≤ sd * bd := Int.mul_pos (by omega) (by omega)
  have hsub : impl_SubFractions.f sn sd bn bd = some (an, ad, true) := by
    unfold impl_SubFractions.f
    rw [if_pos ⟨oks, sb.ok⟩, mkF_small _ _ (by omega) (by omega) (by omega)]
    have cr : (sn * bd - bn * sd) * ad = an * (sd * bd) := by
      have : (g : Int) * ((sn * bd - bn * sd) * ad) = (g : Int) * (an * (sd * bd)) := by
        have e1 : (g : Int) * ((sn * bd - bn * sd) * ad) = ((g * sn) * bd - bn * (g * sd)) * ad := by grind
        have e2 : (g : Int) * (an * (sd * bd)) = an * ((g * sd) * bd) := by grind
        rw [e1, e2, ← s1, ← s2]; grind
      exact Int.eq_of_mul_eq_mul_left (by omega) this
    obtain ⟨r1, r2⟩ := cross_low (A := sn * bd - bn * sd) (B := sd * bd) v4 sa.d0 sa.g cr
    rw [r1, r2]
  -- the product
  obtain ⟨h, hh, p1, p2, p3, p4⟩ := low_parts (an * bn) (ad * bd) m5
  have pl := numI_le (an * bn) (ad * bd)
  have ql := denI_le (an * bn) (ad * bd)
  have hmul : impl_MulFractions.f an ad bn bd = some (numI (an * bn) (ad * bd), denI (an * bn) (ad * bd), true) := by
    unfold impl_MulFractions.f
    rw [if_pos ⟨sa.ok, sb.ok⟩, mkF_small _ _ (by omega) (by omega) (by omega)]
  obtain ⟨pn, hpn⟩ : ∃ z, numI (an * bn) (ad * bd) = z := ⟨_, rfl⟩
  obtain ⟨pd, hpd⟩ : ∃ z, denI (an * bn) (ad * bd) = z := ⟨_, rfl⟩
  rw [hpn, hpd] at hmul p4
  rw [hpn] at p1 pl; rw [hpd] at p2 p3 ql
  have okp : okF pn pd = true := okF_iff.2 ⟨by omega, by omega, p4⟩
  have v5 : (pn * bd).natAbs ≤ 1600 * 40 := mul_bd 1600 40 (by omega) (by omega)
  have v6 : (pd * bn).natAbs ≤ 1600 * 40 := mul_bd 1600 40 (by omega) (by omega)
  have hdiv : impl_DivFractions.f pn pd bn bd = some (if bn ≠ 0 then (an, ad, true) else (0, 0, false)) := by
    unfold impl_DivFractions.f
    by_cases c : bn = 0
    · rw [if_neg (fun z => z.2.2 c), if_neg (fun z => z c)]
    · rw [if_pos ⟨okp, sb.ok, c⟩, if_pos c]
      have nz : pd * bn ≠ 0 := by
        intro z
        rcases Int.mul_eq_zero.1 z with z | z
        · omega
        · exact c z
      rw [mkF_small _ _ nz (by omega) (by omega)]
      have cr : (pn * bd) * ad = an * (pd * bn) := by
        have : (h : Int) * ((pn * bd) * ad) = (h : Int) * (an * (pd * bn)) := by
          have e1 : (h : Int) * ((pn * bd) * ad) = (h * pn) * bd * ad := by grind
          have e2 : (h : Int) * (an * (pd * bn)) = an * ((h * pd) * bn) := by grind
          rw [e1, e2, ← p1, ← p2]; grind
        exact Int.eq_of_mul_eq_mul_left (by omega) this
      obtain ⟨r1, r2⟩ := cross_low' (A := pn * bd) (B := pd * bn) nz sa.d0 sa.g cr
      rw [r1, r2]
  have hcmp : impl_CompareFractions.f an ad bn bd = some (sign (an * bd - bn * ad), true) := by
    unfold impl_CompareFractions.f
    rw [if_pos ⟨sa.ok, sb.ok⟩]
  have w1 : wrap64 (an * bd) = an * bd := w64' (by omega) (by omega)
  have w2 : wrap64 (bn * ad) = bn * ad := by clear w1; exact w64' (by omega) (by omega)
  have c1 : (decide (sign (an * bd - bn * ad) < 0) != decide (an * bd < bn * ad)) = false := by
    clear w1 w2 hcmp hdiv hmul hsub hadd hsum
    unfold sign
    by_cases q : an * bd - bn * ad < 0
    · rw [if_pos q, decide_eq_true (show an * bd < bn * ad by omega)]; rfl
    · rw [if_neg q, decide_eq_false (show ¬ an * bd < bn * ad by omega)]
      split <;> rfl
  have c2 : ((sign (an * bd - bn * ad) == 0) != (an == bn && (ad == bd))) = false := by
    clear w1 w2 hcmp hdiv hmul hsub hadd hsum
    by_cases q : an * bd = bn * ad
    · obtain ⟨r1, r2⟩ := cross_low (A := an) (B := ad) sa.d0 sb.d0 sb.g (by rw [q])
      rw [(low_num sa.ok).1] at r1
      rw [(low_num sa.ok).2] at r2
      subst r1; subst r2
      have : an * ad - an * ad = 0 := by omega
      rw [this]
      simp [sign]
    · have : (an == bn && (ad == bd)) = false := by
        rw [Bool.and_eq_false_iff]
        by_cases z : an = bn
        · right
          rw [beq_eq_false_iff_ne]
          intro z2; subst z; subst z2; exact q rfl
        · left; rw [beq_eq_false_iff_ne]; exact z
      rw [this]
      unfold sign
      by_cases q1 : an * bd - bn * ad < 0
      · rw [if_pos q1]; rfl
      · rw [if_neg q1, if_pos (by omega)]; rfl
  simp only [hadd, hsub, hmul, hsum, hcmp, Option.bind_some, if_true]
  refine Ev.bind (ev_text an ad (by omega) (by omega) sa.ok) (Ev.bind (read_ft an ad (by omega) (by omega) sa.ok) ?_)
  simp only [if_true, beq_self_eq_true, Bool.not_true, Bool.or_false, Bool.false_eq_true, if_false]
  have h_ := valid_is pn pd
  rw [okp] at h_
  refine Ev.bind (ev_at h_) ?_
  simp only [if_true, w1, w2, c1, c2, Bool.false_eq_true, if_false]
  have fin := ev_gcd l0 l1 u0 u1 an ad sa
  refine Ev.step (fun k => ?_) fin
  simp only [laws_FnNumbers.j0]
  rw [if_neg (by decide), hdiv, Option.bind_some]
  by_cases c : bn = 0
  · subst c
    rfl
  · rw [if_pos c]
    have : (true != (bn != 0)) = false := by
      have : (bn != 0) = true := by rw [bne_iff_ne]; exact c
      rw [this]; rfl
    simp only [this, Bool.false_eq_true, if_false, if_true, beq_self_eq_true, Bool.not_true, Bool.or_false]
end Go.Proofs.YtbemhcdklmcbcaaGreatDoor.Pure
